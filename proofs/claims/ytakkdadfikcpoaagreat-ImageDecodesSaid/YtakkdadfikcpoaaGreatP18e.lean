
/- P18e: the chapter's example; the laws ImageBack and ImageOnly in plain words. -/
import Derived.Test.YtakkdadfikcpoaaGreatP18d
namespace Go.Lz
set_option linter.unusedVariables false
set_option linter.unusedSimpArgs false
set_option maxRecDepth 100000
/-- A comparison of a list with itself. -/
theorem loop_self {n : Nat} {f : Nat → Option (Nat ⊕ (Bool ⊕ Unit))} (step : ∀ i, i < n → f i = some (.inl (i + 1))) (last : f n = some (.inr (.inr ()))) : loop f 0 = some (.inr ()) := loop_for (fun i => i) n _ step last
theorem ints_self (l : List Int) : lazarettoref04_Ints l l = some true := by
  unfold lazarettoref04_Ints
  rw [if_pos rfl, loop_self (n := l.length) (fun i hi => by simp [lazarettoref04_Ints_L1, hi]) (by simp [lazarettoref04_Ints_L1])]; rfl
theorem ins_self (l : List api_Ins) : lazarettoref17_Same l l = some true := by
  unfold lazarettoref17_Same
  rw [if_pos rfl, loop_self (n := l.length) (fun i hi => by simp [lazarettoref17_Same_L1, hi]) (by simp [lazarettoref17_Same_L1])]; rfl
theorem lat_self (l : api_Lattice) : lazarettoref01_Same l l = some true := by
  unfold lazarettoref01_Same
  rw [if_pos rfl, if_pos rfl, loop_self (n := l.Names.length) (fun i hi => by simp [lazarettoref01_Same_L1, hi]) (by simp [lazarettoref01_Same_L1]), Option.bind_some]
  simp only
  rw [loop_self (n := l.Below.length) (fun i hi => by simp [lazarettoref01_Same_L2, hi]) (by simp [lazarettoref01_Same_L2])]; rfl
theorem img_self (m : api_Image) : lazarettoref18_Same m m = some true := by
  unfold lazarettoref18_Same
  rw [lat_self, Option.bind_some, if_pos rfl, if_pos rfl, if_pos rfl, if_pos rfl, if_pos rfl, if_pos rfl]
  rw [loop_self (n := m.Sites.length) (fun i hi => by simp [lazarettoref18_Same_L1, hi]) (by simp [lazarettoref18_Same_L1]), Option.bind_some]
  simp only
  rw [loop_self (n := m.Vars.length) (fun i hi => by simp [lazarettoref18_Same_L2, hi]) (by simp [lazarettoref18_Same_L2]), Option.bind_some]
  simp only
  rw [loop_self (n := m.Blocks.length) (fun i hi => by simp [lazarettoref18_Same_L3, hi]) (by simp [lazarettoref18_Same_L3]), Option.bind_some]
  simp only
  rw [loop_self (n := m.Tasks.length) (fun i hi => by simp [lazarettoref18_Same_L4, hi, ints_self]) (by simp [lazarettoref18_Same_L4]), Option.bind_some]
  simp only
  rw [loop_self (n := m.Code.length) (fun i hi => by simp [lazarettoref18_Same_L5, hi, ins_self]) (by simp [lazarettoref18_Same_L5])]; rfl
theorem small_eq (m : api_Image) (h1 : m.Lattice.Names.length ≤ 8) (h2 : m.Lattice.Below = []) (h3 : m.Sites = []) (h4 : m.Vars = []) (h5 : m.Blocks = []) (h6 : m.Tasks = []) (h7 : m.Code = []) (h8 : ∀ s ∈ m.Lattice.Names, s.length ≤ 32) : image_small m = some true := by
  unfold image_small
  have e1 : slices_ContainsFunc_string_string m.Lattice.Names image_small_1 = some (m.Lattice.Names.any fun s => decide (32 < (s.length : Int))) := cf_gen (fun i hi => by
    simp only [slices_IndexFunc_string_string_L1]
    rw [if_pos (by omega), List.getElem?_eq_getElem hi, Option.bind_some]
    unfold image_small_1
    rw [Option.bind_some]
    split <;> rfl) (by simp [slices_IndexFunc_string_string_L1])
  have e3 : (m.Lattice.Names.any fun s => decide (32 < (s.length : Int))) = false := by
    rw [List.any_eq_false]
    intro s hs
    have := h8 s hs
    simp; omega
  have e2 : slices_ContainsFunc__LL_api_Ins_api_Ins [] image_small_2 = some false := by
    unfold slices_ContainsFunc__LL_api_Ins_api_Ins slices_IndexFunc__LL_api_Ins_api_Ins
    rw [loop_inr (r := .inr ()) (by simp [slices_IndexFunc__LL_api_Ins_api_Ins_L1])]; rfl
  rw [h2, h3, h4, h5, h6, h7, if_neg (by omega), if_neg (by simp), if_neg (by simp), if_neg (by simp), if_neg (by simp), if_neg (by simp), e1, e3, Option.bind_some, if_neg (by simp), e2]
  rfl
abbrev oneImg : api_Image := ⟨⟨[[97]], []⟩, [], [], [], [], []⟩
theorem one_c : imgC oneImg = 0 := by
  have : image_Check oneImg = some 0 := by
    unfold image_Check
    rw [small_eq _ (by simp) rfl rfl rfl rfl rfl rfl (by simp), Option.bind_some, if_pos rfl, latCheck, Option.bind_some]
    have : checkN (⟨[[97]], []⟩ : api_Lattice) = 0 := by
      unfold checkN
      simp [nodeBad]
    rw [this, if_pos rfl]
    unfold image_parts
    rw [loop_inr (r := .inr ()) (by simp [image_parts_L1]), Option.bind_some]
    simp only
    rw [loop_inr (r := .inr ()) (by simp [image_parts_L2]), Option.bind_some]
    simp only
    rw [loop_inr (r := .inr ()) (by simp [image_parts_L3]), Option.bind_some]
    simp only
    rw [if_pos (by simp), loop_inr (r := .inr ()) (by simp [image_parts_L4])]; rfl
  rw [imgCheck] at this
  exact Option.some.inj this
theorem no_c : image_Check noImg = some 3 := by
  unfold image_Check
  rw [small_eq _ (by simp) rfl rfl rfl rfl rfl rfl (by simp), Option.bind_some, if_pos rfl, latCheck, Option.bind_some]
  rfl
theorem one_same : image_Same oneImg oneImg = some true := by
  unfold image_Same
  have e1 : slices_EqualFunc_api_Task_api_Task_api_Task_api_Task [] [] image_Same_1 = some true := by
    unfold slices_EqualFunc_api_Task_api_Task_api_Task_api_Task
    rw [if_pos rfl, loop_inr (r := .inr ()) (by simp [slices_EqualFunc_api_Task_api_Task_api_Task_api_Task_L1])]; rfl
  have e2 : slices_Equal_string_string [[97]] [[97]] = some true := by
    unfold slices_Equal_string_string
    rw [if_pos rfl, loop_self (n := 1) (fun i hi => by obtain rfl : i = 0 := by omega
                                                       simp [slices_Equal_string_string_L1]) (by simp [slices_Equal_string_string_L1])]; rfl
  have e3 : slices_Equal_2_int_2_int [] [] = some true := by
    unfold slices_Equal_2_int_2_int
    rw [if_pos rfl, loop_inr (r := .inr ()) (by simp [slices_Equal_2_int_2_int_L1])]; rfl
  have e4 : slices_Equal_api_Site_api_Site [] [] = some true := by
    unfold slices_Equal_api_Site_api_Site
    rw [if_pos rfl, loop_inr (r := .inr ()) (by simp [slices_Equal_api_Site_api_Site_L1])]; rfl
  have e5 : slices_Equal_api_Var_api_Var [] [] = some true := by
    unfold slices_Equal_api_Var_api_Var
    rw [if_pos rfl, loop_inr (r := .inr ()) (by simp [slices_Equal_api_Var_api_Var_L1])]; rfl
  have e6 : slices_Equal_api_Block_api_Block [] [] = some true := by
    unfold slices_Equal_api_Block_api_Block
    rw [if_pos rfl, loop_inr (r := .inr ()) (by simp [slices_Equal_api_Block_api_Block_L1])]; rfl
  have e7 : slices_EqualFunc__LL_api_Ins__LL_api_Ins_api_Ins_api_Ins [] [] slices_Equal_api_Ins_api_Ins = some true := by
    unfold slices_EqualFunc__LL_api_Ins__LL_api_Ins_api_Ins_api_Ins
    rw [if_pos rfl, loop_inr (r := .inr ()) (by simp [slices_EqualFunc__LL_api_Ins__LL_api_Ins_api_Ins_api_Ins_L1])]; rfl
  rw [e1, Option.bind_some, e2, Option.bind_some, if_pos rfl, e3, Option.bind_some, if_pos rfl, if_pos rfl, e4, Option.bind_some, if_pos rfl, e5, Option.bind_some, if_pos rfl, e6, Option.bind_some, if_pos rfl, e7]; rfl
theorem one_len : (encImage oneImg).length = 33 := rfl
theorem awake18 : lazarettolaw18_awake = some true := by
  have d1 : image_Decode (encImage oneImg) = some (oneImg, 0) := by
    have := dec_fwd one_c []
    rw [List.append_nil] at this
    rw [this]; rfl
  have d2 : image_Decode (encImage oneImg ++ [120]) = some (noImg, 8) := by rw [dec_fwd one_c [120]]; rfl
  have hl := one_len
  unfold lazarettolaw18_awake
  rw [encImg one_c, Option.bind_some]
  simp only
  rw [d1, Option.bind_some, need_of (by omega), d2, Option.bind_some]
  simp only
  rw [if_pos trivial, if_pos trivial, img_self, Option.bind_some, if_pos rfl, if_pos (by omega), need_of (by omega), if_pos (show (encImage oneImg).take 4 = [76, 90, 82, 49] from rfl), if_pos trivial, no_c, Option.bind_some, if_pos rfl, one_same]
  rfl
theorem few_t (m : api_Image) : Tot (lazarettolaw18_Few m) fun _ => True := by
  unfold lazarettolaw18_Few
  refine Tot.ite (fun _ => Tot.mk trivial) (fun _ => Tot.ite (fun _ => Tot.mk trivial) (fun _ => Tot.ite (fun _ => Tot.mk trivial) (fun _ => Tot.ite (fun _ => Tot.mk trivial) (fun _ => Tot.ite (fun _ => Tot.mk trivial) (fun _ => Tot.ite (fun _ => Tot.mk trivial) (fun _ => Tot.ite (fun _ => Tot.mk trivial) (fun _ => ?_)))))))
  refine (Tot.loop (R := fun _ => True) (fun _ => True) (fun p => m.Lattice.Names.length - p.2) trivial fun p _ => ?_).bind fun _ _ => (Tot.loop (R := fun _ => True) (fun _ => True) (fun p => m.Tasks.length - p.2) trivial fun p _ => ?_).bind fun _ _ => (Tot.loop (R := fun _ => True) (fun _ => True) (fun p => m.Code.length - p.2) trivial fun p _ => ?_).bind fun _ _ => Tot.ite (fun _ => Tot.mk trivial) (fun _ => Tot.mk trivial)
  · obtain ⟨n, i⟩ := p
    simp only [lazarettolaw18_Few_L1]
    refine Tot.ite (fun h => Tot.ite (fun _ => ?_) (fun _ => Tot.mk trivial)) (fun _ => Tot.mk trivial)
    exact (Tot.get (by omega)).bind fun x _ => Tot.mk ⟨trivial, by show m.Lattice.Names.length - (i + 1) < _; omega⟩
  · obtain ⟨n, i⟩ := p
    simp only [lazarettolaw18_Few_L2]
    refine Tot.ite (fun h => Tot.ite (fun _ => ?_) (fun _ => Tot.mk trivial)) (fun _ => Tot.mk trivial)
    exact (Tot.get (by omega)).bind fun x _ => Tot.mk ⟨trivial, by show m.Tasks.length - (i + 1) < _; omega⟩
  · obtain ⟨n, i⟩ := p
    simp only [lazarettolaw18_Few_L3]
    refine Tot.ite (fun h => Tot.ite (fun _ => ?_) (fun _ => Tot.mk trivial)) (fun _ => Tot.mk trivial)
    exact (Tot.get (by omega)).bind fun x _ => Tot.mk ⟨trivial, by show m.Code.length - (i + 1) < _; omega⟩
end Go.Lz
