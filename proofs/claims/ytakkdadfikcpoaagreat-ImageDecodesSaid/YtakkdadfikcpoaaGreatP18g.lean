/- P18g: the reference writes and reads the same bytes; the laws ImageChecks and ImageDecodes in plain words. -/
import Derived.Test.YtakkdadfikcpoaaGreatP18f
import Derived.Test.YtakkdadfikcpoaaGreatV18d
namespace Go.Lz
set_option linter.unusedVariables false
set_option linter.unusedSimpArgs false
set_option maxRecDepth 100000
theorem wu32 (n : Int) : IntKind.u32.wrap n = n % 4294967296 := by
  simp [IntKind.wrap, IntKind.min, IntKind.signed, IntKind.bits]
theorem four_list (n : Int) : [(IntKind.u8.wrap ((IntKind.u32.wrap n).fdiv 16777216)), (IntKind.u8.wrap ((IntKind.u32.wrap n).fdiv 65536)), (IntKind.u8.wrap ((IntKind.u32.wrap n).fdiv 256)), (IntKind.u8.wrap (IntKind.u32.wrap n))] = sBytes (four8 n) := by
  simp only [wu8, wu32, fdiv_n _ (show (0 : Int) ≤ 16777216 by omega), fdiv_n _ (show (0 : Int) ≤ 65536 by omega), fdiv_n _ (show (0 : Int) ≤ 256 by omega)]
  show _ = [((b8 (n / 16777216)).toNat : Int), ((b8 (n / 65536)).toNat : Int), ((b8 (n / 256)).toNat : Int), ((b8 n).toNat : Int)]
  rw [b8_int, b8_int, b8_int, b8_int]
  have e1 : n % 4294967296 / 16777216 % 256 = n / 16777216 % 256 := by omega
  have e2 : n % 4294967296 / 65536 % 256 = n / 65536 % 256 := by omega
  have e3 : n % 4294967296 / 256 % 256 = n / 256 % 256 := by omega
  have e4 : n % 4294967296 % 256 = n % 256 := by omega
  rw [e1, e2, e3, e4]
theorem rFour (n : Int) : lazarettoref17_Four n = some (sBytes (four8 n)) := by
  unfold lazarettoref17_Four; rw [four_list]
theorem rEncode {l : List api_Ins} (h : codeC l = 0) : lazarettoref17_Encode l = some (encCode l) := by
  have hl := (codeC_zero.1 h).1
  unfold lazarettoref17_Encode
  rw [refCheckC, Option.bind_some, if_pos h, four_list]
  rw [loop_app (l := l) (w := encIns) (g := fun b => b) (fun b i hi hb => by
    simp only [lazarettoref17_Encode_L1]
    rw [encIns_len] at hb
    rw [if_pos (by omega), List.getElem?_eq_getElem hi, Option.bind_some, need_of (by rw [sB_len]; omega), need_of (by rw [sB_len]; omega), four_list, sB_app]
    unfold encIns
    rw [sB_app]
    show _ = some (Sum.inl (sBytes b ++ ([((b8 _).toNat : Int), ((b8 _).toNat : Int), ((b8 _).toNat : Int)] ++ _), _))
    rw [b8_int, b8_int, b8_int, wu8, wu8, wu8, List.append_assoc]) (fun b => by simp only [lazarettoref17_Encode_L1]; rw [if_neg (by omega)]) _ (by
      rw [flat_len l fun x _ => encIns_len x, four8_len]; omega)]
  rw [Option.bind_some, iB_sB]
  rfl
theorem rnums_loop {l : List Int} {f : (List Int × Nat) → Option ((List Int × Nat) ⊕ List Int)}
    (hf : ∀ xs p, f (xs, p) = if (p : Int) < (l.length : Int) then ((l[p]?).bind fun x => (lazarettoref17_Four x).bind fun r => need ((xs.length + r.length) * 1 ≤ 140737488355328) (some (.inl (xs ++ r, p + 1)))) else some (.inr xs))
    {b : Str} (h : b.length + 4 * l.length ≤ 140737488355328) : loop f (sBytes b, 0) = some (sBytes (b ++ nums l)) := by
  refine loop_app (g := fun b => b) (fun b i hi hb => ?_) (fun b => by rw [hf, if_neg (by omega)]) b (by have := nums_len l; unfold nums at this; omega)
  rw [hf, if_pos (by omega), List.getElem?_eq_getElem hi, Option.bind_some, rFour, Option.bind_some, need_of (by rw [sB_len, sB_len]; omega), sB_app]
theorem rnum_loop {n : Int} {f : (List Int × Nat) → Option ((List Int × Nat) ⊕ List Int)}
    (hf : ∀ xs p, f (xs, p) = if (p : Int) < 1 then (([n][p]?).bind fun x => (lazarettoref17_Four x).bind fun r => need ((xs.length + r.length) * 1 ≤ 140737488355328) (some (.inl (xs ++ r, p + 1)))) else some (.inr xs))
    {b : Str} (h : b.length + 4 ≤ 140737488355328) : loop f (sBytes b, 0) = some (sBytes (b ++ four8 n)) := by
  have := rnums_loop (l := [n]) (f := f) hf (b := b) (by simpa using h)
  rw [this, nums_one]
theorem rput {m : api_Image} (h : imgC m = 0) : lazarettoref18_put m = some (encImage m) := by
  have F := imgFine h
  have S := F.sm
  have P := F.pt
  have n1 := S.nm; have n2 := S.bl; have n3 := S.st; have n4 := S.vr; have n5 := S.bk; have n6 := S.tk
  have n7 : m.Code.length ≤ 4 := by rw [← P.tc]; exact n6
  have l1 : (m.Lattice.Names.flatMap encText).length ≤ 36 * m.Lattice.Names.length := flat_le _ fun x hx => by
    have := S.tx x hx; unfold encText; rw [List.length_append, four8_len]; omega
  have l2 : (m.Lattice.Below.flatMap encPair).length = 8 * m.Lattice.Below.length := flat_len _ fun x hx => nums_len _
  have l3 : (m.Sites.flatMap encSite).length = 8 * m.Sites.length := flat_len _ fun x hx => nums_len _
  have l4 : (m.Vars.flatMap encVar).length = 24 * m.Vars.length := flat_len _ fun x hx => nums_len _
  have l5 : (m.Blocks.flatMap encBlock).length ≤ 40 * m.Blocks.length := flat_le _ fun x hx => by
    have := (P.bk x hx).kd; unfold encBlock encText; rw [List.length_append, List.length_append, four8_len, four8_len]; omega
  have l6 : (m.Tasks.flatMap encTask).length ≤ 40 * m.Tasks.length := flat_le _ fun x hx => by
    have := (P.tk x hx).bl; unfold encTask; rw [List.length_append, nums_len, nums_len]; simp only [List.length_cons, List.length_nil]; omega
  have l7 : (m.Code.flatMap encCode).length ≤ 229380 * m.Code.length := flat_le _ fun x hx => by
    have := (codeC_zero.1 (P.cd x hx)).1; rw [encCode_len]; omega
  unfold lazarettoref18_put
  rw [show (([76, 90, 82, 49] : List Int), 0) = (sBytes pre4, 0) from rfl]
  rw [rnum_loop (n := (m.Lattice.Names.length : Int)) (fun _ _ => rfl) (by simp [pre4]), Option.bind_some]
  rw [loop_app (l := m.Lattice.Names) (w := encText) (g := fun b => b) (fun b i hi hb => by
    simp only [lazarettoref18_put_L2]
    unfold encText at hb ⊢
    rw [List.length_append, four8_len] at hb
    rw [if_pos (by omega), List.getElem?_eq_getElem hi, Option.bind_some, rnum_loop (n := ((m.Lattice.Names[i]).length : Int)) (fun _ _ => rfl) (by omega), Option.bind_some, need_of (by rw [sB_len, sB_len, List.length_append, four8_len]; omega), ← sB_app, List.append_assoc]) (fun b => by simp only [lazarettoref18_put_L2]; rw [if_neg (by omega)]) _ (by simp only [List.length_append, four8_len, pre4_len]; omega), Option.bind_some]
  rw [rnum_loop (n := (m.Lattice.Below.length : Int)) (fun _ _ => rfl) (by simp only [List.length_append, four8_len, pre4_len]; omega), Option.bind_some]
  rw [loop_app (l := m.Lattice.Below) (w := encPair) (g := fun b => b) (fun b i hi hb => by
    simp only [lazarettoref18_put_L5]
    unfold encPair at hb ⊢
    rw [nums_len] at hb
    rw [if_pos (by omega), List.getElem?_eq_getElem hi, Option.bind_some, rnums_loop (l := [m.Lattice.Below[i].a0, m.Lattice.Below[i].a1]) (fun _ _ => rfl) (by simpa using hb), Option.bind_some]) (fun b => by simp only [lazarettoref18_put_L5]; rw [if_neg (by omega)]) _ (by simp only [List.length_append, four8_len, pre4_len, l2]; omega), Option.bind_some]
  rw [rnum_loop (n := (m.Sites.length : Int)) (fun _ _ => rfl) (by simp only [List.length_append, four8_len, pre4_len, l2]; omega), Option.bind_some]
  rw [loop_app (l := m.Sites) (w := encSite) (g := fun b => b) (fun b i hi hb => by
    simp only [lazarettoref18_put_L8]
    unfold encSite at hb ⊢
    rw [nums_len] at hb
    rw [if_pos (by omega), List.getElem?_eq_getElem hi, Option.bind_some, rnums_loop (l := [m.Sites[i].From, m.Sites[i].To]) (fun _ _ => rfl) (by simpa using hb), Option.bind_some]) (fun b => by simp only [lazarettoref18_put_L8]; rw [if_neg (by omega)]) _ (by simp only [List.length_append, four8_len, pre4_len, l2, l3]; omega), Option.bind_some]
  rw [rnum_loop (n := (m.Vars.length : Int)) (fun _ _ => rfl) (by simp only [List.length_append, four8_len, pre4_len, l2, l3]; omega), Option.bind_some]
  rw [loop_app (l := m.Vars) (w := encVar) (g := fun b => b) (fun b i hi hb => by
    simp only [lazarettoref18_put_L11]
    unfold encVar at hb ⊢
    rw [nums_len] at hb
    rw [if_pos (by omega), List.getElem?_eq_getElem hi, Option.bind_some, rnums_loop (l := [m.Vars[i].Type_.Kind, m.Vars[i].Type_.Low, m.Vars[i].Type_.Len, m.Vars[i].Mode, m.Vars[i].Label, m.Vars[i].Safe]) (fun _ _ => rfl) (by simpa using hb), Option.bind_some]) (fun b => by simp only [lazarettoref18_put_L11]; rw [if_neg (by omega)]) _ (by simp only [List.length_append, four8_len, pre4_len, l2, l3, l4]; omega), Option.bind_some]
  rw [rnum_loop (n := (m.Blocks.length : Int)) (fun _ _ => rfl) (by simp only [List.length_append, four8_len, pre4_len, l2, l3, l4]; omega), Option.bind_some]
  rw [loop_app (l := m.Blocks) (w := encBlock) (g := fun b => b) (fun b i hi hb => by
    simp only [lazarettoref18_put_L14]
    unfold encBlock encText at hb ⊢
    rw [List.length_append, List.length_append, four8_len, four8_len] at hb
    rw [if_pos (by omega), List.getElem?_eq_getElem hi, Option.bind_some, rnum_loop (n := ((m.Blocks[i].Kind).length : Int)) (fun _ _ => rfl) (by omega), Option.bind_some, need_of (by rw [sB_len, sB_len, List.length_append, four8_len]; omega), ← sB_app,
      rnum_loop (n := m.Blocks[i].Label) (fun _ _ => rfl) (by simp only [List.length_append, four8_len]; omega), Option.bind_some]
    simp only [List.append_assoc]) (fun b => by simp only [lazarettoref18_put_L14]; rw [if_neg (by omega)]) _ (by simp only [List.length_append, four8_len, pre4_len, l2, l3, l4]; omega), Option.bind_some]
  rw [rnum_loop (n := (m.Tasks.length : Int)) (fun _ _ => rfl) (by simp only [List.length_append, four8_len, pre4_len, l2, l3, l4]; omega), Option.bind_some]
  rw [loop_app (l := m.Tasks) (w := encTask) (g := fun b => b) (fun b i hi hb => by
    simp only [lazarettoref18_put_L18]
    unfold encTask at hb ⊢
    rw [List.length_append, nums_len, nums_len] at hb
    simp only [List.length_cons, List.length_nil] at hb
    rw [if_pos (by omega), List.getElem?_eq_getElem hi, Option.bind_some, rnums_loop (l := [m.Tasks[i].Every, m.Tasks[i].Priority]) (fun _ _ => rfl) (by simp only [List.length_cons, List.length_nil]; omega), Option.bind_some,
      rnums_loop (l := m.Tasks[i].Budget) (fun _ _ => rfl) (by rw [List.length_append, nums_len]; simp only [List.length_cons, List.length_nil]; omega), Option.bind_some, List.append_assoc]) (fun b => by simp only [lazarettoref18_put_L18]; rw [if_neg (by omega)]) _ (by simp only [List.length_append, four8_len, pre4_len, l2, l3, l4]; omega), Option.bind_some]
  rw [loop_app (l := m.Code) (w := encCode) (g := fun b => b) (fun b i hi hb => by
    simp only [lazarettoref18_put_L21]
    rw [if_pos (by omega), List.getElem?_eq_getElem hi, Option.bind_some, rEncode (P.cd _ (List.getElem_mem hi)), Option.bind_some, need_of (by rw [sB_len, sB_len]; omega), ← sB_app]) (fun b => by simp only [lazarettoref18_put_L21]; rw [if_neg (by omega)]) _ (by simp only [List.length_append, four8_len, pre4_len, l2, l3, l4]; omega), Option.bind_some]
  rw [iB_sB]
  unfold encImage encBody encTail
  simp only [List.append_assoc]
theorem checksLaw18 (m : api_Image) : lazarettolaw18_ImageChecks m = some true := by
  obtain ⟨r, hr, _⟩ := few_t m
  unfold lazarettolaw18_ImageChecks
  rw [hr, Option.bind_some, awake18]
  by_cases h : r = 0
  · rw [if_pos h]; rfl
  rw [if_neg h, check_eq, imgCheck]
  by_cases hm : imgC m = 0
  · have : lazarettoref18_Encode m = some (encImage m, 0) := by
      unfold lazarettoref18_Encode
      rw [check_eq, Option.bind_some, if_pos hm, rput hm]; rfl
    rw [encImg hm, this]
    simp only [Option.bind_some, if_true]
  · have : lazarettoref18_Encode m = some ([], imgC m) := by
      unfold lazarettoref18_Encode
      rw [check_eq, Option.bind_some, if_neg hm]
    rw [encBad hm, this]
    simp only [Option.bind_some, if_true]
end Go.Lz
