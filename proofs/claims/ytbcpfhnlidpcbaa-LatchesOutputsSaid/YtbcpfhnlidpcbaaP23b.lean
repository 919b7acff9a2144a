/- P23b: the outputs that latches leave; whether an image may be has an answer; the laws of outputs in plain words. -/
import Derived.Test.YtbcpfhnlidpcbaaV23b
import Derived.Test.YtbcpfhnlidpcbaaP23
import Derived.Test.YtbcpfhnlidpcbaaP01
namespace Go.Lz
set_option linter.unusedVariables false
set_option linter.unusedSimpArgs false
/-! A loop has an end. -/
theorem loop_tot {ρ : Type} {f : Nat → Option (Nat ⊕ ρ)} (n : Nat) (h : ∀ i, i < n → f i = some (.inl (i + 1)) ∨ ∃ r, f i = some (.inr r)) (h2 : ∃ r, f n = some (.inr r)) : ∃ r, loop f 0 = some r := by
  obtain ⟨r, hr, _⟩ := loop_inv (f := f) (fun i => i ≤ n) (fun _ => True) (fun i => n - i) (fun i hi => by
    rcases Nat.lt_or_eq_of_le hi with hl | rfl
    · rcases h i hl with e | ⟨r, e⟩
      · exact .inl ⟨i + 1, e, hl, by omega⟩
      · exact .inr ⟨r, e, trivial⟩
    · obtain ⟨r, e⟩ := h2
      exact .inr ⟨r, e, trivial⟩) 0 (Nat.zero_le _)
  exact ⟨r, hr⟩
theorem loop_tot2 {σ ρ : Type} {f : σ × Nat → Option ((σ × Nat) ⊕ ρ)} (n : Nat) (h : ∀ s i, i < n → (∃ s', f (s, i) = some (.inl (s', i + 1))) ∨ ∃ r, f (s, i) = some (.inr r)) (h2 : ∀ s, ∃ r, f (s, n) = some (.inr r)) (s : σ) : ∃ r, loop f (s, 0) = some r := by
  obtain ⟨r, hr, _⟩ := loop_inv (f := f) (fun x => x.2 ≤ n) (fun _ => True) (fun x => n - x.2) (fun ⟨s, i⟩ hi => by
    rcases Nat.lt_or_eq_of_le hi with hl | hl
    · rcases h s i hl with ⟨s', e⟩ | ⟨r, e⟩
      · refine .inl ⟨(s', i + 1), e, hl, ?_⟩
        simp only at hl ⊢; omega
      · exact .inr ⟨r, e, trivial⟩
    · simp only at hl; subst hl
      obtain ⟨r, e⟩ := h2 s
      exact .inr ⟨r, e, trivial⟩) (s, 0) (Nat.zero_le _)
  exact ⟨r, hr⟩
theorem tot_ite {α : Type} {c : Prop} [Decidable c] {a b : Option α} (ha : ∃ v, a = some v) (hb : ∃ v, b = some v) : ∃ v, (if c then a else b) = some v := by
  split
  · exact ha
  · exact hb
theorem few18 (m : api_Image) : lazarettolaw18_Few m = some 0 ∨ (lazarettolaw18_Few m = some 1 ∧ m.Vars.length ≤ 500 ∧ m.Lattice.Names.length ≤ 50) := by
  unfold lazarettolaw18_Few
  by_cases h1 : 50 < (m.Lattice.Names.length : Int)
  · simp [h1]
  by_cases h2 : 200 < (m.Lattice.Below.length : Int)
  · simp [h2]
  by_cases h3 : 200 < (m.Sites.length : Int)
  · simp [h3]
  by_cases h4 : 500 < (m.Vars.length : Int)
  · simp [h4]
  by_cases h5 : 200 < (m.Blocks.length : Int)
  · simp [h5]
  by_cases h6 : 50 < (m.Tasks.length : Int)
  · simp [h6]
  by_cases h7 : 50 < (m.Code.length : Int)
  · simp [h7]
  simp only [h1, h2, h3, h4, h5, h6, h7, if_false]
  obtain ⟨a, ha⟩ := loop_tot2 (f := lazarettolaw18_Few_L1 m) m.Lattice.Names.length (fun s i hi => by
    by_cases hs : s < 40000 <;> simp [lazarettolaw18_Few_L1, hi, hs]) (fun s => by simp [lazarettolaw18_Few_L1]) 0
  obtain ⟨b, hb⟩ := loop_tot2 (f := lazarettolaw18_Few_L2 m) m.Tasks.length (fun s i hi => by
    by_cases hs : s < 40000 <;> simp [lazarettolaw18_Few_L2, hi, hs]) (fun s => by simp [lazarettolaw18_Few_L2]) a
  obtain ⟨c, hc⟩ := loop_tot2 (f := lazarettolaw18_Few_L3 m) m.Code.length (fun s i hi => by
    by_cases hs : s < 40000 <;> simp [lazarettolaw18_Few_L3, hi, hs]) (fun s => by simp [lazarettolaw18_Few_L3]) b
  simp only [ha, hb, hc, Option.bind_some]
  by_cases h8 : c < 40000
  · exact .inr ⟨by simp [h8], by omega, by omega⟩
  · simp [h8]
/-! Each of these answers. -/
theorem t_caps (m : api_Image) : ∃ v, lazarettoref18_caps m = some v := by
  unfold lazarettoref18_caps
  obtain ⟨a, ha⟩ := loop_tot (f := lazarettoref18_caps_L1 m) m.Lattice.Names.length (fun i hi => by
    by_cases hs : 32 < (m.Lattice.Names[i].length : Int) <;> simp [lazarettoref18_caps_L1, hi, hs]) (by simp [lazarettoref18_caps_L1])
  obtain ⟨b, hb⟩ := loop_tot (f := lazarettoref18_caps_L2 m) m.Code.length (fun i hi => by
    by_cases hs : 32768 < (m.Code[i].length : Int) <;> simp [lazarettoref18_caps_L2, hi, hs]) (by simp [lazarettoref18_caps_L2])
  rw [ha, hb]
  repeat' split
  all_goals first | exact ⟨_, rfl⟩ | (rcases a with a | ⟨⟩ <;> rcases b with b | ⟨⟩ <;> exact ⟨_, rfl⟩)
theorem t_bits (k : Int) : ∃ v, lazarettoref03_Bits k = some v := by
  unfold lazarettoref03_Bits; repeat' split
  all_goals exact ⟨_, rfl⟩
theorem t_half (k : Int) : ∃ v, lazarettoref03_half k = some v := by
  unfold lazarettoref03_half; repeat' split
  all_goals exact ⟨_, rfl⟩
theorem t_type (t : api_Type) : ∃ v, lazarettoref04_Check t = some v := by
  unfold lazarettoref04_Check
  obtain ⟨v, hv⟩ := t_bits t.Kind
  rw [hv, Option.bind_some]; repeat' split
  all_goals exact ⟨_, rfl⟩
theorem t_valid (k n : Int) : ∃ v, lazarettoref03_Valid k n = some v := by
  unfold lazarettoref03_Valid
  obtain ⟨v, hv⟩ := t_bits k
  obtain ⟨w, hw⟩ := t_half k
  simp only [hv, hw, Option.bind_some]; repeat' split
  all_goals exact ⟨_, rfl⟩
theorem t_variable (m : api_Image) (x : api_Var) : ∃ v, lazarettoref18_variable m x = some v := by
  unfold lazarettoref18_variable
  obtain ⟨v, hv⟩ := t_type x.Type_
  obtain ⟨w, hw⟩ := t_valid x.Type_.Kind x.Safe
  simp only [hv, hw, refIs, Option.bind_some]; repeat' split
  all_goals exact ⟨_, rfl⟩
theorem t_inputs (k : Str) : ∃ v, lazarettoref11_Inputs k = some v := by
  unfold lazarettoref11_Inputs; repeat' split
  all_goals exact ⟨_, rfl⟩
theorem t_task (m : api_Image) (t : api_Task) : ∃ v, lazarettoref18_task m t = some v := by
  unfold lazarettoref18_task
  obtain ⟨a, ha⟩ := loop_tot (f := lazarettoref18_task_L1 t) t.Budget.length (fun i hi => by
    by_cases h1 : t.Budget[i] < 0 <;> by_cases h2 : 4096 < t.Budget[i] <;> simp [lazarettoref18_task_L1, hi, h1, h2]) (by simp [lazarettoref18_task_L1])
  rw [ha]
  repeat' split
  all_goals first | exact ⟨_, rfl⟩ | (rcases a with a | ⟨⟩ <;> exact ⟨_, rfl⟩)
theorem t_names (k : Int) : ∃ v, lazarettoref17_names k = some v := by
  unfold lazarettoref17_names
  repeat' (first | exact ⟨_, rfl⟩ | refine tot_ite ?_ ?_)
theorem t_one (i : api_Ins) : ∃ v, lazarettoref17_one i = some v := by
  unfold lazarettoref17_one
  obtain ⟨v, hv⟩ := t_names i.Op
  rw [hv, Option.bind_some]
  repeat' (first | exact ⟨_, rfl⟩ | refine tot_ite ?_ ?_)
theorem t_code (l : List api_Ins) : ∃ v, lazarettoref17_Check l = some v := by
  unfold lazarettoref17_Check
  obtain ⟨a, ha⟩ := loop_tot (f := lazarettoref17_Check_L1 l) l.length (fun i hi => by
    obtain ⟨v, hv⟩ := t_one l[i]
    cases v <;> simp [lazarettoref17_Check_L1, hi, hv]) (by simp [lazarettoref17_Check_L1])
  rw [ha]
  repeat' split
  all_goals first | exact ⟨_, rfl⟩ | (rcases a with a | ⟨⟩ <;> exact ⟨_, rfl⟩)
theorem t_parts (m : api_Image) : ∃ v, lazarettoref18_parts m = some v := by
  unfold lazarettoref18_parts
  obtain ⟨a, ha⟩ := loop_tot (f := lazarettoref18_parts_L1 m) m.Sites.length (fun i hi => by
    by_cases h1 : m.Sites[i].Name = [] <;> by_cases h2 : inN m.Lattice m.Sites[i].From <;> by_cases h3 : inN m.Lattice m.Sites[i].To <;> simp [lazarettoref18_parts_L1, hi, h1, refIs, h2, h3]) (by simp [lazarettoref18_parts_L1])
  obtain ⟨b, hb⟩ := loop_tot (f := lazarettoref18_parts_L2 m) m.Vars.length (fun i hi => by
    obtain ⟨v, hv⟩ := t_variable m m.Vars[i]
    cases v <;> simp [lazarettoref18_parts_L2, hi, hv]) (by simp [lazarettoref18_parts_L2])
  obtain ⟨c, hc⟩ := loop_tot (f := lazarettoref18_parts_L3 m) m.Blocks.length (fun i hi => by
    obtain ⟨v, hv⟩ := t_inputs m.Blocks[i].Kind
    by_cases h1 : m.Blocks[i].Name = [] <;> by_cases h2 : inN m.Lattice m.Blocks[i].Label <;> by_cases h3 : (v.length : Int) = 0 <;> simp [lazarettoref18_parts_L3, hi, h1, refIs, h2, hv] <;> simp at h3 <;> simp [h3]) (by simp [lazarettoref18_parts_L3])
  simp only [ha, Option.bind_some]
  rcases a with a | ⟨⟩
  · exact ⟨_, rfl⟩
  simp only [hb, Option.bind_some]
  rcases b with a | ⟨⟩
  · exact ⟨_, rfl⟩
  simp only [hc, Option.bind_some]
  rcases c with a | ⟨⟩
  · exact ⟨_, rfl⟩
  by_cases hl : (m.Code.length : Int) = (m.Tasks.length : Int)
  · obtain ⟨d, hd⟩ := loop_tot (f := lazarettoref18_parts_L4 m) m.Tasks.length (fun i hi => by
      have hi2 : i < m.Code.length := by omega
      obtain ⟨v, hv⟩ := t_task m m.Tasks[i]
      obtain ⟨w, hw⟩ := t_code m.Code[i]
      by_cases h3 : w = 0 <;> cases v <;> simp [lazarettoref18_parts_L4, hi, hi2, hv, hw, h3]) (by simp [lazarettoref18_parts_L4])
    simp only [hl, if_true, hd, Option.bind_some]
    rcases d with a | ⟨⟩ <;> exact ⟨_, rfl⟩
  · simp only [hl, if_false]; exact ⟨_, rfl⟩
theorem t_check18 (m : api_Image) : ∃ v, lazarettoref18_Check m = some v := by
  unfold lazarettoref18_Check
  obtain ⟨a, ha⟩ := t_caps m
  obtain ⟨b, hb⟩ := t_parts m
  simp only [ha, hb, refCheck, Option.bind_some]; repeat' split
  all_goals exact ⟨_, rfl⟩

/-! What is forced; the outputs. -/
noncomputable def forcedN (l : api_Lattice) (x : List Int) (a : Int) : Bool := (List.range x.length).any fun i => !decide (x.getD i 0 = 0) && leqN l i a
theorem latForced {l : api_Lattice} (hn : l.Names.length ≤ 1000000) (x : List Int) (a : Int) : latches_Forced l x a = some (forcedN l x a) := by
  unfold latches_Forced
  rw [loop_first x.length (fun i => !decide (x.getD i 0 = 0) && leqN l i a) (fun _ => .inl true) (.inr ()) (fun i hi => by
    by_cases h : x[i] = 0 <;> simp [latches_Forced_L1, hi, h, latLeq hn, List.getD_eq_getElem?_getD]
    cases leqN l i a <;> rfl) (by simp [latches_Forced_L1])]
  rw [elim_any]
  unfold forcedN
  cases (List.range x.length).any fun i => !decide (x.getD i 0 = 0) && leqN l i a <;> rfl
theorem refForced {l : api_Lattice} (hn : l.Names.length ≤ 1000000) (x : List Int) (a : Int) : lazarettoref23_Forced l x a = some (forcedN l x a) := by
  unfold lazarettoref23_Forced
  rw [loop_first x.length (fun i => !decide (x.getD i 0 = 0) && leqN l i a) (fun _ => .inl true) (.inr ()) (fun i hi => by
    by_cases h : x[i] = 0 <;> simp [lazarettoref23_Forced_L1, hi, h, refLeq hn, List.getD_eq_getElem?_getD]
    cases leqN l i a <;> rfl) (by simp [lazarettoref23_Forced_L1])]
  rw [elim_any]
  unfold forcedN
  cases (List.range x.length).any fun i => !decide (x.getD i 0 = 0) && leqN l i a <;> rfl
/-- Variable i's output, if it is one. -/
noncomputable def outI (m : api_Image) (mem : api_Memory) (x : List Int) (i : Nat) : Option Int :=
  match m.Vars[i]? with
  | none => none
  | some v => if v.Mode = 2 then some (if forcedN m.Lattice x v.Label then v.Safe else ((mem.Cells.getD i []).getD 0 0)) else none
noncomputable def outsN (m : api_Image) (mem : api_Memory) (x : List Int) (k : Nat) : List Int := (List.range k).filterMap (outI m mem x)
theorem outsN_succ {m : api_Image} {mem : api_Memory} {x : List Int} {k : Nat} : outsN m mem x (k + 1) = outsN m mem x k ++ (outI m mem x k).toList := by
  unfold outsN
  rw [List.range_succ, List.filterMap_append]
  simp [List.filterMap_cons]
  cases h : outI m mem x k <;> rfl
theorem outsN_len {m : api_Image} {mem : api_Memory} {x : List Int} : ∀ {k : Nat}, (outsN m mem x k).length ≤ k
  | 0 => Nat.le_refl _
  | k + 1 => by
    have := @outsN_len m mem x k
    rw [outsN_succ, List.length_append]
    cases outI m mem x k <;> simp <;> omega
theorem latOutputs {m : api_Image} {mem : api_Memory} {x : List Int} (hn : m.Lattice.Names.length ≤ 1000000) (hv : m.Vars.length ≤ 500) : latches_Outputs m mem x = some (outsN m mem x m.Vars.length) := by
  unfold latches_Outputs
  rw [show (([] : List Int), 0) = (fun k => (outsN m mem x k, k)) 0 from rfl, loop_for (fun k => (outsN m mem x k, k)) m.Vars.length (outsN m mem x m.Vars.length) (fun i hi => by
    have hl := @outsN_len m mem x i
    have hb : ((outsN m mem x i).length + 1) * 8 ≤ 140737488355328 := by omega
    simp only [outsN_succ, latches_Outputs_L1, Int.ofNat_lt, hi, if_true, List.getElem?_eq_getElem hi, Option.bind_some, latForced hn, need_of hb, outI]
    by_cases h1 : m.Vars[i].Mode = 2
    · by_cases h2 : i < mem.Cells.length
      · by_cases h3 : 0 < (mem.Cells[i].length : Int)
        · have h4 : 0 < mem.Cells[i].length := by omega
          cases hf : forcedN m.Lattice x m.Vars[i].Label <;> simp [h1, h2, h3, h4, hf, List.getD_eq_getElem?_getD]
        · have h4 : mem.Cells[i] = [] := List.eq_nil_of_length_eq_zero (by omega)
          cases hf : forcedN m.Lattice x m.Vars[i].Label <;> simp [h1, h2, h4, hf, List.getD_eq_getElem?_getD]
      · cases hf : forcedN m.Lattice x m.Vars[i].Label <;> simp [h1, h2, hf, List.getD_eq_getElem?_getD]
    · simp [h1]) (by simp [latches_Outputs_L1])]
  rfl
theorem refOutputs {m : api_Image} {mem : api_Memory} {x : List Int} (hn : m.Lattice.Names.length ≤ 1000000) (hv : m.Vars.length ≤ 500) : lazarettoref23_Outputs m mem x = some (outsN m mem x m.Vars.length) := by
  unfold lazarettoref23_Outputs
  rw [show (([] : List Int), 0) = (fun k => (outsN m mem x k, k)) 0 from rfl, loop_for (fun k => (outsN m mem x k, k)) m.Vars.length (outsN m mem x m.Vars.length) (fun i hi => by
    have hl := @outsN_len m mem x i
    have hb : ((outsN m mem x i).length + 1) * 8 ≤ 140737488355328 := by omega
    simp only [outsN_succ, lazarettoref23_Outputs_L1, Int.ofNat_lt, hi, if_true, List.getElem?_eq_getElem hi, Option.bind_some, refForced hn, need_of hb, outI]
    by_cases h1 : m.Vars[i].Mode = 2
    · by_cases h2 : i < mem.Cells.length
      · by_cases h3 : 0 < (mem.Cells[i].length : Int)
        · have h4 : 0 < mem.Cells[i].length := by omega
          cases hf : forcedN m.Lattice x m.Vars[i].Label <;> simp [h1, h2, h3, h4, hf, List.getD_eq_getElem?_getD]
        · have h4 : mem.Cells[i] = [] := List.eq_nil_of_length_eq_zero (by omega)
          cases hf : forcedN m.Lattice x m.Vars[i].Label <;> simp [h1, h2, h4, hf, List.getD_eq_getElem?_getD]
      · cases hf : forcedN m.Lattice x m.Vars[i].Label <;> simp [h1, h2, hf, List.getD_eq_getElem?_getD]
    · simp [h1]) (by simp [lazarettoref23_Outputs_L1])]
  rfl
theorem outputsLaw (aw : lazarettolaw23_awake = some true) (m : api_Image) (mem : api_Memory) (x : List Int) : lazarettolaw23_LatchesOutputs m mem x = some true := by
  unfold lazarettolaw23_LatchesOutputs
  rw [aw]
  obtain ⟨v, hv⟩ := t_check18 m
  rcases few18 m with e | ⟨e, e2, e3⟩
  · simp [e]
  · simp only [e, hv, Option.bind_some, latOutputs (m := m) (mem := mem) (x := x) (by omega) e2, refOutputs (m := m) (mem := mem) (x := x) (by omega) e2, ints_self, if_true]
    simp
theorem outs_at {m : api_Image} {mem : api_Memory} {x : List Int} {n i : Nat} (hi : i < n) {v : Int} (hv : outI m mem x i = some v) : (outsN m mem x n)[(outsN m mem x i).length]? = some v := by
  obtain ⟨d, rfl⟩ : ∃ d, n = i + (d + 1) := ⟨n - i - 1, by omega⟩
  have : outsN m mem x (i + (d + 1)) = outsN m mem x i ++ ((List.range (d + 1)).map (i + ·)).filterMap (outI m mem x) := by
    unfold outsN; rw [List.range_add, List.filterMap_append]
  rw [this, List.getElem?_append_right (Nat.le_refl _), Nat.sub_self, List.range_succ_eq_map]
  simp [hv]
theorem justLaw (aw : lazarettolaw23_awake = some true) (m : api_Image) (n x : List Int) : lazarettolaw23_LatchesJust m n x = some true := by
  unfold lazarettolaw23_LatchesJust
  rw [aw]
  obtain ⟨v, hv⟩ := t_check18 m
  rcases few18 m with e | ⟨e, e2, e3⟩
  · simp [e]
  simp only [e, hv, Option.bind_some]
  by_cases h0 : v = 0
  case neg => simp [h0]
  by_cases h1 : 1000 < (x.length : Int)
  · simp [h0, h1]
  by_cases h2 : (n.length : Int) < (m.Vars.length : Int)
  · simp [h0, h1, h2]
  by_cases h3 : 1000 < (n.length : Int)
  · simp [h0, h1, h2, h3]
  simp only [h0, h1, h2, h3, if_true, if_false, show ((1 : Int) = 0) = False by simp]
  have hc : loop (lazarettolaw23_LatchesJust_L1 m n) ([], 0) = some ((List.range m.Vars.length).map fun i => [n.getD i 0]) := by
    rw [show (([] : List (List Int)), 0) = (fun k => ((List.range k).map (fun i => [n.getD i 0]), k)) 0 from rfl]
    refine loop_for (fun k => ((List.range k).map (fun i => [n.getD i 0]), k)) m.Vars.length _ (fun i hi => ?_) (by simp [lazarettolaw23_LatchesJust_L1])
    have hi2 : i < n.length := by omega
    have hb : (i + 1) * 24 ≤ 140737488355328 := by omega
    simp [lazarettolaw23_LatchesJust_L1, hi, hi2, List.range_succ, need, hb]
  simp only [hc, Option.bind_some]
  generalize hmem : (⟨(List.range m.Vars.length).map fun i => [n.getD i 0], []⟩ : api_Memory) = mem
  rw [latOutputs (by omega) e2, Option.bind_some]
  have hl : loop (lazarettolaw23_LatchesJust_L2 m n x (outsN m mem x m.Vars.length)) (0, 0) = some (.inr (outsN m mem x m.Vars.length).length) := by
    rw [show ((0 : Nat), 0) = (fun k => ((outsN m mem x k).length, k)) 0 from rfl]
    refine loop_for (fun k => ((outsN m mem x k).length, k)) m.Vars.length _ (fun i hi => ?_) (by simp [lazarettolaw23_LatchesJust_L2])
    have hi2 : i < n.length := by omega
    simp only [lazarettolaw23_LatchesJust_L2, Int.ofNat_lt, hi, if_true, List.getElem?_eq_getElem hi, Option.bind_some, List.getElem?_eq_getElem hi2, outsN_succ]
    by_cases hm : m.Vars[i].Mode = 2
    · have ho : outI m mem x i = some (if forcedN m.Lattice x m.Vars[i].Label then m.Vars[i].Safe else n[i]) := by
        subst hmem
        simp [outI, hi, hm, List.getD_eq_getElem?_getD, hi2]
      have hat := outs_at hi ho
      have hlt := (List.getElem?_eq_some_iff.1 hat).1
      have hw : loop (lazarettolaw23_LatchesJust_L3 m x m.Vars[i]) (n[i], 0) = some (if forcedN m.Lattice x m.Vars[i].Label then m.Vars[i].Safe else n[i]) := by
        rw [show (n[i], 0) = (fun k => (if (List.range k).any (fun i_1 => !decide (x.getD i_1 0 = 0) && leqN m.Lattice i_1 m.Vars[i].Label) then m.Vars[i].Safe else n[i], k)) 0 from rfl]
        refine loop_for (fun k => (if (List.range k).any (fun i_1 => !decide (x.getD i_1 0 = 0) && leqN m.Lattice i_1 m.Vars[i].Label) then m.Vars[i].Safe else n[i], k)) x.length _ (fun a ha => ?_) (by simp [lazarettolaw23_LatchesJust_L3, forcedN])
        simp only [lazarettolaw23_LatchesJust_L3, Int.ofNat_lt, ha, if_true, List.getElem?_eq_getElem ha, Option.bind_some, refLeq (show m.Lattice.Names.length ≤ 1000000 by omega), List.range_succ, List.any_append, List.any_cons, List.any_nil, Bool.or_false, List.getD_eq_getElem?_getD, Option.getD_some]
        by_cases hz : x[a] = 0
        · simp [hz]
        · cases hq : leqN m.Lattice a m.Vars[i].Label <;> simp [hz]
      have hnl : ¬ ((outsN m mem x m.Vars.length).length : Int) ≤ ((outsN m mem x i).length : Int) := by omega
      simp only [hm, if_true, hw, Option.bind_some, hnl, if_false, hat, ho]
      simp
    · have ho : outI m mem x i = none := by simp [outI, hi, hm]
      simp [hm, ho]
  simp [hl]
end Go.Lz
