/- P18f: the reference asks the same of images, in plain words. -/
import Derived.Test.YtakkdadfikcpoaaGreatP18e
namespace Go.Lz
set_option linter.unusedVariables false
set_option linter.unusedSimpArgs false
set_option maxRecDepth 100000
theorem ite_dec {c p : Prop} [Decidable c] [Decidable p] : (if c then some (decide p) else some false) = some (decide (c ∧ p)) := by by_cases h : c <;> simp [h]
theorem names2 (op : Int) : ∃ (k : Int) (a b l : Bool), code_names op = some k ∧ lazarettoref17_names op = some (a, b, l) ∧ ((w64 (andI .i64 k 1) = 0) ↔ a = false) ∧ ((w64 (andI .i64 k 2) = 0) ↔ b = false) ∧ ((w64 (andI .i64 k 4) = 0) ↔ l = false) := by
  unfold code_names lazarettoref17_names
  by_cases h1 : op = 1
  · rw [if_pos h1, if_pos h1]; exact ⟨3, true, true, false, rfl, rfl, by decide, by decide, by decide⟩
  rw [if_neg h1, if_neg h1]
  by_cases h1 : op = 7
  · rw [if_pos h1, if_pos h1]; exact ⟨3, true, true, false, rfl, rfl, by decide, by decide, by decide⟩
  rw [if_neg h1, if_neg h1]
  by_cases h1 : op = 2
  · rw [if_pos h1, if_pos h1]; exact ⟨1, true, false, false, rfl, rfl, by decide, by decide, by decide⟩
  rw [if_neg h1, if_neg h1]
  by_cases h1 : op = 4
  · rw [if_pos h1, if_pos h1]; exact ⟨1, true, false, false, rfl, rfl, by decide, by decide, by decide⟩
  rw [if_neg h1, if_neg h1]
  by_cases h1 : op = 8
  · rw [if_pos h1, if_pos h1]; exact ⟨1, true, false, false, rfl, rfl, by decide, by decide, by decide⟩
  rw [if_neg h1, if_neg h1]
  by_cases h1 : op = 9
  · rw [if_pos h1, if_pos h1]; exact ⟨1, true, false, false, rfl, rfl, by decide, by decide, by decide⟩
  rw [if_neg h1, if_neg h1]
  by_cases h1 : op = 3
  · rw [if_pos h1, if_pos h1]; exact ⟨5, true, false, true, rfl, rfl, by decide, by decide, by decide⟩
  rw [if_neg h1, if_neg h1]
  by_cases h1 : op = 5
  · rw [if_pos h1, if_pos h1]; exact ⟨5, true, false, true, rfl, rfl, by decide, by decide, by decide⟩
  rw [if_neg h1, if_neg h1]
  by_cases h1 : op = 6
  · rw [if_pos h1, if_pos h1]; exact ⟨7, true, true, true, rfl, rfl, by decide, by decide, by decide⟩
  rw [if_neg h1, if_neg h1]
  by_cases h1 : op = 15
  · rw [if_pos h1, if_pos h1]; exact ⟨7, true, true, true, rfl, rfl, by decide, by decide, by decide⟩
  rw [if_neg h1, if_neg h1]
  by_cases h1 : op = 10
  · rw [if_pos h1, if_pos h1]; exact ⟨4, false, false, true, rfl, rfl, by decide, by decide, by decide⟩
  rw [if_neg h1, if_neg h1]
  by_cases h1 : op = 11
  · rw [if_pos h1, if_pos h1]; exact ⟨4, false, false, true, rfl, rfl, by decide, by decide, by decide⟩
  rw [if_neg h1, if_neg h1]
  by_cases h1 : op = 14
  · rw [if_pos h1, if_pos h1]; exact ⟨4, false, false, true, rfl, rfl, by decide, by decide, by decide⟩
  rw [if_neg h1, if_neg h1]
  exact ⟨0, false, false, false, rfl, rfl, by decide, by decide, by decide⟩
theorem one_eq (i : api_Ins) : lazarettoref17_one i = code_may i := by
  obtain ⟨k, a, b, l, h1, h2, h3, h4, h5⟩ := names2 i.Op
  unfold lazarettoref17_one code_may
  rw [h1, h2, Option.bind_some, Option.bind_some]
  simp only [h3, h4, h5]
  cases a <;> cases b <;> cases l <;> simp only [ite_dec, reduceCtorEq, if_true, if_false] <;> congr 1 <;> rw [decide_eq_decide] <;> omega
theorem refCheckC (l : List api_Ins) : lazarettoref17_Check l = some (codeC l) := by
  unfold lazarettoref17_Check codeC
  by_cases h : 32768 < l.length
  · rw [if_pos (by omega), if_pos h]
  rw [if_neg (by omega), if_neg h]
  have := loop_all (xs := l) (p := mayB) (f := lazarettoref17_Check_L1 l) (a := .inl 8) (b := .inr ()) (fun i hi => by
    simp only [lazarettoref17_Check_L1]
    rw [if_pos (by omega), List.getElem?_eq_getElem hi, Option.bind_some, one_eq, may_ok, Option.bind_some]
    split <;> rfl) (by simp [lazarettoref17_Check_L1])
  rw [this]
  by_cases ha : l.all mayB = true
  · rw [if_pos ha, if_neg (by
      simp only [List.any_eq_true, not_exists, not_and]
      intro x hx
      simp [List.all_eq_true.1 ha x hx])]
    rfl
  · rw [if_neg ha, if_pos (by
      simp only [List.all_eq_true, Classical.not_forall] at ha
      obtain ⟨x, hx, hn⟩ := ha
      exact List.any_eq_true.2 ⟨x, hx, by simpa using hn⟩)]
    rfl
theorem is_eq (m : api_Image) (n : Int) : lazarettoref01_Is m.Lattice n = image_label m n := rfl
theorem bits_eq (k : Int) : lazarettoref03_Bits k = ints_Bits k := rfl
theorem bits_t (k : Int) : Tot (ints_Bits k) fun r => 0 ≤ r ∧ (0 < r ↔ 1 ≤ k ∧ k ≤ 4) := by
  unfold ints_Bits
  repeat' (first | exact Tot.mk (by omega) | refine Tot.ite (fun _ => ?_) (fun _ => ?_))
theorem cells_eq (t : api_Type) : lazarettoref04_Check t = cells_Check t := by
  unfold lazarettoref04_Check cells_Check
  rw [bits_eq]
  obtain ⟨r, hr, _⟩ := bits_t t.Kind
  rw [hr]
  simp only [Option.bind_some]
  by_cases h1 : r = 0 <;> by_cases h2 : t.Len < 0 <;> by_cases h3 : 32 < t.Len <;> by_cases h4 : t.Len = 0 <;> by_cases h5 : t.Low = 0 <;> by_cases h6 : t.Low < -32768 <;> by_cases h7 : 32767 < t.Low <;> by_cases h8 : -32768 ≤ t.Low <;> by_cases h9 : t.Low < 32768 <;> first | omega | simp [h1, h2, h3, h4, h5, h6, h7, h8, h9]
theorem valid_eq (k n : Int) : lazarettoref03_Valid k n = ints_Valid k n := by
  rcases kinds k with rfl | rfl | rfl | rfl | ⟨h1, h2, h3, h4⟩
  · show (if n = 0 then some true else some (decide (n = 1))) = some (decide (wrapS 1 n = n))
    rw [wrap_1]
    by_cases h : n = 0
    · rw [if_pos h, if_pos h, h]; rfl
    · rw [if_neg h, if_neg h]
      have : (n = 1) = (1 = n) := by rw [eq_iff_iff]; omega
      simp only [this]
  · show (if w64 (0 - 32768) ≤ n then some (decide (n < 32768)) else some false) = some (decide (wrapS 2 n = n))
    rw [wrap_2, ite_dec, show w64 (0 - 32768) = -32768 from w64_id (by omega) (by omega)]
    have : (-32768 ≤ n ∧ n < 32768) = ((n + 32768) % 65536 - 32768 = n) := by rw [eq_iff_iff]; omega
    simp only [this]
  · show (if w64 (0 - 2147483648) ≤ n then some (decide (n < 2147483648)) else some false) = some (decide (wrapS 3 n = n))
    rw [wrap_3, ite_dec, show w64 (0 - 2147483648) = -2147483648 from w64_id (by omega) (by omega)]
    have : (-2147483648 ≤ n ∧ n < 2147483648) = ((n + 2147483648) % 4294967296 - 2147483648 = n) := by rw [eq_iff_iff]; omega
    simp only [this]
  · show (if w64 (0 - 2147483648) ≤ n then some (decide (n < 2147483648)) else some false) = some (decide (wrapS 4 n = n))
    rw [wrap_4, ite_dec, show w64 (0 - 2147483648) = -2147483648 from w64_id (by omega) (by omega)]
    have : (-2147483648 ≤ n ∧ n < 2147483648) = ((n + 2147483648) % 4294967296 - 2147483648 = n) := by rw [eq_iff_iff]; omega
    simp only [this]
  · unfold lazarettoref03_Valid ints_Valid
    rw [bits_eq]
    have : ints_Bits k = some 0 := by unfold ints_Bits; rw [if_neg h1, if_neg h2, if_neg h3, if_neg h4]
    rw [if_neg h1, this]
    rfl
theorem var_eq (m : api_Image) (v : api_Var) : lazarettoref18_variable m v = image_variable m v := by
  unfold lazarettoref18_variable image_variable
  rw [is_eq, cells_eq, label_ok]
  obtain ⟨r, hr, _⟩ := cellsCheck_t v.Type_
  obtain ⟨q, hq, _⟩ := valid_t v.Type_.Kind v.Safe
  rw [hr, valid_eq, hq]
  simp only [Option.bind_some]
  by_cases h1 : v.Name = [] <;> by_cases h2 : r = 0 <;> by_cases h3 : v.Mode = 0 <;> by_cases h4 : v.Mode = 1 <;> by_cases h5 : v.Mode = 2 <;> by_cases h6 : v.Type_.Len = 0 <;> by_cases h7 : v.Safe = 0 <;> first | omega | simp [h1, h2, h3, h4, h5, h6, h7]
theorem inp_eq (k : Str) : lazarettoref11_Inputs k = blocks_Inputs k := rfl
theorem task_eq (m : api_Image) (t : api_Task) : lazarettoref18_task m t = image_task m t := by
  unfold lazarettoref18_task image_task
  have : slices_ContainsFunc_int_int t.Budget image_task_1 = some (t.Budget.any fun n => decide (n < 0) || decide (4096 < n)) := cf_gen (fun i hi => by
    simp only [slices_IndexFunc_int_int_L1]
    rw [if_pos (by omega), List.getElem?_eq_getElem hi, Option.bind_some]
    unfold image_task_1
    by_cases h1 : t.Budget[i] < 0 <;> by_cases h2 : 4096 < t.Budget[i] <;> simp [h1, h2]) (by simp [slices_IndexFunc_int_int_L1])
  have h2 := loop_all (xs := t.Budget) (p := fun n => !(decide (n < 0) || decide (4096 < n))) (f := lazarettoref18_task_L1 t) (a := .inl false) (b := .inr ()) (fun i hi => by
    simp only [lazarettoref18_task_L1]
    rw [if_pos (by omega), List.getElem?_eq_getElem hi, Option.bind_some]
    by_cases h1 : t.Budget[i] < 0 <;> by_cases h2 : 4096 < t.Budget[i] <;> simp [h1, h2]) (by simp [lazarettoref18_task_L1])
  rw [this, h2]
  have e : (t.Budget.all fun n => !(decide (n < 0) || decide (4096 < n))) = !(t.Budget.any fun n => decide (n < 0) || decide (4096 < n)) := by
    induction t.Budget with
    | nil => rfl
    | cons x xs ih => rw [List.all_cons, List.any_cons, ih]; simp
  rw [e]
  generalize (t.Budget.any fun n => decide (n < 0) || decide (4096 < n)) = q
  by_cases h1 : t.Every < 1 <;> by_cases h2 : 65536 < t.Every <;> by_cases h3 : t.Priority < 0 <;> by_cases h4 : 255 < t.Priority <;> by_cases h5 : (t.Budget.length : Int) = (m.Lattice.Names.length : Int) <;> by_cases h6 : 0 < (t.Body.length : Int) <;> cases q <;> first | omega | (simp only [Option.bind_some, h1, h2, h3, h4, h5, h6, if_true, if_false, show (1 ≤ t.Every) = ¬(t.Every < 1) by simp, show (t.Every ≤ 65536) = ¬ (65536 < t.Every) by simp, show (0 ≤ t.Priority) = ¬ (t.Priority < 0) by simp, show (t.Priority < 256) = ¬ (255 < t.Priority) by rw [eq_iff_iff]; omega, not_true_eq_false, not_false_eq_true, Bool.not_true, Bool.not_false, Bool.false_eq_true, show ((t.Body.length : Int) = 0) = ¬ (0 < (t.Body.length : Int)) by rw [eq_iff_iff]; omega, decide_true, decide_false]; try rfl)
theorem p1_eq (m : api_Image) : lazarettoref18_parts_L1 m = image_parts_L1 m := rfl
theorem p2_eq (m : api_Image) : lazarettoref18_parts_L2 m = image_parts_L2 m := by
  funext i; simp only [lazarettoref18_parts_L2, image_parts_L2, var_eq]
theorem p3_eq (m : api_Image) : lazarettoref18_parts_L3 m = image_parts_L3 m := rfl
theorem p4_eq (m : api_Image) : lazarettoref18_parts_L4 m = image_parts_L4 m := by
  funext i; simp only [lazarettoref18_parts_L4, image_parts_L4, task_eq, refCheckC, Check_ok]
theorem parts_eq (m : api_Image) : lazarettoref18_parts m = image_parts m := by
  unfold lazarettoref18_parts image_parts
  rw [p1_eq, p2_eq, p3_eq, p4_eq]
  have hc : ∀ (x y : Option Bool), (if (m.Code.length : Int) = (m.Tasks.length : Int) then x else y) = (if (m.Tasks.length : Int) = (m.Code.length : Int) then x else y) := by
    intro x y
    by_cases h : (m.Tasks.length : Int) = (m.Code.length : Int)
    · rw [if_pos h, if_pos h.symm]
    · rw [if_neg h, if_neg (fun e => h e.symm)]
  simp only [hc]
  rfl
theorem all_not {α : Type} (l : List α) (p : α → Bool) : (l.all fun x => !p x) = !(l.any p) := by
  induction l with
  | nil => rfl
  | cons x xs ih => rw [List.all_cons, List.any_cons, ih]; cases p x <;> rfl
theorem caps_eq (m : api_Image) : lazarettoref18_caps m = image_small m := by
  unfold lazarettoref18_caps image_small
  have e1 : slices_ContainsFunc_string_string m.Lattice.Names image_small_1 = some (m.Lattice.Names.any fun s => decide (32 < (s.length : Int))) := cf_gen (fun i hi => by
    simp only [slices_IndexFunc_string_string_L1]
    rw [if_pos (by omega), List.getElem?_eq_getElem hi, Option.bind_some]
    unfold image_small_1
    rw [Option.bind_some]
    split <;> rfl) (by simp [slices_IndexFunc_string_string_L1])
  have e2 : slices_ContainsFunc__LL_api_Ins_api_Ins m.Code image_small_2 = some (m.Code.any fun s => decide (32768 < (s.length : Int))) := cf_gen (fun i hi => by
    simp only [slices_IndexFunc__LL_api_Ins_api_Ins_L1]
    rw [if_pos (by omega), List.getElem?_eq_getElem hi, Option.bind_some]
    unfold image_small_2
    rw [Option.bind_some]
    split <;> rfl) (by simp [slices_IndexFunc__LL_api_Ins_api_Ins_L1])
  have k1 := loop_all (xs := m.Lattice.Names) (p := fun s => !decide (32 < (s.length : Int))) (f := lazarettoref18_caps_L1 m) (a := .inl false) (b := .inr ()) (fun i hi => by
    simp only [lazarettoref18_caps_L1]
    rw [if_pos (by omega), List.getElem?_eq_getElem hi, Option.bind_some]
    by_cases h : 32 < ((m.Lattice.Names[i]).length : Int) <;> simp only [h, if_true, if_false, decide_true, decide_false, Bool.not_true, Bool.not_false, Bool.false_eq_true]) (by simp [lazarettoref18_caps_L1])
  have k2 := loop_all (xs := m.Code) (p := fun s => !decide (32768 < (s.length : Int))) (f := lazarettoref18_caps_L2 m) (a := .inl false) (b := .inr ()) (fun i hi => by
    simp only [lazarettoref18_caps_L2]
    rw [if_pos (by omega), List.getElem?_eq_getElem hi, Option.bind_some]
    by_cases h : 32768 < ((m.Code[i]).length : Int) <;> simp only [h, if_true, if_false, decide_true, decide_false, Bool.not_true, Bool.not_false, Bool.false_eq_true]) (by simp [lazarettoref18_caps_L2])
  rw [all_not] at k1 k2
  rw [e1, e2, k1, k2]
  generalize (m.Lattice.Names.any fun s => decide (32 < (s.length : Int))) = q1
  generalize (m.Code.any fun s => decide (32768 < (s.length : Int))) = q2
  by_cases h1 : 8 < (m.Lattice.Names.length : Int)
  · rw [if_pos h1, if_pos h1]
  rw [if_neg h1, if_neg h1]
  by_cases h3 : 8 < (m.Sites.length : Int) <;> by_cases h4 : 12 < (m.Blocks.length : Int) <;> by_cases h5 : 4 < (m.Tasks.length : Int) <;> by_cases h6 : 96 < (m.Vars.length : Int) <;> by_cases h7 : 64 < (m.Lattice.Below.length : Int) <;> cases q1 <;> cases q2 <;> simp only [h3, h4, h5, h6, h7, if_true, if_false] <;> rfl
theorem check_eq (m : api_Image) : lazarettoref18_Check m = some (imgC m) := by
  rw [← imgCheck]
  unfold lazarettoref18_Check image_Check
  rw [caps_eq, refCheck, latCheck, parts_eq]
end Go.Lz
