
/- P18: an image that may be, and its bytes, in plain words. -/
import Derived.Test.YtakkdadfikcpoaaGreatV18s
import Derived.Test.YtakkdadfikcpoaaGreatP17b
import Derived.Test.YtakkdadfikcpoaaGreatP01
namespace Go.Lz
set_option linter.unusedVariables false
set_option linter.unusedSimpArgs false
set_option maxRecDepth 100000
/-- A search for a part that may not be. -/
theorem tot_all {α : Type} {l : List α} {Q : α → Prop} {f : Nat → Option (Nat ⊕ (Bool ⊕ Unit))} (step : ∀ i (h : i < l.length), Tot (f i) (fun r => (r = .inl (i + 1) ∧ Q l[i]) ∨ r = .inr (.inl false))) (last : f l.length = some (.inr (.inr ()))) :
    Tot (loop f 0) (fun r => r = .inl false ∨ (r = .inr () ∧ ∀ x ∈ l, Q x)) := by
  refine Tot.loop (fun i => i ≤ l.length ∧ ∀ x ∈ l.take i, Q x) (fun i => l.length - i) ⟨by omega, by simp⟩ (fun i ⟨hi, ha⟩ => ?_)
  by_cases h : i < l.length
  · refine (step i h).imp fun r hr => ?_
    rcases hr with ⟨rfl, hq⟩ | rfl
    · refine ⟨⟨by omega, fun x hx => ?_⟩, by show l.length - (i + 1) < l.length - i; omega⟩
      rw [List.take_add_one, List.getElem?_eq_getElem h] at hx
      rcases List.mem_append.1 hx with hx | hx
      · exact ha x hx
      · simp at hx; subst hx; exact hq
    · exact .inl rfl
  · have : i = l.length := by omega
    subst this
    rw [last]
    exact Tot.mk (.inr ⟨rfl, by simpa using ha⟩)
theorem label_ok (m : api_Image) (n : Int) : image_label m n = some (decide (0 ≤ n ∧ n < m.Lattice.Names.length)) := by
  unfold image_label
  by_cases h : 0 ≤ n <;> simp [h]
theorem cellsCheck_t (t : api_Type) : Tot (cells_Check t) fun r => r = 0 → (1 ≤ t.Kind ∧ t.Kind ≤ 4) ∧ -32768 ≤ t.Low ∧ t.Low < 32768 ∧ 0 ≤ t.Len ∧ t.Len ≤ 32 := by
  have hb : Tot (ints_Bits t.Kind) fun r => r ≠ 0 → 1 ≤ t.Kind ∧ t.Kind ≤ 4 := by
    unfold ints_Bits
    repeat' (first | exact Tot.mk (fun h => by omega) | refine Tot.ite (fun _ => ?_) (fun _ => ?_))
  unfold cells_Check
  refine Tot.ite (fun _ => hb.bind fun b hb => ?_) (fun _ => hb.bind fun b hb => ?_)
  all_goals repeat' (first | exact Tot.mk (fun h => by omega) | exact Tot.mk (fun h => ⟨hb (by omega), by omega, by omega, by omega, by omega⟩) | refine Tot.ite (fun _ => ?_) (fun _ => ?_))
theorem valid_t (k n : Int) : Tot (ints_Valid k n) fun r => r = true → I32 n := by
  unfold ints_Valid
  have hb : Tot (ints_Bits k) fun _ => True := by
    unfold ints_Bits
    repeat' (first | exact Tot.mk trivial | refine Tot.ite (fun _ => ?_) (fun _ => ?_))
  refine hb.bind fun b _ => ?_
  refine Tot.ite (fun _ => ?_) (fun _ => Tot.mk (fun h => by cases h))
  unfold ints_Wrap
  rw [Option.bind_some]
  refine Tot.mk fun h => ?_
  simp only [decide_eq_true_eq] at h
  unfold I32
  rcases kinds k with rfl | rfl | rfl | rfl | ⟨h1, h2, h3, h4⟩
  · rw [wrap_1] at h; split at h <;> omega
  · rw [wrap_2] at h; omega
  · rw [wrap_3] at h; omega
  · rw [wrap_4] at h; omega
  · rw [wrap_o h1 h2 h3 h4] at h; omega
structure VarOk (n : Nat) (v : api_Var) : Prop where
  nm : v.Name = []
  kd : 1 ≤ v.Type_.Kind ∧ v.Type_.Kind ≤ 4
  lo : -32768 ≤ v.Type_.Low ∧ v.Type_.Low < 32768
  ln : 0 ≤ v.Type_.Len ∧ v.Type_.Len ≤ 32
  md : 0 ≤ v.Mode ∧ v.Mode ≤ 2
  lb : 0 ≤ v.Label ∧ v.Label < n
  sf : I32 v.Safe
theorem variable_t (m : api_Image) (v : api_Var) : Tot (image_variable m v) fun r => r = true → VarOk m.Lattice.Names.length v := by
  unfold image_variable
  refine Tot.ite (fun h1 => ?_) (fun _ => Tot.mk (fun h => by cases h))
  rw [label_ok, Option.bind_some]
  refine Tot.ite (fun h2 => ?_) (fun _ => Tot.mk (fun h => by cases h))
  simp only [decide_eq_true_eq] at h2
  refine (cellsCheck_t v.Type_).bind fun r hr => ?_
  refine Tot.ite (fun h3 => ?_) (fun _ => Tot.mk (fun h => by cases h))
  obtain ⟨c1, c2, c3, c4, c5⟩ := hr h3
  refine Tot.ite (fun h4 => Tot.mk fun h => ?_) (fun _ => ?_)
  · simp only [decide_eq_true_eq] at h
    exact ⟨h1, c1, ⟨c2, c3⟩, ⟨c4, c5⟩, by omega, h2, by unfold I32; omega⟩
  refine Tot.ite (fun h4 => ?_) (fun _ => ?_)
  · refine Tot.ite (fun h5 => Tot.mk fun h => ?_) (fun _ => Tot.mk (fun h => by cases h))
    exact ⟨h1, c1, ⟨c2, c3⟩, ⟨c4, c5⟩, by omega, h2, by unfold I32; omega⟩
  refine Tot.ite (fun h4 => ?_) (fun _ => Tot.mk (fun h => by cases h))
  refine Tot.ite (fun h5 => ?_) (fun _ => Tot.mk (fun h => by cases h))
  refine (valid_t v.Type_.Kind v.Safe).bind fun r hr => Tot.mk fun h => ?_
  exact ⟨h1, c1, ⟨c2, c3⟩, ⟨c4, c5⟩, by omega, h2, hr h⟩
theorem inputs_t (k : Str) : Tot (blocks_Inputs k) fun r => (r.length : Int) ≠ 0 → k.length ≤ 32 := by
  unfold blocks_Inputs
  repeat' (first | exact Tot.mk (fun h => absurd rfl h) | refine Tot.ite (fun h => Tot.mk (fun _ => by rw [h]; decide)) (fun _ => ?_))
structure TaskOk (n : Nat) (t : api_Task) : Prop where
  ev : 1 ≤ t.Every ∧ t.Every ≤ 65536
  pr : 0 ≤ t.Priority ∧ t.Priority < 256
  bl : t.Budget.length = n
  bd : ∀ x ∈ t.Budget, I32 x
  by_ : t.Body = []
theorem task_t (m : api_Image) (t : api_Task) : Tot (image_task m t) fun r => r = true → TaskOk m.Lattice.Names.length t := by
  unfold image_task
  have : slices_ContainsFunc_int_int t.Budget image_task_1 = some (t.Budget.any fun n => decide (n < 0) || decide (4096 < n)) := cf_gen (fun i hi => by
    simp only [slices_IndexFunc_int_int_L1]
    rw [if_pos (by omega), List.getElem?_eq_getElem hi, Option.bind_some]
    unfold image_task_1
    by_cases h1 : t.Budget[i] < 0 <;> by_cases h2 : 4096 < t.Budget[i] <;> simp [h1, h2]) (by simp [slices_IndexFunc_int_int_L1])
  rw [this, Option.bind_some]
  refine Tot.ite (fun h1 => Tot.mk (fun h => by cases h)) (fun h0 => ?_)
  refine Tot.ite (fun h1 => ?_) (fun _ => Tot.mk (fun h => by cases h))
  refine Tot.ite (fun h2 => ?_) (fun _ => Tot.mk (fun h => by cases h))
  refine Tot.ite (fun h3 => ?_) (fun _ => Tot.mk (fun h => by cases h))
  refine Tot.ite (fun h4 => ?_) (fun _ => Tot.mk (fun h => by cases h))
  refine Tot.ite (fun h5 => ?_) (fun _ => Tot.mk (fun h => by cases h))
  refine Tot.mk fun h => ?_
  simp only [decide_eq_true_eq] at h
  refine ⟨⟨h1, h2⟩, ⟨h3, h4⟩, by omega, fun x hx => ?_, List.eq_nil_of_length_eq_zero (by omega)⟩
  have : ¬ ((decide (x < 0) || decide (4096 < x)) = true) := fun hh => h0 (List.any_eq_true.2 ⟨x, hx, hh⟩)
  simp at this
  unfold I32; omega
structure SiteOk (n : Nat) (s : api_Site) : Prop where
  nm : s.Name = []
  fr : 0 ≤ s.From ∧ s.From < n
  to : 0 ≤ s.To ∧ s.To < n
structure BlockOk (n : Nat) (b : api_Block) : Prop where
  nm : b.Name = []
  lb : 0 ≤ b.Label ∧ b.Label < n
  kd : b.Kind.length ≤ 32
structure Parts (m : api_Image) : Prop where
  st : ∀ s ∈ m.Sites, SiteOk m.Lattice.Names.length s
  vr : ∀ v ∈ m.Vars, VarOk m.Lattice.Names.length v
  bk : ∀ b ∈ m.Blocks, BlockOk m.Lattice.Names.length b
  tc : m.Tasks.length = m.Code.length
  tk : ∀ t ∈ m.Tasks, TaskOk m.Lattice.Names.length t
  cd : ∀ c ∈ m.Code, codeC c = 0
theorem parts_t (m : api_Image) : Tot (image_parts m) fun r => r = true → Parts m := by
  unfold image_parts
  refine (tot_all (l := m.Sites) (Q := SiteOk m.Lattice.Names.length) (fun i hi => ?_) (by simp [image_parts_L1])).bind fun r hr => ?_
  · simp only [image_parts_L1]
    rw [if_pos (by omega), List.getElem?_eq_getElem hi, Option.bind_some, label_ok, label_ok]
    refine Tot.ite (fun h1 => ?_) (fun _ => Tot.mk (.inr rfl))
    rw [Option.bind_some]
    refine Tot.ite (fun h2 => ?_) (fun _ => Tot.mk (.inr rfl))
    rw [Option.bind_some]
    refine Tot.ite (fun h3 => ?_) (fun _ => Tot.mk (.inr rfl))
    simp only [decide_eq_true_eq] at h2 h3
    exact Tot.mk (.inl ⟨rfl, h1, h2, h3⟩)
  rcases hr with rfl | ⟨rfl, hs⟩
  · exact Tot.mk fun h => by cases h
  refine (tot_all (l := m.Vars) (Q := VarOk m.Lattice.Names.length) (fun i hi => ?_) (by simp [image_parts_L2])).bind fun r hr => ?_
  · simp only [image_parts_L2]
    rw [if_pos (by omega), List.getElem?_eq_getElem hi, Option.bind_some]
    refine (variable_t m _).bind fun r hr => ?_
    exact Tot.ite (fun h => Tot.mk (.inl ⟨rfl, hr h⟩)) (fun _ => Tot.mk (.inr rfl))
  rcases hr with rfl | ⟨rfl, hv⟩
  · exact Tot.mk fun h => by cases h
  refine (tot_all (l := m.Blocks) (Q := BlockOk m.Lattice.Names.length) (fun i hi => ?_) (by simp [image_parts_L3])).bind fun r hr => ?_
  · simp only [image_parts_L3]
    rw [if_pos (by omega), List.getElem?_eq_getElem hi, Option.bind_some, label_ok]
    refine Tot.ite (fun h1 => ?_) (fun _ => Tot.mk (.inr rfl))
    rw [Option.bind_some]
    refine Tot.ite (fun h2 => ?_) (fun _ => Tot.mk (.inr rfl))
    simp only [decide_eq_true_eq] at h2
    refine (inputs_t _).bind fun r hr => ?_
    exact Tot.ite (fun _ => Tot.mk (.inr rfl)) (fun h => Tot.mk (.inl ⟨rfl, h1, h2, hr h⟩))
  rcases hr with rfl | ⟨rfl, hb⟩
  · exact Tot.mk fun h => by cases h
  refine Tot.ite (fun ht => ?_) (fun _ => Tot.mk (fun h => by cases h))
  have ht' : m.Tasks.length = m.Code.length := by omega
  refine (tot_all (l := (List.range m.Tasks.length)) (Q := fun i => ∀ (h1 : i < m.Tasks.length) (h2 : i < m.Code.length), TaskOk m.Lattice.Names.length m.Tasks[i] ∧ codeC m.Code[i] = 0) (fun i hi => ?_) (by simp [image_parts_L4])).bind fun r hr => ?_
  · simp only [List.length_range] at hi
    simp only [image_parts_L4]
    rw [if_pos (by omega), List.getElem?_eq_getElem hi, Option.bind_some]
    refine (task_t m _).bind fun r hr => ?_
    refine Tot.ite (fun h => ?_) (fun _ => Tot.mk (.inr rfl))
    rw [List.getElem?_eq_getElem (by omega : i < m.Code.length), Option.bind_some, Check_ok, Option.bind_some]
    refine Tot.ite (fun h2 => ?_) (fun _ => Tot.mk (.inr rfl))
    refine Tot.mk (.inl ⟨rfl, ?_⟩)
    rw [List.getElem_range]
    exact fun h1 h3 => ⟨hr h, h2⟩
  rcases hr with rfl | ⟨rfl, hq⟩
  · exact Tot.mk fun h => by cases h
  refine Tot.mk fun _ => ⟨hs, hv, hb, ht', fun t h => ?_, fun c h => ?_⟩
  · obtain ⟨i, hi⟩ := List.getElem?_of_mem h
    obtain ⟨hl, rfl⟩ := List.getElem?_eq_some_iff.1 hi
    exact (hq i (List.mem_range.2 hl) hl (by omega)).1
  · obtain ⟨i, hi⟩ := List.getElem?_of_mem h
    obtain ⟨hl, rfl⟩ := List.getElem?_eq_some_iff.1 hi
    exact (hq i (List.mem_range.2 (by omega)) (by omega) hl).2
structure Small (m : api_Image) : Prop where
  nm : m.Lattice.Names.length ≤ 8
  bl : m.Lattice.Below.length ≤ 64
  st : m.Sites.length ≤ 8
  vr : m.Vars.length ≤ 96
  bk : m.Blocks.length ≤ 12
  tk : m.Tasks.length ≤ 4
  tx : ∀ s ∈ m.Lattice.Names, s.length ≤ 32
theorem small_t (m : api_Image) : Tot (image_small m) fun r => r = true → Small m := by
  unfold image_small
  refine Tot.ite (fun _ => Tot.mk (fun h => by cases h)) (fun h1 => ?_)
  refine Tot.ite (fun _ => Tot.mk (fun h => by cases h)) (fun h2 => ?_)
  refine Tot.ite (fun _ => Tot.mk (fun h => by cases h)) (fun h3 => ?_)
  refine Tot.ite (fun _ => Tot.mk (fun h => by cases h)) (fun h4 => ?_)
  refine Tot.ite (fun _ => Tot.mk (fun h => by cases h)) (fun h5 => ?_)
  refine Tot.ite (fun _ => Tot.mk (fun h => by cases h)) (fun h6 => ?_)
  have e1 : slices_ContainsFunc_string_string m.Lattice.Names image_small_1 = some (m.Lattice.Names.any fun s => decide (32 < (s.length : Int))) := cf_gen (fun i hi => by
    simp only [slices_IndexFunc_string_string_L1]
    rw [if_pos (by omega), List.getElem?_eq_getElem hi, Option.bind_some]
    unfold image_small_1
    rw [Option.bind_some]
    split <;> rfl) (by simp [slices_IndexFunc_string_string_L1])
  have e2 : slices_ContainsFunc__LL_api_Ins_api_Ins m.Code image_small_2 = some (m.Code.any fun s => decide (32768 < (s.length : Int))) := cf_gen (fun i hi => by
    simp only [slices_IndexFunc__LL_api_Ins_api_Ins_L1]
    rw [if_pos (by omega), List.getElem?_eq_getElem hi, Option.bind_some]
    unfold image_small_2
    rw [Option.bind_some]
    split <;> rfl) (by simp [slices_IndexFunc__LL_api_Ins_api_Ins_L1])
  rw [e1, Option.bind_some]
  refine Tot.ite (fun _ => Tot.mk (fun h => by cases h)) (fun h7 => ?_)
  rw [e2, Option.bind_some]
  refine Tot.mk fun _ => ⟨by omega, by omega, by omega, by omega, by omega, by omega, fun s hs => ?_⟩
  have : ¬ (decide (32 < (s.length : Int)) = true) := fun hh => h7 (List.any_eq_true.2 ⟨s, hs, hh⟩)
  simp at this; omega
structure Fine (m : api_Image) : Prop where
  sm : Small m
  pt : Parts m
  bl : ∀ p ∈ m.Lattice.Below, (0 ≤ p.a0 ∧ p.a0 < m.Lattice.Names.length) ∧ 0 ≤ p.a1 ∧ p.a1 < m.Lattice.Names.length
theorem imgCheck_t (m : api_Image) : Tot (image_Check m) fun r => r = 0 → Fine m := by
  unfold image_Check
  refine (small_t m).bind fun r hr => ?_
  refine Tot.ite (fun h1 => ?_) (fun _ => Tot.mk (fun h => by cases h))
  rw [latCheck, Option.bind_some]
  refine Tot.ite (fun h2 => ?_) (fun h2 => Tot.mk (fun h => absurd h h2))
  refine (parts_t m).bind fun r3 hr3 => ?_
  refine Tot.ite (fun h3 => ?_) (fun _ => Tot.mk (fun h => by cases h))
  refine Tot.mk fun _ => ⟨hr h1, hr3 h3, fun p hp => ?_⟩
  unfold checkN at h2
  split at h2
  · cases h2
  split at h2
  · cases h2
  split at h2
  · rename_i ha
    have := List.all_eq_true.1 ha p hp
    unfold edgeOk at this
    simp only [Bool.and_eq_true, decide_eq_true_eq] at this
    exact this
  · cases h2
noncomputable def imgC (m : api_Image) : Int := (image_Check m).getD 0
theorem imgCheck (m : api_Image) : image_Check m = some (imgC m) := by
  obtain ⟨r, hr, _⟩ := imgCheck_t m
  simp [imgC, hr]
theorem imgFine {m : api_Image} (h : imgC m = 0) : Fine m := by
  obtain ⟨r, hr, hq⟩ := imgCheck_t m
  rw [imgCheck, h] at hr
  exact hq (Option.some.inj hr).symm
end Go.Lz
