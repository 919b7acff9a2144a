/- P08: a program of its form: what it is; that the question is answered. -/
import Derived.Test.YtmgedefdjobgdaaGreatV08
import Derived.Test.YtmgedefdjobgdaaGreatP07
namespace Go.Lz
set_option linter.unusedVariables false
set_option linter.unusedSimpArgs false
/-- Whether all of a list are so. -/
theorem all_t {α : Type} {xs : List α} {g : α → Prop} {f : Nat → Option (Nat ⊕ (Bool ⊕ Unit))} (step : ∀ i (h : i < xs.length), Tot (f i) fun r => r = .inl (i + 1) ∧ g xs[i] ∨ r = .inr (.inl false)) (last : f xs.length = some (.inr (.inr ()))) :
    Tot (loop f 0) fun r => r = .inl false ∨ r = .inr () ∧ ∀ x ∈ xs, g x := by
  refine Tot.loop (fun i => i ≤ xs.length ∧ ∀ x ∈ xs.take i, g x) (fun i => xs.length - i) ⟨Nat.zero_le _, by simp⟩ fun i ⟨hi, hI⟩ => ?_
  by_cases h : i < xs.length
  · refine (step i h).imp fun r hr => ?_
    rcases hr with ⟨rfl, hg⟩ | rfl
    · refine ⟨⟨h, fun y hy => ?_⟩, by simp only; omega⟩
      rw [take_get h] at hy
      rcases List.mem_append.1 hy with hy | hy
      · exact hI y hy
      · rw [List.mem_singleton] at hy; rw [hy]; exact hg
    · exact .inl rfl
  · have : i = xs.length := by omega
    subst this
    rw [List.take_length] at hI
    exact ⟨_, last, .inr ⟨rfl, hI⟩⟩
theorem find_t (l : List Str) (s : Str) : Tot (lazarettoref08_find l s) fun _ => True := by
  unfold lazarettoref08_find
  refine Tot.bind (Tot.loop (fun i => i ≤ l.length) (R := fun _ => True) (fun i => l.length - i) (Nat.zero_le _) fun i hi => ?_) fun r _ => by cases r <;> exact Tot.mk trivial
  unfold lazarettoref08_find_L1
  refine Tot.ite (fun h => ?_) fun _ => Tot.mk trivial
  have h' : i < l.length := by omega
  exact (Tot.get h').bind fun x _ => Tot.ite (fun _ => Tot.mk trivial) fun _ => Tot.mk ⟨h', by simp only; omega⟩
def isLab (p : api_Program) (n : Int) : Prop := 0 ≤ n ∧ n < (p.Lattice.Names.length : Int)
theorem label_t (p : api_Program) (n : Int) : Tot (lazarettoref08_label p n) fun b => b = true → isLab p n := by
  unfold lazarettoref08_label lazarettoref01_Is
  refine Tot.bind (Tot.ite (fun h => Tot.mk (Q := fun b => b = true → isLab p n) fun h2 => ⟨h, of_decide_eq_true h2⟩) fun _ => Tot.mk fun h => by cases h) fun b hb => Tot.mk hb
theorem bits_t (k : Int) : Tot (lazarettoref03_Bits k) fun r => r ≠ 0 → k = 1 ∨ k = 2 ∨ k = 3 ∨ k = 4 := by
  unfold lazarettoref03_Bits
  exact Tot.ite (fun h => Tot.mk fun _ => by omega) fun _ => Tot.ite (fun h => Tot.mk fun _ => by omega) fun _ => Tot.ite (fun h => Tot.mk fun _ => by omega) fun _ => Tot.ite (fun h => Tot.mk fun _ => by omega) fun _ => Tot.mk fun h => (h rfl).elim
theorem type_t (t : api_Type) : Tot (lazarettoref04_Check t) fun r => r = 0 → (t.Kind = 1 ∨ t.Kind = 2 ∨ t.Kind = 3 ∨ t.Kind = 4) ∧ 0 ≤ t.Len ∧ t.Len ≤ 32 ∧ -32768 ≤ t.Low ∧ t.Low ≤ 32767 ∧ (t.Len = 0 → t.Low = 0) := by
  have no : ∀ {Q : Prop}, Tot (some (6 : Int)) fun b => b = 0 → Q := Tot.mk fun h => by cases h
  unfold lazarettoref04_Check
  refine (bits_t _).bind fun r hr => Tot.ite (fun _ => no) fun h => Tot.ite (fun _ => no) fun _ => Tot.ite (fun _ => no) fun _ => ?_
  have hk := hr h
  exact Tot.ite (fun _ => Tot.ite (fun _ => Tot.ite (fun _ => no) fun _ => Tot.ite (fun _ => no) fun _ => Tot.mk fun _ => ⟨hk, by omega, by omega, by omega, by omega, by omega⟩) fun _ => no) fun _ => Tot.ite (fun _ => no) fun _ => Tot.ite (fun _ => no) fun _ => Tot.mk fun _ => ⟨hk, by omega, by omega, by omega, by omega, by omega⟩
theorem valid_t (k n : Int) : Tot (lazarettoref03_Valid k n) fun b => b = true → (-2147483648 ≤ n ∧ n < 2147483648) ∧ (k = 1 → n = 0 ∨ n = 1) ∧ (k = 2 → -32768 ≤ n ∧ n < 32768) := by
  unfold lazarettoref03_Valid
  refine Tot.ite (fun _ => Tot.ite (fun _ => Tot.mk fun _ => by omega) fun _ => Tot.mk fun h => by have := of_decide_eq_true h; omega) fun _ => ?_
  have hh : Tot (lazarettoref03_half k) fun r => 0 ≤ r ∧ r ≤ 2147483648 ∧ (k = 2 → r = 32768) := by
    unfold lazarettoref03_half
    exact Tot.ite (fun _ => Tot.mk ⟨by decide, by decide, fun _ => rfl⟩) fun h => Tot.mk ⟨by decide, by decide, fun h' => (h h').elim⟩
  obtain ⟨a, ha, ha'⟩ := hh
  refine (bits_t _).bind fun r _ => Tot.ite (fun _ => ?_) fun _ => Tot.mk fun h => by cases h
  rw [ha, Option.bind_some, w64_id (by omega) (by omega)]
  refine Tot.ite (fun _ => Tot.mk fun h => ?_) fun _ => Tot.mk fun h => by cases h
  have := of_decide_eq_true h
  omega
structure GoodV (p : api_Program) (v : api_Var) : Prop where
  name : v.Name.length ≤ 32
  kind : v.Type_.Kind = 1 ∨ v.Type_.Kind = 2 ∨ v.Type_.Kind = 3 ∨ v.Type_.Kind = 4
  len : 0 ≤ v.Type_.Len ∧ v.Type_.Len ≤ 32
  low : -32768 ≤ v.Type_.Low ∧ v.Type_.Low ≤ 32767
  mode : v.Mode = 0 ∨ v.Mode = 1 ∨ v.Mode = 2
  scalar : v.Mode ≠ 0 → v.Type_.Len = 0
  label : v.Label = -1 ∨ isLab p v.Label
  safe : -2147483648 ≤ v.Safe ∧ v.Safe < 2147483648
  zero : v.Type_.Len = 0 → v.Type_.Low = 0
  vsafe : (v.Type_.Kind = 1 → v.Safe = 0 ∨ v.Safe = 1) ∧ (v.Type_.Kind = 2 → -32768 ≤ v.Safe ∧ v.Safe < 32768)
theorem var_t (p : api_Program) (v : api_Var) : Tot (lazarettoref08_variable p v) fun b => b = true → GoodV p v := by
  have no : ∀ {Q : Prop}, Tot (some false) fun b => b = true → Q := Tot.mk fun h => by cases h
  unfold lazarettoref08_variable
  refine (name_t _).bind fun b hb => Tot.ite (fun h1 => (type_t _).bind fun r hr => Tot.ite (fun h2 => ?_) fun _ => no) fun _ => no
  obtain ⟨t1, t2, t3, t4, t5, t6⟩ := hr h2
  have n := (hb h1).1
  refine Tot.ite (fun m => Tot.ite (fun s => ?_) fun _ => no) fun m0 => ?_
  · refine Tot.ite (fun l => Tot.ite (fun e => Tot.mk fun _ => ⟨n, t1, ⟨t2, t3⟩, ⟨t4, t5⟩, .inl m, fun h => (h m).elim, .inl l, by omega, t6, by omega⟩) fun e => Tot.mk fun _ => ⟨n, t1, ⟨t2, t3⟩, ⟨t4, t5⟩, .inl m, fun h => (h m).elim,   .inl l, by omega, t6, by omega⟩) fun l => ?_
    exact (label_t _ _).bind fun b hl => Tot.ite (fun hb => Tot.ite (fun e => Tot.mk fun _ => ⟨n, t1, ⟨t2, t3⟩, ⟨t4, t5⟩, .inl m, fun h => (h m).elim, .inr (hl hb), by omega, t6, by omega⟩) fun e => Tot.mk fun _ => ⟨n, t1, ⟨t2, t3⟩, ⟨t4, t5⟩, .inl m, fun h => (h m).elim,   .inr (hl hb), by omega, t6, by omega⟩) fun _ => no
  refine Tot.ite (fun m => Tot.ite (fun s => (label_t _ _).bind fun b hl => Tot.ite (fun hb => Tot.mk fun e => ⟨n, t1, ⟨t2, t3⟩, ⟨t4, t5⟩, .inr (.inl m), fun _ => of_decide_eq_true e,   .inr (hl hb), by omega, t6, by omega⟩) fun _ => no) fun _ => no) fun m1 => ?_
  exact Tot.ite (fun m => (label_t _ _).bind fun b hl => Tot.ite (fun hb => Tot.ite (fun e => (valid_t _ _).bind fun c hc => Tot.mk fun h => ⟨n, t1, ⟨t2, t3⟩, ⟨t4, t5⟩, .inr (.inr m), fun _ => e, .inr (hl hb), (hc h).1, t6, (hc h).2⟩) fun _ => no) fun _ => no) fun _ => no
structure GoodB (p : api_Program) (b : api_Block) : Prop where
  name : b.Name.length ≤ 32
  kind : b.Kind.length ≤ 50
  label : isLab p b.Label
structure GoodSi (p : api_Program) (s : api_Site) : Prop where
  name : s.Name.length ≤ 32
  frm : isLab p s.From
  to : isLab p s.To
structure GoodP (p : api_Program) : Prop where
  nl : p.Lattice.Names.length ≤ 8
  ns : p.Sites.length ≤ 8
  nv : p.Vars.length ≤ 48
  nb : p.Blocks.length ≤ 12
  nt : p.Tasks.length ≤ 4
  nb2 : p.Lattice.Below.length ≤ 16384
  names : ∀ s ∈ p.Lattice.Names, s.length ≤ 32
  below : ∀ b ∈ p.Lattice.Below, isLab p b.a0 ∧ isLab p b.a1
  sites : ∀ s ∈ p.Sites, GoodSi p s
  vars : ∀ v ∈ p.Vars, GoodV p v
  blocks : ∀ b ∈ p.Blocks, GoodB p b
theorem parts_t (p : api_Program) : Tot (lazarettoref08_parts p) fun b => b = true → GoodP p := by
  have no : ∀ {Q : Prop}, Tot (some false) fun b => b = true → Q := Tot.mk fun h => by cases h
  have bad : ∀ {g : Prop} {i : Nat}, Tot (some (.inr (.inl false)) : Option (Nat ⊕ (Bool ⊕ Unit))) fun r => r = .inl (i + 1) ∧ g ∨ r = .inr (.inl false) := Tot.mk (.inr rfl)
  unfold lazarettoref08_parts
  refine Tot.ite (fun _ => no) fun n1 => Tot.ite (fun _ => no) fun n2 => Tot.ite (fun _ => no) fun n3 => Tot.ite (fun _ => no) fun n4 => Tot.ite (fun _ => no) fun n5 => Tot.ite (fun _ => no) fun n6 => ?_
  refine Tot.bind (all_t (xs := p.Lattice.Names) (g := fun s => s.length ≤ 32) (fun i h => ?_) (by simp [lazarettoref08_parts_L1])) fun r hr => ?_
  · unfold lazarettoref08_parts_L1
    rw [if_pos (by omega), List.getElem?_eq_getElem h, Option.bind_some]
    exact (name_t _).bind fun b hb => Tot.ite (fun h1 => (find_t _ _).bind fun k _ => Tot.ite (fun _ => Tot.mk (.inl ⟨rfl, (hb h1).1⟩)) fun _ => bad) fun _ => bad
  rcases hr with rfl | ⟨rfl, g1⟩
  · exact no
  refine Tot.bind (all_t (xs := p.Lattice.Below) (g := fun b => isLab p b.a0 ∧ isLab p b.a1) (fun i h => ?_) (by simp [lazarettoref08_parts_L2])) fun r hr => ?_
  · unfold lazarettoref08_parts_L2
    rw [if_pos (by omega), List.getElem?_eq_getElem h, Option.bind_some]
    exact (label_t _ _).bind fun b hb => Tot.ite (fun h1 => (label_t _ _).bind fun c hc => Tot.ite (fun h2 => Tot.mk (.inl ⟨rfl, hb h1, hc h2⟩)) fun _ => bad) fun _ => bad
  rcases hr with rfl | ⟨rfl, g2⟩
  · exact no
  refine Tot.bind (all_t (xs := p.Sites) (g := GoodSi p) (fun i h => ?_) (by simp [lazarettoref08_parts_L3])) fun r hr => ?_
  · unfold lazarettoref08_parts_L3
    rw [if_pos (by omega), List.getElem?_eq_getElem h, Option.bind_some]
    exact (name_t _).bind fun a ha => Tot.ite (fun h0 => (label_t _ _).bind fun b hb => Tot.ite (fun h1 => (label_t _ _).bind fun c hc => Tot.ite (fun h2 => Tot.mk (.inl ⟨rfl, (ha h0).1, hb h1, hc h2⟩)) fun _ => bad) fun _ => bad) fun _ => bad
  rcases hr with rfl | ⟨rfl, g3⟩
  · exact no
  refine Tot.bind (all_t (xs := p.Vars) (g := GoodV p) (fun i h => ?_) (by simp [lazarettoref08_parts_L4])) fun r hr => ?_
  · unfold lazarettoref08_parts_L4
    rw [if_pos (by omega), List.getElem?_eq_getElem h, Option.bind_some]
    exact (var_t _ _).bind fun a ha => Tot.ite (fun h0 => Tot.mk (.inl ⟨rfl, ha h0⟩)) fun _ => bad
  rcases hr with rfl | ⟨rfl, g4⟩
  · exact no
  refine Tot.bind (all_t (xs := p.Blocks) (g := GoodB p) (fun i h => ?_) (by simp [lazarettoref08_parts_L5])) fun r hr => ?_
  · unfold lazarettoref08_parts_L5
    rw [if_pos (by omega), List.getElem?_eq_getElem h, Option.bind_some]
    exact (name_t _).bind fun a ha => Tot.ite (fun h0 => (among_t _ _ (Nat.le_of_ble_eq_true rfl)).bind fun b hb => Tot.ite (fun h1 => (label_t _ _).bind fun c hc => Tot.ite (fun h2 => Tot.mk (.inl ⟨rfl, (ha h0).1, Nat.le_trans (hb h1) (Nat.le_of_ble_eq_true rfl), hc h2⟩)) fun _ => bad) fun _ => bad) fun _ => bad
  rcases hr with rfl | ⟨rfl, g5⟩
  · exact no
  exact Tot.mk fun _ => ⟨by omega, by omega, by omega, by omega, by omega, by omega, g1, g2, g3, g4, g5⟩
structure GoodT (p : api_Program) (t : api_Task) : Prop where
  every : 1 ≤ t.Every ∧ t.Every ≤ 65536
  prio : 0 ≤ t.Priority ∧ t.Priority ≤ 255
  nbud : t.Budget.length = p.Lattice.Names.length
  bud : ∀ b ∈ t.Budget, 0 ≤ b ∧ b ≤ 4096
  ok : fmSs t.Body
  n : nSs t.Body ≤ 16384
theorem tasks_t (p : api_Program) : Tot (lazarettoref08_tasks p) fun b => b = true → ∀ t ∈ p.Tasks, GoodT p t := by
  have bad : ∀ {g : Prop} {i : Nat}, Tot (some (.inr (.inl false)) : Option (Nat ⊕ (Bool ⊕ Unit))) fun r => r = .inl (i + 1) ∧ g ∨ r = .inr (.inl false) := Tot.mk (.inr rfl)
  unfold lazarettoref08_tasks
  refine Tot.bind (all_t (xs := p.Tasks) (g := GoodT p) (fun i h => ?_) (by simp [lazarettoref08_tasks_L1])) fun r hr => ?_
  · unfold lazarettoref08_tasks_L1
    rw [if_pos (by omega), List.getElem?_eq_getElem h, Option.bind_some]
    refine Tot.ite (fun _ => bad) fun a1 => Tot.ite (fun _ => bad) fun a2 => Tot.ite (fun _ => bad) fun a3 => Tot.ite (fun _ => bad) fun a4 => Tot.ite (fun a5 => (fits_t _).bind fun b hb => Tot.ite (fun h1 => ?_) fun _ => bad) fun _ => bad
    refine Tot.bind (all_t (xs := p.Tasks[i].Budget) (g := fun b => 0 ≤ b ∧ b ≤ 4096) (fun k hk => ?_) (by simp [lazarettoref08_tasks_L2])) fun r hr => ?_
    · unfold lazarettoref08_tasks_L2
      rw [if_pos (by omega), List.getElem?_eq_getElem hk, Option.bind_some]
      exact Tot.ite (fun _ => bad) fun b1 => Tot.ite (fun _ => bad) fun b2 => Tot.mk (.inl ⟨rfl, by omega, by omega⟩)
    rcases hr with rfl | ⟨rfl, g⟩
    · exact bad
    · exact Tot.mk (.inl ⟨rfl, ⟨by omega, by omega⟩, ⟨by omega, by omega⟩, by omega, g, (hb h1).1, (hb h1).2⟩)
  rcases hr with rfl | ⟨rfl, g⟩
  · exact Tot.mk fun h => by cases h
  · exact Tot.mk fun _ => g
theorem signed_t (n : Int) (h1 : -10000000 * 900 < n) (h2 : n < 9000000000) : Tot (lazarettoref08_signed n) fun r => r.length ≤ 12 := by
  unfold lazarettoref08_signed
  refine Tot.ite (fun h => ?_) fun h => (digits_t n (by omega) (by omega)).bind fun r hr => Tot.mk (by omega)
  rw [w64_id (by omega) (by omega)]
  exact (digits_t (0 - n) (by omega) (by omega)).bind fun r hr => Tot.need (by omega) (Tot.mk (by simp only [List.length_append, List.length_cons, List.length_nil]; omega))
theorem typ_t {p : api_Program} {v : api_Var} (g : GoodV p v) : Tot (lazarettoref08_typ v.Type_) fun r => r.length ≤ 100 := by
  have k := g.kind
  have l := g.len
  have w := g.low
  unfold lazarettoref08_typ
  refine (Tot.idx (by omega) (by simp only [List.length_cons, List.length_nil]; omega)).bind fun x hx => ?_
  have hx' : x.length ≤ 4 := by
    simp only [List.mem_cons, List.not_mem_nil, or_false] at hx
    rcases hx with rfl | rfl | rfl | rfl | rfl <;> decide
  refine Tot.ite (fun _ => Tot.mk (by omega)) fun _ => (signed_t _ (by omega) (by omega)).bind fun r hr => Tot.need (by omega) (Tot.need (by omega) ?_)
  rw [w64_id (n := v.Type_.Low + v.Type_.Len) (by omega) (by omega), w64_id (by omega) (by omega)]
  exact (signed_t _ (by omega) (by omega)).bind fun r2 hr2 => Tot.need (by omega) (Tot.need (by omega) (Tot.need (by omega) (Tot.mk (by simp only [List.length_append, List.length_cons, List.length_nil]; omega))))
theorem lab_get {p : api_Program} (P : GoodP p) {n : Int} (h : isLab p n) : Tot (idx p.Lattice.Names n) fun s => s.length ≤ 32 :=
  (Tot.idx h.1 h.2).imp fun s hs => P.names s hs
theorem one_t {p : api_Program} (P : GoodP p) {v : api_Var} (g : GoodV p v) : Tot (lazarettoref08_one p v) fun r => r.length ≤ 300 := by
  have n := g.name
  have m := g.mode
  have s := g.safe
  unfold lazarettoref08_one
  refine (Tot.idx (by omega) (by simp only [List.length_cons, List.length_nil]; omega)).bind fun x hx => ?_
  have hx' : x.length ≤ 7 := by
    simp only [List.mem_cons, List.not_mem_nil, or_false] at hx
    rcases hx with rfl | rfl | rfl <;> decide
  refine Tot.need (by omega) (Tot.need (by omega) ((typ_t g).bind fun t ht => Tot.need (by omega) ?_))
  have hs := signed_t v.Safe (by omega) (by omega)
  refine Tot.ite (fun hl => ?_) fun _ => ?_
  · have hlab : isLab p v.Label := by exact g.label.resolve_left fun h => by omega
    refine (lab_get P hlab).bind fun y hy => ?_
    repeat' (first | refine Tot.need (by omega) ?_ | refine Tot.ite (fun _ => ?_) (fun _ => ?_) | refine hs.bind fun e he => ?_ | exact Tot.mk (by simp only [List.length_append, List.length_cons, List.length_nil]; omega))
  · repeat' (first | refine Tot.need (by omega) ?_ | refine Tot.ite (fun _ => ?_) (fun _ => ?_) | refine hs.bind fun e he => ?_ | exact Tot.mk (by simp only [List.length_append, List.length_cons, List.length_nil]; omega))
theorem task_t {p : api_Program} (P : GoodP p) {t : api_Task} (g : GoodT p t) (hd : depSs t.Body ≤ 1000) : Tot (lazarettoref08_task p t) fun r => r.length ≤ 5000000001000 := by
  have e := g.every
  have pr := g.prio
  have nb := g.nbud
  have nl := P.nl
  unfold lazarettoref08_task
  refine (digits_t _ (by omega) (by omega)).bind fun r1 h1 => Tot.need (by omega) (Tot.need (by omega) ((digits_t _ (by omega) (by omega)).bind fun r2 h2 => Tot.need (by omega) ?_))
  refine Tot.bind (Tot.loop (fun x => x.2 ≤ t.Budget.length ∧ x.1.length ≤ 50 + 60 * x.2) (R := fun r => r.length ≤ 600) (fun x => t.Budget.length - x.2) ⟨Nat.zero_le _, by simp only [List.length_append, List.length_cons, List.length_nil]; omega⟩ fun ⟨s, i⟩ ⟨hi, hI⟩ => ?_) fun s hs => ?_
  · simp only at hi hI
    unfold lazarettoref08_task_L1
    refine Tot.ite (fun h => ?_) fun _ => Tot.mk (show s.length ≤ 600 by omega)
    have h' : i < t.Budget.length := by omega
    have h'' : i < p.Lattice.Names.length := by omega
    have hn := P.names _ (List.getElem_mem h'')
    have hb := g.bud _ (List.getElem_mem h')
    rw [List.getElem?_eq_getElem h', List.getElem?_eq_getElem h'']
    simp only [Option.bind_some]
    have dg := digits_t _ hb.1 (by omega)
    exact Tot.ite (fun _ => Tot.need (by omega) (Tot.need (by omega) (dg.bind fun d hd => Tot.need (by omega) (Tot.need (by omega) (Tot.mk ⟨⟨h', by simp only [List.length_append, List.length_cons, List.length_nil]; omega⟩, by simp only; omega⟩))))) fun _ =>
      Tot.need (by omega) (Tot.need (by omega) (dg.bind fun d hd => Tot.need (by omega) (Tot.need (by omega) (Tot.mk ⟨⟨h', by simp only [List.length_append, List.length_cons, List.length_nil]; omega⟩, by simp only; omega⟩))))
  · exact Tot.need (by omega) ((text07_t g.ok hd g.n).bind fun b hb => Tot.ite (fun _ => Tot.need (by omega) (Tot.mk (by simp only [List.length_append, List.length_cons, List.length_nil]; omega))) fun _ => Tot.need (by omega) (Tot.need (by omega) (Tot.need (by omega) (Tot.mk (by simp only [List.length_append, List.length_cons, List.length_nil]; omega)))))
/-- A loop that puts texts together. -/
theorem put_t {α : Type} {xs : List α} {c b m : Nat} {f : Str × Nat → Option ((Str × Nat) ⊕ Str)} (hc : xs.length ≤ m) (step : ∀ (s : Str) i (h : i < xs.length), s.length ≤ b + c * i → s.length ≤ b + c * m → Tot (f (s, i)) fun r => ∃ s', r = .inl (s', i + 1) ∧ s'.length ≤ s.length + c) (last : ∀ s, f (s, xs.length) = some (.inr s)) (s : Str) (hs : s.length ≤ b) :
    Tot (loop f (s, 0)) fun r => r.length ≤ b + c * m := by
  refine Tot.loop (fun x => x.2 ≤ xs.length ∧ x.1.length ≤ b + c * x.2) (fun x => xs.length - x.2) ⟨Nat.zero_le _, by simpa using hs⟩ fun ⟨s, i⟩ ⟨hi, hI⟩ => ?_
  simp only at hi hI
  have hm : c * i ≤ c * m := Nat.mul_le_mul_left _ (by omega)
  by_cases h : i < xs.length
  · refine (step s i h hI (by omega)).imp fun r hr => ?_
    obtain ⟨s', rfl, hl⟩ := hr
    exact ⟨⟨h, by simp only [Nat.mul_add]; omega⟩, by simp only; omega⟩
  · have : i = xs.length := by omega
    subst this
    exact ⟨_, last s, show s.length ≤ _ by omega⟩
theorem text08_t {p : api_Program} (P : GoodP p) (T : ∀ t ∈ p.Tasks, GoodT p t) (hd : ∀ t ∈ p.Tasks, depSs t.Body ≤ 1000) : Tot (lazarettoref08_text p) fun _ => True := by
  unfold lazarettoref08_text
  refine Tot.bind (put_t (xs := p.Lattice.Names) (c := 40) (b := 0) (m := 8) P.nl (fun s i h hs hm => ?_) (fun s => by simp [lazarettoref08_text_L1]) [] (by simp)) fun s1 h1 => ?_
  · unfold lazarettoref08_text_L1
    dsimp only
    have hn := P.names _ (List.getElem_mem h)
    rw [if_pos (by omega), List.getElem?_eq_getElem h, Option.bind_some]
    exact Tot.need (by omega) (Tot.need (by omega) (Tot.need (by omega) (Tot.mk ⟨_, rfl, by simp only [List.length_append, List.length_cons, List.length_nil]; omega⟩)))
  refine Tot.bind (put_t (xs := p.Lattice.Below) (c := 80) (b := 320) (m := 16384) P.nb2 (fun s i h hs hm => ?_) (fun s => by simp [lazarettoref08_text_L2]) s1 (by omega)) fun s2 h2 => ?_
  · unfold lazarettoref08_text_L2
    dsimp only
    have hn := P.below _ (List.getElem_mem h)
    rw [if_pos (by omega), List.getElem?_eq_getElem h, Option.bind_some]
    exact (lab_get P hn.1).bind fun x hx => Tot.need (by omega) (Tot.need (by omega) ((lab_get P hn.2).bind fun y hy => Tot.need (by omega) (Tot.need (by omega) (Tot.need (by omega) (Tot.mk ⟨_, rfl, by simp only [List.length_append, List.length_cons, List.length_nil]; omega⟩)))))
  refine Tot.bind (put_t (xs := p.Sites) (c := 120) (b := 1500000) (m := 8) P.ns (fun s i h hs hm => ?_) (fun s => by simp [lazarettoref08_text_L3]) s2 (by omega)) fun s3 h3 => ?_
  · unfold lazarettoref08_text_L3
    dsimp only
    have hn := P.sites _ (List.getElem_mem h)
    have hl := hn.name
    rw [if_pos (by omega), List.getElem?_eq_getElem h, Option.bind_some]
    exact Tot.need (by omega) (Tot.need (by omega) ((lab_get P hn.frm).bind fun x hx => Tot.need (by omega) (Tot.need (by omega) ((lab_get P hn.to).bind fun y hy => Tot.need (by omega) (Tot.need (by omega) (Tot.need (by omega) (Tot.mk ⟨_, rfl, by simp only [List.length_append, List.length_cons, List.length_nil]; omega⟩)))))))
  refine Tot.bind (put_t (xs := p.Vars) (c := 300) (b := 1600000) (m := 48) P.nv (fun s i h hs hm => ?_) (fun s => by simp [lazarettoref08_text_L4]) s3 (by omega)) fun s4 h4 => ?_
  · unfold lazarettoref08_text_L4
    dsimp only
    rw [if_pos (by omega), List.getElem?_eq_getElem h, Option.bind_some]
    exact (one_t P (P.vars _ (List.getElem_mem h))).bind fun x hx => Tot.need (by omega) (Tot.mk ⟨_, rfl, by simp only [List.length_append]; omega⟩)
  refine Tot.bind (put_t (xs := p.Blocks) (c := 200) (b := 1700000) (m := 12) P.nb (fun s i h hs hm => ?_) (fun s => by simp [lazarettoref08_text_L5]) s4 (by omega)) fun s5 h5 => ?_
  · unfold lazarettoref08_text_L5
    dsimp only
    have hn := P.blocks _ (List.getElem_mem h)
    have hl := hn.name
    have hk := hn.kind
    rw [if_pos (by omega), List.getElem?_eq_getElem h, Option.bind_some]
    exact Tot.need (by omega) (Tot.need (by omega) (Tot.need (by omega) (Tot.need (by omega) ((lab_get P hn.label).bind fun x hx => Tot.need (by omega) (Tot.need (by omega) (Tot.need (by omega) (Tot.mk ⟨_, rfl, by simp only [List.length_append, List.length_cons, List.length_nil]; omega⟩)))))))
  refine Tot.bind (put_t (xs := p.Tasks) (c := 5000000001000) (b := 1800000) (m := 4) P.nt (fun s i h hs hm => ?_) (fun s => by simp [lazarettoref08_text_L6]) s5 (by omega)) fun s6 h6 => Tot.mk trivial
  unfold lazarettoref08_text_L6
  dsimp only
  rw [if_pos (by omega), List.getElem?_eq_getElem h, Option.bind_some]
  exact (task_t P (T _ (List.getElem_mem h)) (hd _ (List.getElem_mem h))).bind fun x hx => Tot.need (by omega) (Tot.mk ⟨_, rfl, by simp only [List.length_append]; omega⟩)
/-- Whether a program may be: answered, if it is not too deep. -/
theorem check08 (p : api_Program) (hd : ∀ t ∈ p.Tasks, depSs t.Body ≤ 1000) : Tot (lazarettoref08_Check p) fun b => b = true → GoodP p ∧ ∀ t ∈ p.Tasks, GoodT p t := by
  unfold lazarettoref08_Check
  exact (parts_t p).bind fun a ha => Tot.ite (fun h1 => (tasks_t p).bind fun b hb => Tot.ite (fun h2 => (text08_t (ha h1) (hb h2) hd).bind fun _ _ => Tot.mk fun _ => ⟨ha h1, hb h2⟩) fun _ => Tot.mk fun h => by cases h) fun _ => Tot.mk fun h => by cases h
end Go.Lz
