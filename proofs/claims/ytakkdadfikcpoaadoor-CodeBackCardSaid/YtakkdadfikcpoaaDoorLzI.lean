/- LzI: values without references to later objects; values and objects in another environment; new objects whose place was kept free. -/
import Derived.Test.YtakkdadfikcpoaaDoorLz10
namespace Go.Lz
set_option linter.unusedVariables false
set_option linter.unusedSimpArgs false

mutual
/-- References to objects from number m on do not occur. -/
def C.lt (m : Nat) : C → Bool
  | .sl rows => ltRows m rows
  | .slf rows => ltRows m rows
  | .iptr row _ => ltRow m row
  | .fn _ cap => ltRow m cap
  | .ifc _ cs => ltRow m cs
  | .ref id _ _ _ => decide (id < m)
  | .msl id _ _ _ => decide (id < m)
  | .mp id => decide (id < m)
  | _ => true
def ltRow (m : Nat) : List C → Bool
  | [] => true
  | c :: r => c.lt m && ltRow m r
def ltRows (m : Nat) : List (List C) → Bool
  | [] => true
  | r :: rs => ltRow m r && ltRows m rs
end

theorem ltRow_iff {m : Nat} : ∀ {l : List C}, ltRow m l = true ↔ ∀ c ∈ l, c.lt m = true
  | [] => by simp [ltRow]
  | c :: r => by simp [ltRow, ltRow_iff (l := r)]
theorem ltRows_iff {m : Nat} : ∀ {l : List (List C)}, ltRows m l = true ↔ ∀ r ∈ l, ltRow m r = true
  | [] => by simp [ltRows]
  | c :: r => by simp [ltRows, ltRows_iff (l := r)]

theorem lt_at2 {m : Nat} {rows : List (List C)} (h : ltRows m rows = true) {i j : Nat} {c : C} (hij : at2 rows i j = some c) : c.lt m = true := by
  obtain ⟨r, hr, hj⟩ := at2_some.1 hij
  exact ltRow_iff.1 (ltRows_iff.1 h r (List.mem_of_getElem? hr)) c (List.mem_of_getElem? hj)

mutual
theorem C.lt_mono {m k : Nat} (hk : m ≤ k) : (c : C) → c.lt m = true → c.lt k = true
  | .sl rows, h => ltRows_mono hk rows h
  | .slf rows, h => ltRows_mono hk rows h
  | .iptr row _, h => ltRow_mono hk row h
  | .fn _ cap, h => ltRow_mono hk cap h
  | .ifc _ cs, h => ltRow_mono hk cs h
  | .ref .., h => by simp only [C.lt, decide_eq_true_eq] at h ⊢; omega
  | .msl .., h => by simp only [C.lt, decide_eq_true_eq] at h ⊢; omega
  | .mp _, h => by simp only [C.lt, decide_eq_true_eq] at h ⊢; omega
  | .int .., _ => rfl
  | .bool _, _ => rfl
  | .str _, _ => rfl
  | .nilfn, _ => rfl
  | .nilif, _ => rfl
  | .nilp, _ => rfl
  | .nilm, _ => rfl
theorem ltRow_mono {m k : Nat} (hk : m ≤ k) : (l : List C) → ltRow m l = true → ltRow k l = true
  | [], _ => rfl
  | c :: r, h => by
    simp only [ltRow, Bool.and_eq_true] at h ⊢
    exact ⟨C.lt_mono hk c h.1, ltRow_mono hk r h.2⟩
theorem ltRows_mono {m k : Nat} (hk : m ≤ k) : (l : List (List C)) → ltRows m l = true → ltRows k l = true
  | [], _ => rfl
  | c :: r, h => by
    simp only [ltRows, Bool.and_eq_true] at h ⊢
    exact ⟨ltRow_mono hk c h.1, ltRows_mono hk r h.2⟩
end

mutual
def V.lt (m : Nat) : V → Bool
  | .one c => c.lt m
  | .agg cs => ltRow m cs
  | .tup vs => ltVs m vs
  | .un => true
def ltVs (m : Nat) : List V → Bool
  | [] => true
  | v :: vs => v.lt m && ltVs m vs
end

theorem ltVs_iff {m : Nat} : ∀ {l : List V}, ltVs m l = true ↔ ∀ c ∈ l, c.lt m = true
  | [] => by simp [ltVs]
  | c :: r => by simp [ltVs, ltVs_iff (l := r)]

/-- The same cell in another environment. -/
theorem CRel.into {E E' : Env} {m : Nat} (hfree : ∀ b, E.free b → E'.free b) (hcell : ∀ b o, E.free b → E'.w.cell? ⟨b, o, none⟩ = E.w.cell? ⟨b, o, none⟩)
    (hid : ∀ id, id < m → id < E.H.length → id < E'.H.length ∧ E'.H[id]? = E.H[id]? ∧ E'.bd id = E.bd id) {c : C} {v : Value} (h : CRel E c v) : c.lt m = true → CRel E' c v := by
  induction h with
  | int h => intro _; exact .int h
  | bool => intro _; exact .bool
  | str h hl => intro _; exact .str h hl
  | sl vals sz hn hcap hlim hsz hb hv ih =>
    intro hl
    refine .sl vals sz hn hcap hlim hsz (fun hne => ?_) (fun i j c hij => ih i j c hij (lt_at2 hl hij))
    obtain ⟨b, off, ha, hf, hc⟩ := hb hne
    exact ⟨b, off, ha, hfree b hf, fun i j c hij => by rw [hcell b _ hf]; exact hc i j c hij⟩
  | slf h hf ih => intro hl; exact .slf (ih hl) hf
  | iptr vals he hb hc hv ih =>
    intro hl
    exact .iptr vals he (hfree _ hb) (fun j c hj => by rw [hcell _ _ hb]; exact hc j c hj) (fun j c hj => ih j c hj (ltRow_iff.1 hl c (List.mem_of_getElem? hj)))
  | fn hn hv ih =>
    intro hl
    exact .fn hn (fun j c hj => ih j c hj (ltRow_iff.1 hl c (List.mem_of_getElem? hj)))
  | ifc hn hv ih =>
    intro hl
    exact .ifc hn (fun j c hj => ih j c hj (ltRow_iff.1 hl c (List.mem_of_getElem? hj)))
  | nilfn => intro _; exact .nilfn
  | nilif => intro _; exact .nilif
  | nilp => intro _; exact .nilp
  | nilm => intro _; exact .nilm
  | ref hlt hc h =>
    intro hl
    obtain ⟨h1, h2, h3⟩ := hid _ (by simpa [C.lt] using hl) hlt
    refine .ref h1 hc fun cur sz rows ho => ?_
    rw [h2] at ho; rw [h3]; exact h cur sz rows ho
  | msl hlt hc h =>
    intro hl
    obtain ⟨h1, h2, h3⟩ := hid _ (by simpa [C.lt] using hl) hlt
    refine .msl h1 hc fun cur sz rows ho => ?_
    rw [h2] at ho; rw [h3]; exact h cur sz rows ho
  | mp hlt hc h =>
    intro hl
    obtain ⟨h1, h2, h3⟩ := hid _ (by simpa [C.lt] using hl) hlt
    refine .mp h1 hc fun es ho => ?_
    rw [h2] at ho; rw [h3]; exact h es ho

theorem VRel.into {E E' : Env} {m : Nat} (hfree : ∀ b, E.free b → E'.free b) (hcell : ∀ b o, E.free b → E'.w.cell? ⟨b, o, none⟩ = E.w.cell? ⟨b, o, none⟩)
    (hid : ∀ id, id < m → id < E.H.length → id < E'.H.length ∧ E'.H[id]? = E.H[id]? ∧ E'.bd id = E.bd id) {x : V} {v : Value} (h : VRel E x v) : x.lt m = true → VRel E' x v := by
  induction h with
  | one h => intro hl; exact .one (h.into hfree hcell hid hl)
  | agg hn h => intro hl; exact .agg hn fun j c hj => (h j c hj).into hfree hcell hid (ltRow_iff.1 hl c (List.mem_of_getElem? hj))
  | tup hn h ih =>
    intro hl
    exact .tup hn fun j x hj => ih j x hj (ltVs_iff.1 hl x (List.mem_of_getElem? hj))
  | un => intro _; exact .un

def O.lt (m : Nat) : O → Bool
  | .cells _ _ rows => ltRows m rows
  | .map es => es.all fun e => e.1.lt m && e.2.lt m
  | .dead => true

mutual
theorem CRel.lt_len {E : Env} {c : C} {v : Value} (h : CRel E c v) : c.lt E.H.length = true := by
  induction h with
  | int h => rfl
  | bool => rfl
  | str h hl => rfl
  | @sl rows a n cap vals sz hn hcap hlim hsz hb hv ih =>
    show ltRows _ rows = true
    rw [ltRows_iff]
    intro r hr
    rw [ltRow_iff]
    intro c hc
    obtain ⟨i, hi, hir⟩ := List.mem_iff_getElem.1 hr
    obtain ⟨j, hj, hjc⟩ := List.mem_iff_getElem.1 hc
    exact ih i j c (at2_some.2 ⟨r, by rw [List.getElem?_eq_getElem hi, hir], by rw [List.getElem?_eq_getElem hj, hjc]⟩)
  | slf h hf ih => exact ih
  | @iptr row off b o v vals he hb hc hv ih =>
    show ltRow _ row = true
    rw [ltRow_iff]
    intro c hc'
    obtain ⟨j, hj, hjc⟩ := List.mem_iff_getElem.1 hc'
    exact ih j c (by rw [List.getElem?_eq_getElem hj, hjc])
  | @fn f cap vs hn hv ih =>
    show ltRow _ cap = true
    rw [ltRow_iff]
    intro c hc'
    obtain ⟨j, hj, hjc⟩ := List.mem_iff_getElem.1 hc'
    exact ih j c (by rw [List.getElem?_eq_getElem hj, hjc])
  | @ifc t cap vs hn hv ih =>
    show ltRow _ cap = true
    rw [ltRow_iff]
    intro c hc'
    obtain ⟨j, hj, hjc⟩ := List.mem_iff_getElem.1 hc'
    exact ih j c (by rw [List.getElem?_eq_getElem hj, hjc])
  | nilfn => rfl
  | nilif => rfl
  | nilp => rfl
  | nilm => rfl
  | ref hid hc h => simpa [C.lt] using hid
  | msl hid hc h => simpa [C.lt] using hid
  | mp hid hc h => simpa [C.lt] using hid
end
theorem VRel.lt_len {E : Env} {x : V} {v : Value} (h : VRel E x v) : x.lt E.H.length = true := by
  induction h with
  | one h => exact h.lt_len
  | @agg cs vs hn h =>
    show ltRow _ cs = true
    rw [ltRow_iff]
    intro c hc'
    obtain ⟨j, hj, hjc⟩ := List.mem_iff_getElem.1 hc'
    exact (h j c (by rw [List.getElem?_eq_getElem hj, hjc])).lt_len
  | @tup Vs vs hn h ih =>
    show ltVs _ Vs = true
    rw [ltVs_iff]
    intro c hc'
    obtain ⟨j, hj, hjc⟩ := List.mem_iff_getElem.1 hc'
    exact ih j c (by rw [List.getElem?_eq_getElem hj, hjc])
  | un => rfl

/-- A new object at a place that was kept free. -/
theorem new_at {E : Env} (hE : HRel E) {id : Nat} (ho : E.H[id]? = some (.cells 0 0 [])) {cs : List C} {vs : Array Value} (hn : vs.size = cs.length) (hrel : ∀ (j : Nat) (c : C), cs[j]? = some c → ∃ y, vs[j]? = some y ∧ CRel E c y) (ty : TypeId) :
    ∃ E', E'.w = E.w.alloc (.cells vs ty) ∧ E'.H = E.H.set id (.cells 1 cs.length [cs]) ∧ VRel E' (.one (.ref id 1 0 0)) (.pointer (some ⟨E.w.heap.size, 0, none⟩)) ∧ HRel E' ∧ Trans E E' := by
  have hlt := (List.getElem?_eq_some_iff.1 ho).1
  obtain ⟨t, hh⟩ := upd_obj hE id (.cells 0 0 []) (.cells 1 cs.length [cs]) (E.w.alloc (.cells vs ty)) ⟨E.w.heap.size, 0, 1⟩ ho (by simp) rfl rfl rfl (fun b hb _ => heap_alloc_old E.w _ b hb)
    (fun ver' sz' rows' e => by cases e; exact ⟨0, 0, [], rfl, by omega, fun h => by omega⟩) (fun es' e => by cases e) _ rfl (fun _ => .inr (Nat.le_refl _))
  refine ⟨_, rfl, rfl, ?_, hh ?_, t⟩
  · refine .one (.ref (by simpa using hlt) rfl fun cur sz rows ho' => ?_)
    rw [List.getElem?_set_self hlt] at ho'
    cases ho'
    exact ⟨Nat.le_refl _, fun _ => by simp⟩
  · refine ⟨?_, ?_, ?_, fun _ => ⟨vs, ty, ?_, ?_, ?_⟩⟩
    · simp
    · simp [lim]
    · simp
    · simp only [if_true]; exact RowAt.mk0 (heap_alloc_new E.w _)
    · simp [hn]
    · intro i j c hij
      obtain ⟨x, hx, hxj⟩ := at2_some.1 hij
      cases i with
      | zero =>
        simp at hx; subst hx
        obtain ⟨y, hy, hc⟩ := hrel j c hxj
        exact ⟨y, by simpa using hy, hc.trans t⟩
      | succ i => simp at hx

/-- Without the last objects, which nobody may touch. -/
def hideG (E : Env) (H : List O) : Env := ⟨E.w, fun b => E.Fr b ∨ ∃ (k : Nat) (o : O), E.H[k]? = some o ∧ H.length ≤ k ∧ E.live k o ∧ (E.bd k).blk = b, E.bd, H⟩

theorem hide_ok {E : Env} (hE : HRel E) {H G : List O} (hH : E.H = H ++ G) (hl : ∀ o ∈ H, o.lt H.length = true) :
    HRel (hideG E H) ∧ (∀ {c : C} {v : Value}, CRel E c v → c.lt H.length = true → CRel (hideG E H) c v) ∧ (∀ {x : V} {v : Value}, VRel E x v → x.lt H.length = true → VRel (hideG E H) x v) ∧ (∀ b, (hideG E H).own b → E.own b) := by
  have old : ∀ {id : Nat}, id < H.length → E.H[id]? = H[id]? := fun {id} h => by rw [hH, List.getElem?_append_left h]
  have lv : ∀ {j : Nat} {x : O}, (hideG E H).live j x ↔ E.live j x := fun {j x} => live_bd rfl
  have own : ∀ b, (hideG E H).own b → E.own b := by
    rintro b ⟨id, o, h1, h2, h3⟩
    have hlt : id < H.length := (List.getElem?_eq_some_iff.1 h1).1
    exact ⟨id, o, by rw [old hlt]; exact h1, lv.1 h2, h3⟩
  have hfree : ∀ b, E.free b → (hideG E H).free b := fun b hb => ⟨hb.1, fun h => h.elim hb.2.1 (fun ⟨k, o, h1, _, h3, h4⟩ => hb.2.2 ⟨k, o, h1, h3, h4⟩), fun h => hb.2.2 (own b h)⟩
  have hid : ∀ id, id < H.length → id < E.H.length → id < (hideG E H).H.length ∧ (hideG E H).H[id]? = E.H[id]? ∧ (hideG E H).bd id = E.bd id := fun id h _ => ⟨h, (old h).symm, rfl⟩
  have into : ∀ {c : C} {v : Value}, CRel E c v → c.lt H.length = true → CRel (hideG E H) c v := fun h => h.into (m := H.length) hfree (fun _ _ _ => rfl) hid
  refine ⟨⟨fun id o ho => ?_, fun i j x y hx hy lx ly hij => ?_, fun i x hx lx => ?_, fun b hb => ?_, hE.glob.of hfree (fun _ _ _ => rfl)⟩, into, fun h => h.into (m := H.length) hfree (fun _ _ _ => rfl) hid, own⟩
  · have hlt : id < H.length := (List.getElem?_eq_some_iff.1 ho).1
    have hol : o.lt H.length = true := hl o (List.mem_of_getElem? ho)
    have := hE.obj id o (by rw [old hlt]; exact ho)
    cases o with
    | cells cur sz rows =>
      obtain ⟨h3, h4, h5, h6⟩ := this
      refine ⟨h3, h4, h5, fun hc => ?_⟩
      obtain ⟨arr, ty, h1, h2, h6⟩ := h6 hc
      refine ⟨arr, ty, h1, h2, fun i j c hij => ?_⟩
      obtain ⟨v, hv, hr⟩ := h6 i j c hij
      exact ⟨v, hv, into hr (lt_at2 hol hij)⟩
    | map es =>
      obtain ⟨ents, clock, h1, h2, h3⟩ := this
      refine ⟨ents, clock, h1, h2, fun i k x hi => ?_⟩
      obtain ⟨e, he, hk, hx⟩ := h3 i k x hi
      simp only [O.lt, List.all_eq_true, Bool.and_eq_true] at hol
      have := hol (k, x) (List.mem_of_getElem? hi)
      exact ⟨e, he, into hk this.1, into hx this.2⟩
    | dead => trivial
  · have hi := (List.getElem?_eq_some_iff.1 hx).1
    have hj := (List.getElem?_eq_some_iff.1 hy).1
    exact hE.dist i j x y (by rw [old hi]; exact hx) (by rw [old hj]; exact hy) (lv.1 lx) (lv.1 ly) hij
  · have hi := (List.getElem?_eq_some_iff.1 hx).1
    rintro (hf | ⟨k, o, h1, h2, h3, h4⟩)
    · exact hE.nofr i x (by rw [old hi]; exact hx) (lv.1 lx) hf
    · exact hE.dist k i o x h1 (by rw [old hi]; exact hx) h3 (lv.1 lx) (by have : i < H.length := hi; omega) h4
  · rcases hb with hf | ⟨k, o, h1, h2, h3, h4⟩
    · exact hE.frlt b hf
    · exact h4 ▸ hE.lt h1 h3

/-- The hidden objects come back. -/
theorem show_ok {E E1 : Env} (hE : HRel E) {H G : List O} (hH : E.H = H ++ G) (h1 : HRel E1) (hH1 : E1.H = H) (t : Trans (hideG E H) E1) :
    ∃ E', E'.w = E1.w ∧ E'.H = E.H ∧ HRel E' ∧ Trans E E' ∧ ∀ {x : V} {v : Value}, VRel E1 x v → VRel E' x v := by
  have old : ∀ {id : Nat}, id < H.length → E.H[id]? = H[id]? := fun {id} h => by rw [hH, List.getElem?_append_left h]
  let E' : Env := ⟨E1.w, E.Fr, fun id => if id < H.length then E1.bd id else E.bd id, E.H⟩
  have bdl : ∀ {id : Nat}, id < H.length → E'.bd id = E1.bd id := fun {id} h => by simp [E', h]
  have bdg : ∀ {id : Nat}, ¬ id < H.length → E'.bd id = E.bd id := fun {id} h => by simp [E', h]
  have old1 : ∀ {id : Nat} {o : O}, id < H.length → E.H[id]? = some o → E1.H[id]? = some o := fun {id o} h ho => by rw [hH1, ← old h]; exact ho
  have bd1 : ∀ {id ver sz : Nat} {rows : List (List C)}, id < H.length → E.H[id]? = some (.cells ver sz rows) → E1.bd id = E.bd id := by
    intro id ver sz rows h ho
    obtain ⟨ver2, sz2, rows2, q1, q2, q3⟩ := t.objC id ver sz rows h (old1 h ho)
    have q1' : H[id]? = some (.cells ver2 sz2 rows2) := q1
    rw [← old h, ho] at q1'
    cases q1'
    exact (q3 rfl).2.2
  have own' : ∀ b, E'.own b → E1.own b ∨ ∃ (k : Nat) (o : O), E.H[k]? = some o ∧ H.length ≤ k ∧ E.live k o ∧ (E.bd k).blk = b := by
    rintro b ⟨id, o, q1, q2, q3⟩
    by_cases h : id < H.length
    · exact .inl ⟨id, o, old1 h q1, (live_bd (bdl h)).1 q2, by rw [← bdl h]; exact q3⟩
    · exact .inr ⟨id, o, q1, by omega, (live_bd (bdg h)).1 q2, by rw [← bdg h]; exact q3⟩
  have hfree : ∀ b, E1.free b → E'.free b := fun b hb => by
    have hf := hb.2.1
    rw [t.fr] at hf
    exact ⟨hb.1, fun h => hf (.inl h), fun h => (own' b h).elim hb.2.2 (fun h => hf (.inr h))⟩
  have hid : ∀ id, id < H.length → id < E1.H.length → id < E'.H.length ∧ E'.H[id]? = E1.H[id]? ∧ E'.bd id = E1.bd id := fun id h _ => by
    refine ⟨by simp [E', hH]; omega, ?_, bdl h⟩
    show E.H[id]? = _
    rw [old h, hH1]
  have into : ∀ {c : C} {v : Value}, CRel E1 c v → CRel E' c v := fun {c v} h => h.into (m := H.length) hfree (fun _ _ _ => rfl) hid (by have := h.lt_len; rwa [hH1] at this)
  have tr : Trans E E' := by
    refine ⟨rfl, t.size, t.os, t.tape, t.output, fun b hb ho => t.keep b hb (fun h => ho ?_), fun b hb ho => ?_, Nat.le_refl _, fun id ver' sz' rows' hid' ho => ?_, fun id es' hid' ho => ?_⟩
    · obtain ⟨id, o, q1, q2, q3⟩ := h
      have hlt : id < H.length := (List.getElem?_eq_some_iff.1 q1).1
      exact ⟨id, o, by rw [old hlt]; exact q1, (live_bd rfl).1 q2, q3⟩
    · rcases own' b ho with h | ⟨k, o, q1, q2, q3, q4⟩
      · obtain ⟨id, o, q1, q2, q3⟩ := t.own b hb h
        have hlt : id < H.length := (List.getElem?_eq_some_iff.1 q1).1
        exact ⟨id, o, by rw [old hlt]; exact q1, (live_bd rfl).1 q2, q3⟩
      · exact ⟨k, o, q1, q3, q4⟩
    · refine ⟨ver', sz', rows', ho, Nat.le_refl _, fun _ => ⟨rfl, rfl, ?_⟩⟩
      by_cases h : id < H.length
      · rw [bdl h]; exact bd1 h ho
      · exact bdg h
    · refine ⟨es', ho, ?_⟩
      by_cases h : id < H.length
      · rw [bdl h]
        obtain ⟨es2, q1, q2⟩ := t.objM id es' h (old1 h ho)
        exact q2
      · rw [bdg h]
  have keepG : ∀ {k : Nat} {o : O}, E.H[k]? = some o → ¬ k < H.length → E.live k o → E1.w.heap[(E.bd k).blk]? = E.w.heap[(E.bd k).blk]? := by
    intro k o q1 q2 q3
    refine t.keep _ (hE.lt q1 q3) ?_
    rintro ⟨id, o2, p1, p2, p3⟩
    have hlt : id < H.length := (List.getElem?_eq_some_iff.1 p1).1
    exact hE.dist id k o2 o (by rw [old hlt]; exact p1) q1 ((live_bd rfl).1 p2) q3 (by omega) p3
  have mixed : ∀ {i j : Nat} {x y : O}, i < H.length → E.H[i]? = some x → E1.live i x → E.H[j]? = some y → ¬ j < H.length → E.live j y → (E1.bd i).blk ≠ (E.bd j).blk := by
    intro i j x y hi hx lx hy hj ly e
    have := h1.nofr i x (old1 hi hx) lx
    rw [t.fr] at this
    exact this (.inr ⟨j, y, hy, by omega, ly, e.symm⟩)
  refine ⟨E', rfl, rfl, ⟨fun id o ho => ?_, fun i j x y hx hy lx ly hij => ?_, fun i x hx lx hf => ?_, fun b hb => Nat.lt_of_lt_of_le (hE.frlt b hb) t.size, hE.gl tr⟩, tr, fun h => h.into (m := H.length) hfree (fun _ _ _ => rfl) hid (by have := h.lt_len; rwa [hH1] at this)⟩
  · by_cases h : id < H.length
    · have := h1.obj id o (old1 h ho)
      cases o with
      | cells cur sz rows =>
        obtain ⟨h3, h4, h5, h6⟩ := this
        refine ⟨by rw [bdl h]; exact h3, h4, h5, fun hc => ?_⟩
        rw [bdl h] at hc
        obtain ⟨arr, ty, g1, g2, h6⟩ := h6 hc
        refine ⟨arr, ty, by rw [bdl h]; exact g1, by rw [bdl h]; exact g2, fun i j c hij => ?_⟩
        obtain ⟨v, hv, hr⟩ := h6 i j c hij
        exact ⟨v, by rw [bdl h]; exact hv, into hr⟩
      | map es =>
        obtain ⟨ents, clock, g1, g2, g3⟩ := this
        refine ⟨ents, clock, by rw [bdl h]; exact g1, g2, fun i k x hi => ?_⟩
        obtain ⟨e, he, hk, hx⟩ := g3 i k x hi
        exact ⟨e, he, into hk, into hx⟩
      | dead => trivial
    · exact (hE.obj id o ho).keep tr (bdg h) (fun hl => keepG ho h hl)
  · by_cases hi : i < H.length <;> by_cases hj : j < H.length
    · rw [bdl hi, bdl hj]
      exact h1.dist i j x y (old1 hi hx) (old1 hj hy) ((live_bd (bdl hi)).1 lx) ((live_bd (bdl hj)).1 ly) hij
    · rw [bdl hi, bdg hj]
      exact mixed hi hx ((live_bd (bdl hi)).1 lx) hy hj ((live_bd (bdg hj)).1 ly)
    · rw [bdg hi, bdl hj]
      exact (mixed hj hy ((live_bd (bdl hj)).1 ly) hx hi ((live_bd (bdg hi)).1 lx)).symm
    · rw [bdg hi, bdg hj]
      exact hE.dist i j x y hx hy ((live_bd (bdg hi)).1 lx) ((live_bd (bdg hj)).1 ly) hij
  · by_cases h : i < H.length
    · rw [bdl h] at hf
      have := h1.nofr i x (old1 h hx) ((live_bd (bdl h)).1 lx)
      rw [t.fr] at this
      exact this (.inl hf)
    · rw [bdg h] at hf
      exact hE.nofr i x hx ((live_bd (bdg h)).1 lx) hf

end Go.Lz
