/- The parts of a proof: LzI, Lz11, Lz12, LzM, Lz13, Lz14 -/
import Derived.Test.YtcceddpmmgabjaaGreatQ1
import Derived.Scope
import Derived.Orders
section
/- LzI: values without references to later objects; values and objects in another environment; new objects whose place was kept free. -/
namespace Go.Lz
set_option linter.unusedVariables false
set_option linter.unusedSimpArgs false

mutual
/-- References to objects from number m on do not occur. -/
def C.lt (m : Nat) : C → Bool
  | .sl rows => ltRows m rows
  | .slf rows => ltRows m rows
  | .iptr row _ => ltRow m row
  | .fn _ cap => ltRow m cap
  | .ifc _ cs => ltRow m cs
  | .ref id _ _ _ => decide (id < m)
  | .msl id _ _ _ => decide (id < m)
  | .mp id => decide (id < m)
  | _ => true
def ltRow (m : Nat) : List C → Bool
  | [] => true
  | c :: r => c.lt m && ltRow m r
def ltRows (m : Nat) : List (List C) → Bool
  | [] => true
  | r :: rs => ltRow m r && ltRows m rs
end

theorem ltRow_iff {m : Nat} : ∀ {l : List C}, ltRow m l = true ↔ ∀ c ∈ l, c.lt m = true
  | [] => by simp [ltRow]
  | c :: r => by simp [ltRow, ltRow_iff (l := r)]
theorem ltRows_iff {m : Nat} : ∀ {l : List (List C)}, ltRows m l = true ↔ ∀ r ∈ l, ltRow m r = true
  | [] => by simp [ltRows]
  | c :: r => by simp [ltRows, ltRows_iff (l := r)]

theorem lt_at2 {m : Nat} {rows : List (List C)} (h : ltRows m rows = true) {i j : Nat} {c : C} (hij : at2 rows i j = some c) : c.lt m = true := by
  obtain ⟨r, hr, hj⟩ := at2_some.1 hij
  exact ltRow_iff.1 (ltRows_iff.1 h r (List.mem_of_getElem? hr)) c (List.mem_of_getElem? hj)


mutual
def V.lt (m : Nat) : V → Bool
  | .one c => c.lt m
  | .agg cs => ltRow m cs
  | .tup vs => ltVs m vs
  | .un => true
def ltVs (m : Nat) : List V → Bool
  | [] => true
  | v :: vs => v.lt m && ltVs m vs
end

theorem ltVs_iff {m : Nat} : ∀ {l : List V}, ltVs m l = true ↔ ∀ c ∈ l, c.lt m = true
  | [] => by simp [ltVs]
  | c :: r => by simp [ltVs, ltVs_iff (l := r)]

/-- The same cell in another environment. -/
theorem CRel.into {E E' : Env} {m : Nat} (hfree : ∀ b, E.free b → E'.free b) (hcell : ∀ b o, E.free b → E'.w.cell? ⟨b, o, none⟩ = E.w.cell? ⟨b, o, none⟩)
    (hid : ∀ id, id < m → id < E.H.length → id < E'.H.length ∧ E'.H[id]? = E.H[id]? ∧ E'.bd id = E.bd id) {c : C} {v : Value} (h : CRel E c v) : c.lt m = true → CRel E' c v := by
  induction h with
  | int h => intro _; exact .int h
  | bool => intro _; exact .bool
  | str h hl => intro _; exact .str h hl
  | sl vals sz hn hcap hlim hsz hb hv ih =>
    intro hl
    refine .sl vals sz hn hcap hlim hsz (fun hne => ?_) (fun i j c hij => ih i j c hij (lt_at2 hl hij))
    obtain ⟨b, off, ha, hf, hc⟩ := hb hne
    exact ⟨b, off, ha, hfree b hf, fun i j c hij => by rw [hcell b _ hf]; exact hc i j c hij⟩
  | slf h hf ih => intro hl; exact .slf (ih hl) hf
  | iptr vals he hb hc hv ih =>
    intro hl
    exact .iptr vals he (hfree _ hb) (fun j c hj => by rw [hcell _ _ hb]; exact hc j c hj) (fun j c hj => ih j c hj (ltRow_iff.1 hl c (List.mem_of_getElem? hj)))
  | fn hn hv ih =>
    intro hl
    exact .fn hn (fun j c hj => ih j c hj (ltRow_iff.1 hl c (List.mem_of_getElem? hj)))
  | ifc hn hv ih =>
    intro hl
    exact .ifc hn (fun j c hj => ih j c hj (ltRow_iff.1 hl c (List.mem_of_getElem? hj)))
  | nilfn => intro _; exact .nilfn
  | nilif => intro _; exact .nilif
  | nilp => intro _; exact .nilp
  | nilm => intro _; exact .nilm
  | ref hlt hc h =>
    intro hl
    obtain ⟨h1, h2, h3⟩ := hid _ (by simpa [C.lt] using hl) hlt
    refine .ref h1 hc fun cur sz rows ho => ?_
    rw [h2] at ho; rw [h3]; exact h cur sz rows ho
  | msl hlt hc h =>
    intro hl
    obtain ⟨h1, h2, h3⟩ := hid _ (by simpa [C.lt] using hl) hlt
    refine .msl h1 hc fun cur sz rows ho => ?_
    rw [h2] at ho; rw [h3]; exact h cur sz rows ho
  | mp hlt hc h =>
    intro hl
    obtain ⟨h1, h2, h3⟩ := hid _ (by simpa [C.lt] using hl) hlt
    refine .mp h1 hc fun es ho => ?_
    rw [h2] at ho; rw [h3]; exact h es ho

theorem VRel.into {E E' : Env} {m : Nat} (hfree : ∀ b, E.free b → E'.free b) (hcell : ∀ b o, E.free b → E'.w.cell? ⟨b, o, none⟩ = E.w.cell? ⟨b, o, none⟩)
    (hid : ∀ id, id < m → id < E.H.length → id < E'.H.length ∧ E'.H[id]? = E.H[id]? ∧ E'.bd id = E.bd id) {x : V} {v : Value} (h : VRel E x v) : x.lt m = true → VRel E' x v := by
  induction h with
  | one h => intro hl; exact .one (h.into hfree hcell hid hl)
  | agg hn h => intro hl; exact .agg hn fun j c hj => (h j c hj).into hfree hcell hid (ltRow_iff.1 hl c (List.mem_of_getElem? hj))
  | tup hn h ih =>
    intro hl
    exact .tup hn fun j x hj => ih j x hj (ltVs_iff.1 hl x (List.mem_of_getElem? hj))
  | un => intro _; exact .un

def O.lt (m : Nat) : O → Bool
  | .cells _ _ rows => ltRows m rows
  | .map es => es.all fun e => e.1.lt m && e.2.lt m
  | .dead => true

mutual
theorem CRel.lt_len {E : Env} {c : C} {v : Value} (h : CRel E c v) : c.lt E.H.length = true := by
  induction h with
  | int h => rfl
  | bool => rfl
  | str h hl => rfl
  | @sl rows a n cap vals sz hn hcap hlim hsz hb hv ih =>
    show ltRows _ rows = true
    rw [ltRows_iff]
    intro r hr
    rw [ltRow_iff]
    intro c hc
    obtain ⟨i, hi, hir⟩ := List.mem_iff_getElem.1 hr
    obtain ⟨j, hj, hjc⟩ := List.mem_iff_getElem.1 hc
    exact ih i j c (at2_some.2 ⟨r, by rw [List.getElem?_eq_getElem hi, hir], by rw [List.getElem?_eq_getElem hj, hjc]⟩)
  | slf h hf ih => exact ih
  | @iptr row off b o v vals he hb hc hv ih =>
    show ltRow _ row = true
    rw [ltRow_iff]
    intro c hc'
    obtain ⟨j, hj, hjc⟩ := List.mem_iff_getElem.1 hc'
    exact ih j c (by rw [List.getElem?_eq_getElem hj, hjc])
  | @fn f cap vs hn hv ih =>
    show ltRow _ cap = true
    rw [ltRow_iff]
    intro c hc'
    obtain ⟨j, hj, hjc⟩ := List.mem_iff_getElem.1 hc'
    exact ih j c (by rw [List.getElem?_eq_getElem hj, hjc])
  | @ifc t cap vs hn hv ih =>
    show ltRow _ cap = true
    rw [ltRow_iff]
    intro c hc'
    obtain ⟨j, hj, hjc⟩ := List.mem_iff_getElem.1 hc'
    exact ih j c (by rw [List.getElem?_eq_getElem hj, hjc])
  | nilfn => rfl
  | nilif => rfl
  | nilp => rfl
  | nilm => rfl
  | ref hid hc h => simpa [C.lt] using hid
  | msl hid hc h => simpa [C.lt] using hid
  | mp hid hc h => simpa [C.lt] using hid
end
theorem VRel.lt_len {E : Env} {x : V} {v : Value} (h : VRel E x v) : x.lt E.H.length = true := by
  induction h with
  | one h => exact h.lt_len
  | @agg cs vs hn h =>
    show ltRow _ cs = true
    rw [ltRow_iff]
    intro c hc'
    obtain ⟨j, hj, hjc⟩ := List.mem_iff_getElem.1 hc'
    exact (h j c (by rw [List.getElem?_eq_getElem hj, hjc])).lt_len
  | @tup Vs vs hn h ih =>
    show ltVs _ Vs = true
    rw [ltVs_iff]
    intro c hc'
    obtain ⟨j, hj, hjc⟩ := List.mem_iff_getElem.1 hc'
    exact ih j c (by rw [List.getElem?_eq_getElem hj, hjc])
  | un => rfl

/-- A new object at a place that was kept free. -/
theorem new_at {E : Env} (hE : HRel E) {id : Nat} (ho : E.H[id]? = some (.cells 0 0 [])) {cs : List C} {vs : Array Value} (hn : vs.size = cs.length) (hrel : ∀ (j : Nat) (c : C), cs[j]? = some c → ∃ y, vs[j]? = some y ∧ CRel E c y) (ty : TypeId) :
    ∃ E', E'.w = E.w.alloc (.cells vs ty) ∧ E'.H = E.H.set id (.cells 1 cs.length [cs]) ∧ VRel E' (.one (.ref id 1 0 0)) (.pointer (some ⟨E.w.heap.size, 0, none⟩)) ∧ HRel E' ∧ Trans E E' := by
  have hlt := (List.getElem?_eq_some_iff.1 ho).1
  obtain ⟨t, hh⟩ := upd_obj hE id (.cells 0 0 []) (.cells 1 cs.length [cs]) (E.w.alloc (.cells vs ty)) ⟨E.w.heap.size, 0, 1⟩ ho (by simp) rfl rfl rfl (fun b hb _ => heap_alloc_old E.w _ b hb)
    (fun ver' sz' rows' e => by cases e; exact ⟨0, 0, [], rfl, by omega, fun h => by omega⟩) (fun es' e => by cases e) _ rfl (fun _ => .inr (Nat.le_refl _))
  refine ⟨_, rfl, rfl, ?_, hh ?_, t⟩
  · refine .one (.ref (by simpa using hlt) rfl fun cur sz rows ho' => ?_)
    rw [List.getElem?_set_self hlt] at ho'
    cases ho'
    exact ⟨Nat.le_refl _, fun _ => by simp⟩
  · refine ⟨?_, ?_, ?_, fun _ => ⟨vs, ty, ?_, ?_, ?_⟩⟩
    · simp
    · simp [lim]
    · simp
    · simp only [if_true]; exact RowAt.mk0 (heap_alloc_new E.w _)
    · simp [hn]
    · intro i j c hij
      obtain ⟨x, hx, hxj⟩ := at2_some.1 hij
      cases i with
      | zero =>
        simp at hx; subst hx
        obtain ⟨y, hy, hc⟩ := hrel j c hxj
        exact ⟨y, by simpa using hy, hc.trans t⟩
      | succ i => simp at hx

/-- Without the last objects, which nobody may touch. -/
def hideG (E : Env) (H : List O) : Env := ⟨E.w, fun b => E.Fr b ∨ ∃ (k : Nat) (o : O), E.H[k]? = some o ∧ H.length ≤ k ∧ E.live k o ∧ (E.bd k).blk = b, E.bd, H⟩

theorem hide_ok {E : Env} (hE : HRel E) {H G : List O} (hH : E.H = H ++ G) (hl : ∀ o ∈ H, o.lt H.length = true) :
    HRel (hideG E H) ∧ (∀ {c : C} {v : Value}, CRel E c v → c.lt H.length = true → CRel (hideG E H) c v) ∧ (∀ {x : V} {v : Value}, VRel E x v → x.lt H.length = true → VRel (hideG E H) x v) ∧ (∀ b, (hideG E H).own b → E.own b) := by
  have old : ∀ {id : Nat}, id < H.length → E.H[id]? = H[id]? := fun {id} h => by rw [hH, List.getElem?_append_left h]
  have lv : ∀ {j : Nat} {x : O}, (hideG E H).live j x ↔ E.live j x := fun {j x} => live_bd rfl
  have own : ∀ b, (hideG E H).own b → E.own b := by
    rintro b ⟨id, o, h1, h2, h3⟩
    have hlt : id < H.length := (List.getElem?_eq_some_iff.1 h1).1
    exact ⟨id, o, by rw [old hlt]; exact h1, lv.1 h2, h3⟩
  have hfree : ∀ b, E.free b → (hideG E H).free b := fun b hb => ⟨hb.1, fun h => h.elim hb.2.1 (fun ⟨k, o, h1, _, h3, h4⟩ => hb.2.2 ⟨k, o, h1, h3, h4⟩), fun h => hb.2.2 (own b h)⟩
  have hid : ∀ id, id < H.length → id < E.H.length → id < (hideG E H).H.length ∧ (hideG E H).H[id]? = E.H[id]? ∧ (hideG E H).bd id = E.bd id := fun id h _ => ⟨h, (old h).symm, rfl⟩
  have into : ∀ {c : C} {v : Value}, CRel E c v → c.lt H.length = true → CRel (hideG E H) c v := fun h => h.into (m := H.length) hfree (fun _ _ _ => rfl) hid
  refine ⟨⟨fun id o ho => ?_, fun i j x y hx hy lx ly hij => ?_, fun i x hx lx => ?_, fun b hb => ?_, hE.glob.of hfree (fun _ _ _ => rfl)⟩, into, fun h => h.into (m := H.length) hfree (fun _ _ _ => rfl) hid, own⟩
  · have hlt : id < H.length := (List.getElem?_eq_some_iff.1 ho).1
    have hol : o.lt H.length = true := hl o (List.mem_of_getElem? ho)
    have := hE.obj id o (by rw [old hlt]; exact ho)
    cases o with
    | cells cur sz rows =>
      obtain ⟨h3, h4, h5, h6⟩ := this
      refine ⟨h3, h4, h5, fun hc => ?_⟩
      obtain ⟨arr, ty, h1, h2, h6⟩ := h6 hc
      refine ⟨arr, ty, h1, h2, fun i j c hij => ?_⟩
      obtain ⟨v, hv, hr⟩ := h6 i j c hij
      exact ⟨v, hv, into hr (lt_at2 hol hij)⟩
    | map es =>
      obtain ⟨ents, clock, h1, h2, h3⟩ := this
      refine ⟨ents, clock, h1, h2, fun i k x hi => ?_⟩
      obtain ⟨e, he, hk, hx⟩ := h3 i k x hi
      simp only [O.lt, List.all_eq_true, Bool.and_eq_true] at hol
      have := hol (k, x) (List.mem_of_getElem? hi)
      exact ⟨e, he, into hk this.1, into hx this.2⟩
    | dead => trivial
  · have hi := (List.getElem?_eq_some_iff.1 hx).1
    have hj := (List.getElem?_eq_some_iff.1 hy).1
    exact hE.dist i j x y (by rw [old hi]; exact hx) (by rw [old hj]; exact hy) (lv.1 lx) (lv.1 ly) hij
  · have hi := (List.getElem?_eq_some_iff.1 hx).1
    rintro (hf | ⟨k, o, h1, h2, h3, h4⟩)
    · exact hE.nofr i x (by rw [old hi]; exact hx) (lv.1 lx) hf
    · exact hE.dist k i o x h1 (by rw [old hi]; exact hx) h3 (lv.1 lx) (by have : i < H.length := hi; omega) h4
  · rcases hb with hf | ⟨k, o, h1, h2, h3, h4⟩
    · exact hE.frlt b hf
    · exact h4 ▸ hE.lt h1 h3

/-- The hidden objects come back. -/
theorem show_ok {E E1 : Env} (hE : HRel E) {H G : List O} (hH : E.H = H ++ G) (h1 : HRel E1) (hH1 : E1.H = H) (t : Trans (hideG E H) E1) :
    ∃ E', E'.w = E1.w ∧ E'.H = E.H ∧ HRel E' ∧ Trans E E' ∧ ∀ {x : V} {v : Value}, VRel E1 x v → VRel E' x v := by
  have old : ∀ {id : Nat}, id < H.length → E.H[id]? = H[id]? := fun {id} h => by rw [hH, List.getElem?_append_left h]
  let E' : Env := ⟨E1.w, E.Fr, fun id => if id < H.length then E1.bd id else E.bd id, E.H⟩
  have bdl : ∀ {id : Nat}, id < H.length → E'.bd id = E1.bd id := fun {id} h => by simp [E', h]
  have bdg : ∀ {id : Nat}, ¬ id < H.length → E'.bd id = E.bd id := fun {id} h => by simp [E', h]
  have old1 : ∀ {id : Nat} {o : O}, id < H.length → E.H[id]? = some o → E1.H[id]? = some o := fun {id o} h ho => by rw [hH1, ← old h]; exact ho
  have bd1 : ∀ {id ver sz : Nat} {rows : List (List C)}, id < H.length → E.H[id]? = some (.cells ver sz rows) → E1.bd id = E.bd id := by
    intro id ver sz rows h ho
    obtain ⟨ver2, sz2, rows2, q1, q2, q3⟩ := t.objC id ver sz rows h (old1 h ho)
    have q1' : H[id]? = some (.cells ver2 sz2 rows2) := q1
    rw [← old h, ho] at q1'
    cases q1'
    exact (q3 rfl).2.2
  have own' : ∀ b, E'.own b → E1.own b ∨ ∃ (k : Nat) (o : O), E.H[k]? = some o ∧ H.length ≤ k ∧ E.live k o ∧ (E.bd k).blk = b := by
    rintro b ⟨id, o, q1, q2, q3⟩
    by_cases h : id < H.length
    · exact .inl ⟨id, o, old1 h q1, (live_bd (bdl h)).1 q2, by rw [← bdl h]; exact q3⟩
    · exact .inr ⟨id, o, q1, by omega, (live_bd (bdg h)).1 q2, by rw [← bdg h]; exact q3⟩
  have hfree : ∀ b, E1.free b → E'.free b := fun b hb => by
    have hf := hb.2.1
    rw [t.fr] at hf
    exact ⟨hb.1, fun h => hf (.inl h), fun h => (own' b h).elim hb.2.2 (fun h => hf (.inr h))⟩
  have hid : ∀ id, id < H.length → id < E1.H.length → id < E'.H.length ∧ E'.H[id]? = E1.H[id]? ∧ E'.bd id = E1.bd id := fun id h _ => by
    refine ⟨by simp [E', hH]; omega, ?_, bdl h⟩
    show E.H[id]? = _
    rw [old h, hH1]
  have into : ∀ {c : C} {v : Value}, CRel E1 c v → CRel E' c v := fun {c v} h => h.into (m := H.length) hfree (fun _ _ _ => rfl) hid (by have := h.lt_len; rwa [hH1] at this)
  have tr : Trans E E' := by
    refine ⟨rfl, t.size, t.os, t.tape, t.output, fun b hb ho => t.keep b hb (fun h => ho ?_), fun b hb ho => ?_, Nat.le_refl _, fun id ver' sz' rows' hid' ho => ?_, fun id es' hid' ho => ?_⟩
    · obtain ⟨id, o, q1, q2, q3⟩ := h
      have hlt : id < H.length := (List.getElem?_eq_some_iff.1 q1).1
      exact ⟨id, o, by rw [old hlt]; exact q1, (live_bd rfl).1 q2, q3⟩
    · rcases own' b ho with h | ⟨k, o, q1, q2, q3, q4⟩
      · obtain ⟨id, o, q1, q2, q3⟩ := t.own b hb h
        have hlt : id < H.length := (List.getElem?_eq_some_iff.1 q1).1
        exact ⟨id, o, by rw [old hlt]; exact q1, (live_bd rfl).1 q2, q3⟩
      · exact ⟨k, o, q1, q3, q4⟩
    · refine ⟨ver', sz', rows', ho, Nat.le_refl _, fun _ => ⟨rfl, rfl, ?_⟩⟩
      by_cases h : id < H.length
      · rw [bdl h]; exact bd1 h ho
      · exact bdg h
    · refine ⟨es', ho, ?_⟩
      by_cases h : id < H.length
      · rw [bdl h]
        obtain ⟨es2, q1, q2⟩ := t.objM id es' h (old1 h ho)
        exact q2
      · rw [bdg h]
  have keepG : ∀ {k : Nat} {o : O}, E.H[k]? = some o → ¬ k < H.length → E.live k o → E1.w.heap[(E.bd k).blk]? = E.w.heap[(E.bd k).blk]? := by
    intro k o q1 q2 q3
    refine t.keep _ (hE.lt q1 q3) ?_
    rintro ⟨id, o2, p1, p2, p3⟩
    have hlt : id < H.length := (List.getElem?_eq_some_iff.1 p1).1
    exact hE.dist id k o2 o (by rw [old hlt]; exact p1) q1 ((live_bd rfl).1 p2) q3 (by omega) p3
  have mixed : ∀ {i j : Nat} {x y : O}, i < H.length → E.H[i]? = some x → E1.live i x → E.H[j]? = some y → ¬ j < H.length → E.live j y → (E1.bd i).blk ≠ (E.bd j).blk := by
    intro i j x y hi hx lx hy hj ly e
    have := h1.nofr i x (old1 hi hx) lx
    rw [t.fr] at this
    exact this (.inr ⟨j, y, hy, by omega, ly, e.symm⟩)
  refine ⟨E', rfl, rfl, ⟨fun id o ho => ?_, fun i j x y hx hy lx ly hij => ?_, fun i x hx lx hf => ?_, fun b hb => Nat.lt_of_lt_of_le (hE.frlt b hb) t.size, hE.gl tr⟩, tr, fun h => h.into (m := H.length) hfree (fun _ _ _ => rfl) hid (by have := h.lt_len; rwa [hH1] at this)⟩
  · by_cases h : id < H.length
    · have := h1.obj id o (old1 h ho)
      cases o with
      | cells cur sz rows =>
        obtain ⟨h3, h4, h5, h6⟩ := this
        refine ⟨by rw [bdl h]; exact h3, h4, h5, fun hc => ?_⟩
        rw [bdl h] at hc
        obtain ⟨arr, ty, g1, g2, h6⟩ := h6 hc
        refine ⟨arr, ty, by rw [bdl h]; exact g1, by rw [bdl h]; exact g2, fun i j c hij => ?_⟩
        obtain ⟨v, hv, hr⟩ := h6 i j c hij
        exact ⟨v, by rw [bdl h]; exact hv, into hr⟩
      | map es =>
        obtain ⟨ents, clock, g1, g2, g3⟩ := this
        refine ⟨ents, clock, by rw [bdl h]; exact g1, g2, fun i k x hi => ?_⟩
        obtain ⟨e, he, hk, hx⟩ := g3 i k x hi
        exact ⟨e, he, into hk, into hx⟩
      | dead => trivial
    · exact (hE.obj id o ho).keep tr (bdg h) (fun hl => keepG ho h hl)
  · by_cases hi : i < H.length <;> by_cases hj : j < H.length
    · rw [bdl hi, bdl hj]
      exact h1.dist i j x y (old1 hi hx) (old1 hj hy) ((live_bd (bdl hi)).1 lx) ((live_bd (bdl hj)).1 ly) hij
    · rw [bdl hi, bdg hj]
      exact mixed hi hx ((live_bd (bdl hi)).1 lx) hy hj ((live_bd (bdg hj)).1 ly)
    · rw [bdg hi, bdl hj]
      exact (mixed hj hy ((live_bd (bdl hj)).1 ly) hx hi ((live_bd (bdg hi)).1 lx)).symm
    · rw [bdg hi, bdg hj]
      exact hE.dist i j x y hx hy ((live_bd (bdg hi)).1 lx) ((live_bd (bdg hj)).1 ly) hij
  · by_cases h : i < H.length
    · rw [bdl h] at hf
      have := h1.nofr i x (old1 h hx) ((live_bd (bdl h)).1 lx)
      rw [t.fr] at this
      exact this (.inl hf)
    · rw [bdg h] at hf
      exact hE.nofr i x hx ((live_bd (bdg h)).1 lx) hf

end Go.Lz

end
section
/- Lz11: the weakest precondition of code over abstract states, and that it is sound. -/
namespace Go.Lz
set_option linter.unusedVariables false
set_option linter.unusedSimpArgs false

structure St where
  t : List (Nat × V)
  H : List O

def look : List (Nat × V) → Nat → V
  | [], _ => .un
  | (k, v) :: r, i => if k = i then v else look r i

def St.ρ (st : St) : Operand → V
  | .tmp i => look st.t i
  | .const v => V.ofV v
  | .func f => .one (.fn f [])
  | .global _ => .un

def St.put (st : St) (d : Option Nat) (v : V) (H : List O) : St :=
  match d with
  | some d => ⟨(d, v) :: st.t, H⟩
  | none => ⟨st.t, H⟩

inductive Ex where
  | normal
  | exit (id : Nat)
  | ret
  | goto (l : Nat)

def Ex.toExit : Ex → Exit
  | .normal => .normal
  | .exit id => .exit id
  | .ret => .ret
  | .goto l => .goto l

/-- A frame's number of slots; how many objects there were when the call began. -/
structure Cf where
  n : Nat
  m : Nat

structure SR (ctx : Env) (n : Cf) (st : St) (a : Act) (E : Env) : Prop where
  len : n.n ≤ a.tmps.size
  hm : ctx.H.length ≤ n.m
  defers : a.defers = []
  tm : ∀ i, VRel E (look st.t i) (a.tmps.getD i undef)
  H : E.H = st.H
  rel : HRel E
  tr : Trans ctx E

/-- A call: whatever memory the objects and the arguments lie in, it returns, and K holds of the result and the objects behind it. -/
def Ct (P : Program) (f : FuncId) (args : List V) (H : List O) (K : V → List O → Prop) : Prop :=
  (∃ fn, P.funcs[f]? = some fn ∧ (fn.name == "runtime.NumGoroutine") = false ∧ fn.body.isNone = false) ∧
  ∀ (E : Env) (vs : Array Value), HRel E → E.H = H → vs.size = args.length → (∀ (j : Nat) (x : V), args[j]? = some x → VRel E x (vs.getD j undef)) →
    Calls P f vs E.w fun e w' => ∃ v x E', e = .returned v ∧ E'.w = w' ∧ K x E'.H ∧ VRel E' x v ∧ HRel E' ∧ Trans E E'

theorem Ct.mono {P : Program} {f : FuncId} {args : List V} {H : List O} {K K' : V → List O → Prop} (h : Ct P f args H K) (hk : ∀ x H', K x H' → K' x H') : Ct P f args H K' :=
  ⟨h.1, fun E vs h1 h2 h3 h4 => Calls.mono (h.2 E vs h1 h2 h3 h4) fun e w' ⟨v, x, E', a, b, c, d⟩ => ⟨v, x, E', a, b, hk _ _ c, d⟩⟩

def bindR (r : R) (K : V → List O → Prop) : Prop := r.pre ∧ (r.fact → K r.v r.h)

def awpOp (P : Program) (o : Oper) (st : St) (K : St → Prop) : Prop :=
  match o.op with
  | .call { callee := .value f, args, argTypes := _ } => match st.ρ f with
    | .one (.fn g cap) => Ct P g (args.toList.map st.ρ ++ cap.map V.one) st.H fun v H' => K (st.put o.dst v H')
    | _ => False
  | op => bindR (stepF P o.pos op st.ρ st.H) fun v H' => K (st.put o.dst v H')

/-- An operation of a region that draws its order: it turns no object. -/
def awpQ (P : Program) (o : Oper) (st : St) (K : St → Prop) : Prop :=
  match o.op with
  | .call { callee := .value f, args, argTypes := _ } => match st.ρ f with
    | .one (.fn g cap) => ∃ x, Ct P g (args.toList.map st.ρ ++ cap.map V.one) st.H (fun v H' => v = x ∧ H' = st.H) ∧ K (st.put o.dst x st.H)
    | _ => False
  | op => bindR (stepF P o.pos op st.ρ st.H) fun v H' => H' = st.H ∧ K (st.put o.dst v H')

def guarded (all : Array Oper) (o : Oper) (st : St) (X : St → Prop) (Y : St → Prop) : Prop :=
  match o.guard with
  | none => X st
  | some (j, want) => match (all[j]?).bind (·.dst) with
    | some d => match look st.t d with
      | .one (.bool b) => (b = want → X ⟨(d, .one (.bool want)) :: st.t, st.H⟩) ∧ (b = (!want) → Y ⟨(d, .one (.bool (!want))) :: st.t, st.H⟩)
      | _ => False
    | none => False

/-- A guard whose own operation may have been skipped. -/
def guarded2 (all : Array Oper) (o : Oper) (st : St) (X : St → Prop) (Y : St → Prop) : Prop :=
  match o.guard with
  | none => X st
  | some (j, want) => match (all[j]?).bind (·.dst) with
    | some d => match look st.t d with
      | .one (.bool b) => (b = want → X ⟨(d, .one (.bool want)) :: st.t, st.H⟩) ∧ (b = (!want) → Y ⟨(d, .one (.bool (!want))) :: st.t, st.H⟩)
      | .tup [] => Y st
      | _ => False
    | none => False

def awpOps (P : Program) (all : Array Oper) : List Oper → St → (St → Prop) → Prop
  | [], st, K => K st
  | o :: rest, st, K => guarded2 all o st (fun st => awpOp P o st fun st' => awpOps P all rest st' K) (fun st => awpOps P all rest (st.put o.dst (.tup []) st.H) K)

/-- A new object within a region that draws its order: as it is, whether it was written, the slot that bears its place. -/
structure Fo where
  o : O
  w : Bool
  d : Nat

/-- What an operation of such a region does to new objects: a new one, or the first write to one. -/
def freshV (P : Program) (o : Oper) (st : St) (N : List Fo) : Option (Prop × V × List Fo) :=
  match o.guard, o.dst, o.op with
  | none, some d, .alloc t => match tZ P t with
    | some z => match z.cs with
      | some cs => some (True, .one (.ref (st.H.length + N.length) 1 0 0), N ++ [⟨.cells 1 cs.length [cs], false, d⟩])
      | none => none
    | none => none
  | none, some d, .box _ x => match (st.ρ x).cs with
    | some cs => some (True, .one (.ref (st.H.length + N.length) 1 0 0), N ++ [⟨.cells 1 cs.length [cs], false, d⟩])
    | none => none
  | none, none, .store t (.tmp s) x => match look st.t s, (st.ρ x).cs, tAg P t with
    | .one (.ref id 1 0 off), some cs, some (_, n) => if st.H.length ≤ id then (match N[id - st.H.length]? with
      | some ⟨.cells 1 sz [row], false, d⟩ => some (d = s ∧ off + cs.length ≤ row.length ∧ cs.length = n, .un, N.set (id - st.H.length) ⟨.cells 1 sz [splice row off cs], true, d⟩)
      | _ => none) else none
    | _, _, _ => none
  | _, _, _ => none

/-- Operations that write. -/
def effO : Op → Bool
  | .store _ _ _ => true
  | .makeSlice _ _ _ => true
  | .makeMap _ _ => true
  | .mapUpdate _ _ _ _ => true
  | .insert _ _ _ _ => true
  | .alloc _ => true
  | .box _ _ => true
  | .call ⟨.builtin .append, _, _⟩ => true
  | .call ⟨.builtin .copy, _, _⟩ => true
  | _ => false

/-- What stands ahead of each operation of a region, whatever the order. -/
def unionN (a b : List Nat) : List Nat := a ++ b.filter fun x => !a.contains x
def preStep (tab : List (List Nat)) (o : Oper) : List (List Nat) :=
  tab ++ [(o.after.toList.filter (Region.binds .any)).foldl (fun acc e => unionN acc (e.on :: tab.getD e.on [])) []]
def preTab (ops : List Oper) : List (List Nat) := ops.foldl preStep []
/-- From place k on the order is the text's. -/
def tailB (ops : Array Oper) (k : Nat) : Bool :=
  (List.range ops.size).all fun j => decide (j < k) || (List.range j).all fun i => ((preTab ops.toList).getD j []).contains i

def namesOf (o : Oper) : List Nat := o.op.operands.toList.filterMap fun | .tmp t => some t | _ => none
/-- Ahead of place k: those that need not stand ahead of all from k on. -/
def lateSet (ops : Array Oper) (k : Nat) : List Nat :=
  (List.range k).filter fun i => (List.range ops.size).any fun j => decide (k ≤ j) && !((preTab ops.toList).getD j []).contains i
def notDst (o : Oper) (oj : Oper) : Bool := match oj.dst with | some d => !(namesOf o).contains d | none => true
def lateOk (ops : Array Oper) (i : Nat) : Bool := match ops[i]? with
  | none => false
  | some o => o.guard.isNone && !effO o.op && o.dst.isSome && (List.range ops.size).all fun j => match ops[j]? with
    | none => false
    | some oj => (decide (j = i) || !(oj.dst == o.dst)) && (decide (j < i) || notDst o oj)
def lateB (ops : Array Oper) (k : Nat) : Bool :=
  ((List.range ops.size).all fun j => decide (j < k) || (List.range j).all fun i => (lateSet ops k).contains i || ((preTab ops.toList).getD j []).contains i) && (lateSet ops k).all (lateOk ops)
/-- A quiet operation that comes to the same whatever the objects are. -/
def lateAt (P : Program) (all : Array Oper) (t : List (Nat × V)) (i : Nat) : Prop := match all[i]? with
  | some o => ∀ H : List O, (stepF P o.pos o.op (St.ρ ⟨t, H⟩) H).pre ∧ (stepF P o.pos o.op (St.ρ ⟨t, H⟩) H).h = H ∧ (stepF P o.pos o.op (St.ρ ⟨t, H⟩) H).v = look t (o.dst.getD 0)
  | none => False
def lateAll (P : Program) (all : Array Oper) (t : List (Nat × V)) : List Nat → Prop
  | [] => True
  | i :: L => lateAt P all t i ∧ lateAll P all t L
def LateP (P : Program) (all : Array Oper) (k : Nat) (t : List (Nat × V)) : Prop := lateB all k = true ∧ lateAll P all t (lateSet all k)
def tailP (P : Program) (all : Array Oper) (k : Nat) (t : List (Nat × V)) : Prop := tailB all k = true ∨ LateP P all k t
/-! Regions in which calls turn objects. -/
def isUser : Op → Bool
  | .call ⟨.value _, _, _⟩ => true
  | _ => false
def effF (op : Op) : Bool := effO op || isUser op
/-- Calls (by their place in the text) that turn objects and stand last in such a region. -/
def isMk : Op → Bool
  | .makeSlice _ _ _ => true
  | _ => false
def effT (pos : String) (op : Op) : Bool := (effO op && !(isMk op && mkPos pos)) || (isUser op && tailPos.contains pos)
def agree (S : List Nat) (H H' : List O) : Prop := ∀ i ∈ S, H'[i]? = H[i]?
def effAt (all : Array Oper) (i : Nat) : Bool := match all[i]? with | some o => effF o.op | none => false
/-- Is an operation free of some effect: neither ahead of it nor behind it? -/
def floQ (all : Array Oper) (i : Nat) : Bool := (List.range all.size).any fun e => effAt all e && !(((preTab all.toList).getD i []).contains e) && !(((preTab all.toList).getD e []).contains i)
/-- No guards; each effect stands ahead of the next one. -/
def floB (all : Array Oper) : Bool := (List.range all.size).all fun j => (match all[j]? with | some o => o.guard.isNone | none => false) && (!effAt all j || (List.range j).all fun i => !effAt all i || ((preTab all.toList).getD j []).contains i)
/-- An operation that comes to the same in all memories that agree on some objects. -/
def stableQ (P : Program) (pos : String) (op : Op) (ρ : Operand → V) (H : List O) (S : List Nat) : Prop :=
  ∀ H', agree S H H' → (stepF P pos op ρ H').pre ∧ (stepF P pos op ρ H').h = H' ∧ (stepF P pos op ρ H').v = (stepF P pos op ρ H).v
/-- Is an effect free of some quiet operation? -/
def floE (all : Array Oper) (e : Nat) : Bool := (List.range all.size).any fun i => !effAt all i && !(((preTab all.toList).getD i []).contains e) && !(((preTab all.toList).getD e []).contains i)
/-- Fl: all quiet operations that are free of some effect; FE: all effects that are free of some. -/
def floL (all : Array Oper) (Fl FE : List Nat) : Bool := (List.range all.size).all fun i => if effAt all i then !floE all i || FE.contains i else !floQ all i || Fl.contains i
def awpF (P : Program) (S Fl FE : List Nat) : Nat → List Oper → St → (St → Prop) → Prop
  | _, [], st, K => K st
  | k, o :: rest, st, K => match effF o.op with
    | true => match o.op with
      | .call { callee := .value f, args, argTypes := _ } => match st.ρ f with
        | .one (.fn g cap) => ∃ x H1, Ct P g (args.toList.map st.ρ ++ cap.map V.one) st.H (fun v H' => v = x ∧ H' = H1) ∧ (FE.contains k = true → agree S st.H H1) ∧ awpF P S Fl FE (k + 1) rest (st.put o.dst x H1) K
        | _ => False
      | op => (stepF P o.pos op st.ρ st.H).pre ∧ (FE.contains k = true → agree S st.H (stepF P o.pos op st.ρ st.H).h) ∧ awpF P S Fl FE (k + 1) rest (st.put o.dst (stepF P o.pos op st.ρ st.H).v (stepF P o.pos op st.ρ st.H).h) K
    | false => (stepF P o.pos o.op st.ρ st.H).pre ∧ (stepF P o.pos o.op st.ρ st.H).h = st.H ∧ (Fl.contains k = true → stableQ P o.pos o.op st.ρ st.H S) ∧ awpF P S Fl FE (k + 1) rest (st.put o.dst (stepF P o.pos o.op st.ρ st.H).v st.H) K
/-- The statements whose regions are reckoned so (by their place in the text). -/
def floatAt (ops : Array Oper) : Bool := match ops[0]? with | some o => floPos.contains o.pos | none => false
def unmet (o : Oper) (N : List Fo) : Bool := N.all fun x => !(namesOf o).contains x.d

def awpDraw (P : Program) (all : Array Oper) : List Oper → List Fo → St → (St → Prop) → Prop
  | [], N, st, K => K ⟨st.t, st.H ++ N.map Fo.o⟩
  | o :: rest, N, st, K => match freshV P o st N with
    | some (p, v, N') => p ∧ awpDraw P all rest N' (st.put o.dst v st.H) K
    | none => match effT o.pos o.op with
      | true => tailP P all (all.size - (rest.length + 1)) st.t ∧ awpOps P all (o :: rest) ⟨st.t, st.H ++ N.map Fo.o⟩ K
      | false => unmet o N = true ∧ guarded2 all o st (fun st => awpQ P o st fun st' => awpDraw P all rest N st' K) (fun st => awpDraw P all rest N (st.put o.dst (.tup []) st.H) K)

/-- All slots that code writes lie in the frame. -/
def okC (n : Nat) : Code → Bool
  | .region _ ops _ => ops.toList.all fun o => match o.dst with | some d => decide (d < n) | none => true
  | .seq a b => okC n a && okC n b
  | .cond _ a b => okC n a && okC n b
  | .block _ c => okC n c
  | .loop c => okC n c
  | .scope c => okC n c
  | _ => true

def Reaches (P : Program) (n : Cf) (Q : Ex → St → Prop) (ctx : Env) : Exit → Act → World → Prop := fun e a' w' => ∃ x st' E', e = x.toExit ∧ E'.w = w' ∧ Q x st' ∧ SR ctx n st' a' E'

def Sem' (P : Program) (n : Cf) (c : Code) (st : St) (Q : Ex → St → Prop) : Prop :=
  okC n.n c = true → ∀ ctx a E, SR ctx n st a E → c.wp P (Reaches P n Q ctx) a E.w

/-- From a loop's head on. -/
def LoopSem (P : Program) (n : Cf) (body : Code) (st : St) (Q : Ex → St → Prop) : Prop :=
  okC n.n body = true → ∀ ctx a E, SR ctx n st a E → ∀ (b : Frame) (k : List Item) (cs : List Frame),
    ∃ e a' w', Reaches P n Q ctx e a' w' ∧ Arrives P (lone (b.at a (.code body :: .inLoop body :: k)) cs E.w) b k cs e a' w'

def thenQ (Q1 : St → Prop) (Q : Ex → St → Prop) : Ex → St → Prop
  | .normal, st => Q1 st
  | e, st => Q e st

/-- From a label of a scope on. -/
def ScopeSem (P : Program) (n : Cf) (c rest : Code) (st : St) (Q : Ex → St → Prop) : Prop :=
  ∀ ctx a E, SR ctx n st a E → ∀ (b : Frame) (k : List Item) (cs : List Frame),
    ∃ e a' w', Reaches P n Q ctx e a' w' ∧ Arrives P (lone (b.at a (.code rest :: .inScope c :: k)) cs E.w) b k cs e a' w'

def gotoQ (P : Program) (n : Cf) (c : Code) (Q : Ex → St → Prop) : Ex → St → Prop
  | .goto l, st => ∃ rest, findLabel c l = some rest ∧ okC n.n rest = true ∧ ScopeSem P n c rest st Q
  | e, st => Q e st

def blockQ (id : Nat) (Q : Ex → St → Prop) : Ex → St → Prop
  | .exit i, st => if i = id then Q .normal st else Q (.exit i) st
  | e, st => Q e st

def condK (c : V) (X Y : Prop) : Prop :=
  match c with
  | .one (.bool b) => (b = true → X) ∧ (b = false → Y)
  | _ => False

/-- What a region that draws must keep (a check by reckoning). -/
def directB (ops : Array Oper) (i j : Nat) : Bool := match ops[j]? with | some o => o.after.toList.any fun e => Region.binds .any e && e.on == i | none => false
def drawB (ops : Array Oper) : Bool :=
  (List.range ops.size).all fun j => match ops[j]? with
    | none => false
    | some oj => oj.after.toList.all (fun e => !Region.binds .any e || decide (e.on < j)) &&
      (match oj.guard with | none => true | some (g, _) => decide (g < j) && directB ops g j) &&
      (List.range j).all fun i => match ops[i]? with
        | none => false
        | some oi => (match oi.dst with | some d => !((namesOf oj).contains d || oj.dst == some d) | none => true) && (match oi.dst, oj.guard with | some d, some (g, _) => !((ops[g]?).bind (·.dst) == some d) | _, _ => true) && (match oj.dst with | some d => !(namesOf oi).contains d | none => true) && (match oj.dst, oi.guard with | some d, some (g, _) => !((ops[g]?).bind (·.dst) == some d) | _, _ => true) || directB ops i j

def awp (P : Program) (n : Cf) : Code → St → (Ex → St → Prop) → Prop
  | .skip, st, Q => Q .normal st
  | .label _, st, Q => Q .normal st
  | .region _ ops draw, st, Q => match draw with
    | true => match floatAt ops with
      | true => P.follows .mixedOrders = true ∧ drawB ops = true ∧ floB ops = true ∧ ∃ S Fl FE, floL ops Fl FE = true ∧ awpF P S Fl FE 0 ops.toList st (Q .normal)
      | false => P.follows .mixedOrders = true ∧ drawB ops = true ∧ awpDraw P ops ops.toList [] st (Q .normal)
    | false => awpOps P ops ops.toList st (Q .normal)
  | .seq a b, st, Q => awp P n a st (thenQ (fun st' => awp P n b st' Q) Q)
  | .cond c x y, st, Q => condK (st.ρ c) (awp P n x st Q) (awp P n y st Q)
  | .block id c, st, Q => awp P n c st (blockQ id Q)
  | .loop c, st, Q => LoopSem P n c st Q
  | .scope c, st, Q => awp P n c st (gotoQ P n c Q)
  | .goto l, st, Q => Q (.goto l) st
  | .exit id, st, Q => Q (.exit id) st
  | .ret, st, Q => Q .ret st
  | _, _, _ => False

theorem look_cons (k : Nat) (v : V) (r : List (Nat × V)) (i : Nat) : look ((k, v) :: r) i = if k = i then v else look r i := rfl

theorem SR.ρ {ctx : Env} {n : Cf} {st : St} {a : Act} {E : Env} (h : SR ctx n st a E) (x : Operand) : VRel E (st.ρ x) (a.eval x) := by
  cases x with
  | tmp t => exact h.tm t
  | const v => exact V.ofV_rel E v
  | global g => exact .un
  | func f => exact .one (.fn rfl (by simp))

theorem getD_put {a : Act} {d i : Nat} {v : Value} (hd : d < a.tmps.size) : (a.put (some d) v).tmps.getD i undef = if d = i then v else a.tmps.getD i undef := by
  simp only [Act.put, Array.getD_eq_getD_getElem?, Array.getElem?_setIfInBounds]
  split
  · rename_i e; subst e; simp [hd]
  · rfl

/-- Behind an operation. -/
theorem SR.put {ctx : Env} {n : Cf} {st : St} {a : Act} {E E' : Env} (h : SR ctx n st a E) {o : Oper} (ho : ∀ d, o.dst = some d → d < n.n) {x : V} {v : Value} {H' : List O} (hx : VRel E' x v) (hH : E'.H = H') (hh : HRel E') (tr : Trans E E') :
    SR ctx n (st.put o.dst x H') (a.put o.dst v) E' := by
  cases hd : o.dst with
  | none => exact ⟨h.len, h.hm, h.defers, fun i => (h.tm i).trans tr, hH, hh, h.tr.trans tr⟩
  | some d =>
    have hdn := ho d hd
    refine ⟨by simpa [Act.put] using h.len, h.hm, h.defers, fun i => ?_, hH, hh, h.tr.trans tr⟩
    rw [getD_put (Nat.lt_of_lt_of_le hdn h.len)]
    simp only [St.put, look_cons]
    split
    · exact hx
    · exact (h.tm i).trans tr

theorem opnds_rel {E : Env} {st : St} {a : Act} (hρ : ∀ x, VRel E (st.ρ x) (a.eval x)) (args : Array Operand) (cap : List C) (vs : Array Value) (hn : vs.size = cap.length) (hv : ∀ (j : Nat) (c : C), cap[j]? = some c → CRel E c (vs.getD j undef)) :
    (args.map a.eval ++ vs).size = (args.toList.map st.ρ ++ cap.map V.one).length ∧
    ∀ (j : Nat) (x : V), (args.toList.map st.ρ ++ cap.map V.one)[j]? = some x → VRel E x ((args.map a.eval ++ vs).getD j undef) := by
  refine ⟨by simp [hn], fun j x hj => ?_⟩
  rw [List.getElem?_append] at hj
  split at hj
  · rename_i hlt
    simp at hlt
    simp only [List.getElem?_map, Option.map_eq_some_iff] at hj
    obtain ⟨p, hp, rfl⟩ := hj
    have : (args.map a.eval ++ vs).getD j undef = a.eval p := by
      have hp' : args[j]? = some p := by simpa using hp
      rw [Array.getD_eq_getD_getElem?, Array.getElem?_append_left (by simpa using hlt), Array.getElem?_map, hp']; rfl
    rw [this]; exact hρ p
  · rename_i hlt
    simp at hlt
    simp only [List.getElem?_map, Option.map_eq_some_iff, List.length_map, Array.length_toList] at hj
    obtain ⟨c, hc, rfl⟩ := hj
    have : (args.map a.eval ++ vs).getD j undef = vs.getD (j - args.size) undef := by
      rw [Array.getD_eq_getD_getElem?, Array.getD_eq_getD_getElem?, Array.getElem?_append_right (by simpa using hlt)]; simp
    rw [this]; exact .one (hv _ c hc)

theorem callee_run {P : Program} {o : Oper} {a : Act} {w : World} {f : Operand} {args : Array Operand} {ats : Array TypeId} (hop : o.op = .call { callee := .value f, args, argTypes := ats }) {g : FuncId} {vs : Array Value} (hf : a.eval f = .func (.func g) #[] vs)
    (hfn : ∃ fn, P.funcs[g]? = some fn ∧ (fn.name == "runtime.NumGoroutine") = false ∧ fn.body.isNone = false) : (execOp a.eval o).run P w = .ok (.enter g (args.map a.eval ++ vs)) w := by
  obtain ⟨fn, h1, h2, h3⟩ := hfn
  have h2' : ¬ fn.name = "runtime.NumGoroutine" := by simpa using h2
  have h3' : ¬ fn.body = none := by intro e; simp [e] at h3
  simp [execOp, hop, resolve, hf, Deferred.ofValue, invoke, callFunc, h1, h2', h3']

theorem fn_inv {E : Env} {g : FuncId} {cap : List C} {v : Value} (h : VRel E (.one (.fn g cap)) v) : ∃ vs, v = .func (.func g) #[] vs ∧ vs.size = cap.length ∧ ∀ (j : Nat) (c : C), cap[j]? = some c → CRel E c (vs.getD j undef) := by
  cases (one_inv h) with
  | fn hn hv => exact ⟨_, rfl, hn, hv⟩

theorem awpOp_ok {P : Program} {o : Oper} {ctx : Env} {n : Cf} {st : St} {a : Act} {E : Env} {K : St → Prop} (h : SR ctx n st a E) (ho : ∀ d, o.dst = some d → d < n.n) (hw : awpOp P o st K)
    (Q : Exit → Act → World → Prop) (next : Act → World → Prop) (hn : ∀ st' a' E', K st' → SR ctx n st' a' E' → next a' E'.w) : o.wp P a E.w next Q := by
  unfold awpOp at hw
  split at hw
  · rename_i f args ats hop
    split at hw
    · rename_i g cap hf
      have hfr := h.ρ f
      rw [hf] at hfr
      obtain ⟨vs, hv, hvn, hvr⟩ := fn_inv hfr
      obtain ⟨h1, h2⟩ := opnds_rel h.ρ args cap vs hvn hvr
      unfold Oper.wp
      rw [callee_run hop hv hw.1]
      refine Calls.mono (hw.2 E _ h.rel h.H h1 h2) ?_
      rintro e w' ⟨v, x, E', rfl, rfl, hK, hx, hh, tr⟩
      exact hn _ _ E' hK (h.put ho hx rfl hh tr)
    · exact hw.elim
  · obtain ⟨hp, hk⟩ := hw
    rw [← h.H] at hp hk
    obtain ⟨hf, hwp⟩ := step_ok (P := P) (o := o) h.rel h.ρ hp
    have hk' := hk hf
    rw [h.H] at hwp hk'
    exact hwp next Q fun v E' hv hH hh tr => hn _ _ E' hk' (h.put ho hv hH hh tr)

theorem yielded_of {ops : Array Oper} {a : Act} {j d : Nat} {b : Bool} (hd : (ops[j]?).bind (·.dst) = some d) (hb : a.tmps.getD d undef = .bool b) : yielded ops a.tmps j = some b := by
  unfold yielded
  rw [hd, Option.bind_some]
  rw [Array.getD_eq_getD_getElem?] at hb
  cases ht : a.tmps[d]? with
  | none => simp [ht, undef] at hb
  | some v => simp [ht] at hb; subst hb; rfl

theorem SR.assume {ctx : Env} {n : Cf} {st : St} {a : Act} {E : Env} (h : SR ctx n st a E) {d : Nat} {x : V} (hx : VRel E x (a.tmps.getD d undef)) : SR ctx n ⟨(d, x) :: st.t, st.H⟩ a E := by
  refine ⟨h.len, h.hm, h.defers, fun i => ?_, h.H, h.rel, h.tr⟩
  simp only [look_cons]
  split
  · rename_i e; exact e ▸ hx
  · exact h.tm i

theorem guarded_ok {all : Array Oper} {o : Oper} {ctx : Env} {n : Cf} {st : St} {a : Act} {E : Env} {X Y : St → Prop} (h : SR ctx n st a E) (hg : guarded all o st X Y) :
    ∃ st', SR ctx n st' a E ∧ ((Region.wanted o (yielded all a.tmps) = true ∧ X st') ∨ (Region.wanted o (yielded all a.tmps) = false ∧ Y st')) := by
  unfold guarded at hg
  split at hg
  · rename_i h0; exact ⟨st, h, .inl ⟨by simp [Region.wanted, h0], hg⟩⟩
  · rename_i j want h0
    split at hg
    · rename_i d hd
      split at hg
      · rename_i b hb
        have ht := h.tm d
        rw [hb] at ht
        have hv := bool_inv (one_inv ht)
        have hy := yielded_of hd hv
        by_cases hbw : b = want
        · refine ⟨_, h.assume (d := d) (x := .one (.bool want)) (by rw [hv, hbw]; exact .one .bool), .inl ⟨?_, hg.1 hbw⟩⟩
          simp [Region.wanted, h0, hy, hbw]
        · have hbn : b = !want := by cases b <;> cases want <;> simp_all
          refine ⟨_, h.assume (d := d) (x := .one (.bool (!want))) (by rw [hv, hbn]; exact .one .bool), .inr ⟨?_, hg.2 hbn⟩⟩
          simp only [Region.wanted, h0, hy]
          simp [hbw]
      · exact hg.elim
    · exact hg.elim

theorem yielded_skip {ops : Array Oper} {a : Act} {j d : Nat} (hd : (ops[j]?).bind (·.dst) = some d) (hb : a.tmps.getD d undef = .tuple #[]) : yielded ops a.tmps j = none := by
  unfold yielded
  rw [hd, Option.bind_some]
  rw [Array.getD_eq_getD_getElem?] at hb
  cases ht : a.tmps[d]? with
  | none => rfl
  | some v => simp [ht] at hb; subst hb; rfl

theorem guarded2_ok {all : Array Oper} {o : Oper} {ctx : Env} {n : Cf} {st : St} {a : Act} {E : Env} {X Y : St → Prop} (h : SR ctx n st a E) (hg : guarded2 all o st X Y) :
    ∃ st', SR ctx n st' a E ∧ ((Region.wanted o (yielded all a.tmps) = true ∧ X st') ∨ (Region.wanted o (yielded all a.tmps) = false ∧ Y st')) := by
  by_cases hs : ∃ j want d, o.guard = some (j, want) ∧ (all[j]?).bind (·.dst) = some d ∧ look st.t d = .tup []
  · obtain ⟨j, want, d, h0, hd, hl⟩ := hs
    simp only [guarded2, h0, hd, hl] at hg
    have ht := h.tm d
    rw [hl] at ht
    have hv : a.tmps.getD d undef = .tuple #[] := by
      generalize a.tmps.getD d undef = v at ht
      cases ht with
      | tup hn _ => congr 1; exact Array.eq_empty_of_size_eq_zero (by simpa using hn)
    exact ⟨st, h, .inr ⟨by simp [Region.wanted, h0, yielded_skip hd hv], hg⟩⟩
  · refine guarded_ok h ?_
    unfold guarded2 at hg
    unfold guarded
    cases h0 : o.guard with
    | none => simpa only [h0] using hg
    | some jw =>
      obtain ⟨j, want⟩ := jw
      rw [h0] at hg
      cases hd : (all[j]?).bind (·.dst) with
      | none => simp only [hd] at hg
      | some d =>
        simp only [hd] at hg ⊢
        cases hl : look st.t d with
        | one c =>
          rw [hl] at hg
          cases c with
          | bool b => exact hg
          | _ => exact hg.elim
        | agg c => simp only [hl] at hg
        | un => simp only [hl] at hg
        | tup l =>
          cases l with
          | nil => exact (hs ⟨j, want, d, h0, hd, hl⟩).elim
          | cons x l => simp only [hl] at hg

theorem SR.skip2 {ctx : Env} {n : Cf} {st : St} {a : Act} {E : Env} (h : SR ctx n st a E) {o : Oper} (ho : ∀ d, o.dst = some d → d < n.n) : SR ctx n (st.put o.dst (.tup []) st.H) (a.put o.dst undef) E :=
  h.put ho (.tup rfl (by simp)) h.H h.rel (Trans.refl E)

theorem SR.skip {ctx : Env} {n : Cf} {st : St} {a : Act} {E : Env} (h : SR ctx n st a E) {o : Oper} (ho : ∀ d, o.dst = some d → d < n.n) : SR ctx n (st.put o.dst .un st.H) (a.put o.dst undef) E :=
  h.put ho .un h.H h.rel (Trans.refl E)

theorem awpOps_ok {P : Program} {all : Array Oper} {ctx : Env} {n : Cf} {K : St → Prop} (Q : Exit → Act → World → Prop) (hQ : ∀ st' a' E', K st' → SR ctx n st' a' E' → Q .normal a' E'.w) (hok : ∀ o ∈ all.toList, ∀ d, o.dst = some d → d < n.n) :
    ∀ (l : List Nat) (rest : List Oper), rest.length = l.length → (∀ (k i : Nat), l[k]? = some i → all[i]? = rest[k]?) → ∀ (st : St) (a : Act) (E : Env), SR ctx n st a E → awpOps P all rest st K → wpOps P all Q l a E.w
  | [], rest, hl, hi, st, a, E, h, hw => by
    have : rest = [] := List.eq_nil_of_length_eq_zero (by simpa using hl)
    subst this
    exact hQ st a E hw h
  | i :: l, rest, hl, hi, st, a, E, h, hw => by
    cases rest with
    | nil => simp at hl
    | cons o rest =>
      have ho : all[i]? = some o := by simpa using hi 0 i rfl
      have hmem : o ∈ all.toList := List.mem_of_getElem? (by simpa using ho)
      simp only [wpOps, ho]
      obtain ⟨st', hs, hh⟩ := guarded2_ok h hw
      have hrec := awpOps_ok (P := P) (all := all) (K := K) Q hQ hok l rest (by simpa using hl) (fun k j hk => by simpa using hi (k + 1) j (by simpa using hk))
      rcases hh with ⟨hwant, hx⟩ | ⟨hwant, hy⟩
      · simp only [hwant, if_true]
        exact .inl (awpOp_ok hs (hok o hmem) hx Q _ fun st2 a2 E2 hK hs2 => hrec _ _ _ hs2 hK)
      · simp only [hwant, Bool.false_eq_true, if_false]
        exact hrec _ _ _ (hs.skip2 (hok o hmem)) hy

end Go.Lz

end
section
/- Lz12: regions that draw their order; soundness; calls. -/
namespace Go.Lz
set_option linter.unusedVariables false
set_option linter.unusedSimpArgs false

/-! ### Regions that draw their order. -/

/-- What slot t holds when of the first n operations those in S have been carried out. -/
def tv (all : Array Oper) (T : Nat → V) (t0 : Nat → V) (S : Nat → Prop) [DecidablePred S] (t : Nat) : Nat → V
  | 0 => t0 t
  | n + 1 => if S n ∧ (all[n]?).bind (·.dst) = some t then T n else tv all T t0 S t n

theorem tv_agree {all : Array Oper} {T : Nat → V} {t0 : Nat → V} {S : Nat → Prop} [DecidablePred S] {t i : Nat} (h1 : ∀ j, j < i → (all[j]?).bind (·.dst) = some t → S j) :
    tv all T t0 S t i = tv all T t0 (fun _ => True) t i := by
  induction i with
  | zero => rfl
  | succ i ih =>
    simp only [tv, true_and]
    by_cases hd : (all[i]?).bind (·.dst) = some t
    · simp [hd, h1 i (Nat.lt_succ_self i) hd]
    · simp [hd]; exact ih fun j hj => h1 j (by omega)

theorem tv_skip {all : Array Oper} {T : Nat → V} {t0 : Nat → V} {S : Nat → Prop} [DecidablePred S] {t i n : Nat} (hin : i ≤ n) (h2 : ∀ j, i ≤ j → j < n → (all[j]?).bind (·.dst) = some t → ¬ S j) :
    tv all T t0 S t n = tv all T t0 S t i := by
  induction n with
  | zero => have : i = 0 := by omega
            subst this; rfl
  | succ n ih =>
    by_cases he : i = n + 1
    · subst he; rfl
    · simp only [tv]
      rw [if_neg (fun ⟨hs, hd⟩ => h2 n (by omega) (by omega) hd hs)]
      exact ih (by omega) fun j h1 h3 => h2 j h1 (by omega)

theorem tv_congr {all : Array Oper} {T : Nat → V} {t0 : Nat → V} {S S' : Nat → Prop} [DecidablePred S] [DecidablePred S'] {t n : Nat} (h : ∀ j, j < n → (all[j]?).bind (·.dst) = some t → (S j ↔ S' j)) :
    tv all T t0 S t n = tv all T t0 S' t n := by
  induction n with
  | zero => rfl
  | succ n ih =>
    simp only [tv]
    by_cases hd : (all[n]?).bind (·.dst) = some t
    · have := h n (Nat.lt_succ_self n) hd
      simp only [hd, and_true, this]
      split
      · rfl
      · exact ih fun j hj => h j (by omega)
    · simp [hd]; exact ih fun j hj => h j (by omega)

/-- What slot t holds behind n operations from number k on, in the text's order. -/
def tvF (all : Array Oper) (T : Nat → V) (l : Nat → V) (k t : Nat) : Nat → V
  | 0 => l t
  | n + 1 => if (all[k + n]?).bind (·.dst) = some t then T (k + n) else tvF all T l k t n

theorem tvF_zero {all : Array Oper} {T l : Nat → V} {t n : Nat} : tvF all T l 0 t n = tv all T l (fun _ => True) t n := by
  induction n with
  | zero => rfl
  | succ n ih => simp only [tvF, tv, true_and, Nat.zero_add, ih]

theorem tvF_shift {all : Array Oper} {T l : Nat → V} {k t n : Nat} : tvF all T l k t (n + 1) = tvF all T (fun t => if (all[k]?).bind (·.dst) = some t then T k else l t) (k + 1) t n := by
  induction n with
  | zero => rfl
  | succ n ih =>
    rw [tvF, ih]
    simp only [tvF]
    rw [show k + (n + 1) = k + 1 + n by omega]

theorem tvF_congr {all : Array Oper} {T l l' : Nat → V} {k t n : Nat} (h : ∀ t, l t = l' t) : tvF all T l k t n = tvF all T l' k t n := by
  induction n with
  | zero => exact h t
  | succ n ih => simp only [tvF, ih]

/-- What one operation of such a region yields, whatever has been carried out besides. -/
def OpQ (P : Program) (all : Array Oper) (H : List O) (i : Nat) (o : Oper) (l : Nat → V) (x : V) : Prop :=
  ∀ (a : Act) (E : Env), HRel E → E.H = H → (∀ t, t ∈ namesOf o ∨ (∃ g w, o.guard = some (g, w) ∧ (all[g]?).bind (·.dst) = some t) → VRel E (l t) (a.tmps.getD t undef)) →
    ∀ (K : Act → World → Prop) (Q : Exit → Act → World → Prop), (∀ v E', VRel E' x v → E'.H = H → HRel E' → Trans E E' → K (a.put o.dst v) E'.w) → wpOp P all Q i K a E.w

theorem stepF_congr {P : Program} {pos : String} {op : Op} {ρ ρ' : Operand → V} {H : List O} (h : ∀ x ∈ op.operands, ρ x = ρ' x) : stepF P pos op ρ H = stepF P pos op ρ' H := by
  cases op <;> simp only [Op.operands, Array.mem_def] at h <;> simp only [stepF]
  case slice t x lo hi mx =>
    have hx := h x (by simp)
    have hl : lo.map ρ = lo.map ρ' := by cases lo with | none => rfl | some y => simp [h y (by simp)]
    have hh : hi.map ρ = hi.map ρ' := by cases hi with | none => rfl | some y => simp [h y (by simp)]
    have hm : mx.map ρ = mx.map ρ' := by cases mx with | none => rfl | some y => simp [h y (by simp)]
    rw [hx, hl, hh, hm]
  case makeFunc fn first cap =>
    have : cap.toList.map ρ = cap.toList.map ρ' := List.map_congr_left fun x hx => h x (by simp; exact .inr (by simpa using hx))
    cases fn <;> simp only [this]
  case build t parts =>
    have : (parts.toList.map fun p => (p.1, ρ p.2)) = parts.toList.map fun p => (p.1, ρ' p.2) := List.map_congr_left fun p hp => by rw [h p.2 (by simp; exact ⟨p.1, by simpa using hp⟩)]
    rw [this]
  case buildSlice t n parts =>
    have : (parts.toList.map fun p => (p.1, ρ p.2)) = parts.toList.map fun p => (p.1, ρ' p.2) := List.map_congr_left fun p hp => by rw [h p.2 (by simp; exact ⟨p.1, by simpa using hp⟩)]
    rw [this]
  case call c =>
    obtain ⟨callee, args, ats⟩ := c
    cases callee with
    | builtin b =>
      have : args.toList.map ρ = args.toList.map ρ' := List.map_congr_left fun x hx => h x (by simp [Call.operands]; simpa using hx)
      simp only [this]
    | value f => rfl
    | invoke r m => rfl
  case makeMap t r => cases r <;> rfl
  all_goals (simp at h; simp [h])

theorem step_okQ {P : Program} {o : Oper} {a : Act} {E : Env} {l : Nat → V} (hE : HRel E) (hl : ∀ t, t ∈ namesOf o → VRel E (l t) (a.tmps.getD t undef)) (hp : (stepF P o.pos o.op (fun x => match x with | .tmp i => l i | .const v => V.ofV v | .func f => .one (.fn f []) | .global _ => .un) E.H).pre) :
    WpV P o a E (stepF P o.pos o.op (fun x => match x with | .tmp i => l i | .const v => V.ofV v | .func f => .one (.fn f []) | .global _ => .un) E.H) := by
  have e := stepF_congr (P := P) (pos := o.pos) (op := o.op) (H := E.H) (ρ := fun x => match x with | .tmp i => l i | .const v => V.ofV v | .func f => .one (.fn f []) | .global _ => .un)
    (ρ' := fun x => match x with | .tmp i => (if i ∈ namesOf o then l i else .un) | .const v => V.ofV v | .func f => .one (.fn f []) | .global _ => .un) (fun x hx => by
      cases x with
      | tmp t =>
        have : t ∈ namesOf o := by simp only [namesOf, List.mem_filterMap]; exact ⟨.tmp t, by simpa using hx, rfl⟩
        simp [this]
      | _ => rfl)
  rw [e] at hp ⊢
  refine step_ok hE (fun x => ?_) hp
  cases x with
  | tmp t =>
    simp only
    split
    · rename_i ht; exact hl t ht
    · exact .un
  | const v => exact V.ofV_rel E v
  | global g => exact .un
  | func f => exact .one (.fn rfl (by simp))

theorem awpQ_ok {P : Program} {all : Array Oper} {i : Nat} {o : Oper} {st : St} {K : St → Prop} (hi : all[i]? = some o) (hw : awpQ P o st K) (hwant : ∀ (a : Act) (E : Env), (∀ t, t ∈ namesOf o ∨ (∃ g w, o.guard = some (g, w) ∧ (all[g]?).bind (·.dst) = some t) → VRel E (look st.t t) (a.tmps.getD t undef)) → Region.wanted o (yielded all a.tmps) = true)
    (hlive : ∃ (a : Act) (E : Env), HRel E ∧ E.H = st.H ∧ ∀ t, t ∈ namesOf o → VRel E (look st.t t) (a.tmps.getD t undef)) :
    ∃ x, OpQ P all st.H i o (look st.t) x ∧ K (st.put o.dst x st.H) := by
  unfold awpQ at hw
  split at hw
  · rename_i f args ats hop
    split at hw
    · rename_i g cap hf
      obtain ⟨x, hc, hk⟩ := hw
      refine ⟨x, fun a E hE hH hl Kn Q hn => ?_, hk⟩
      simp only [wpOp, hi, hwant a E hl, if_true]
      have hρ : ∀ y ∈ o.op.operands, VRel E (st.ρ y) (a.eval y) := by
        intro y hy
        cases y with
        | tmp t => exact hl t (.inl (by simp only [namesOf, List.mem_filterMap]; exact ⟨.tmp t, by simpa using hy, rfl⟩))
        | const v => exact V.ofV_rel E v
        | global g => exact .un
        | func f => exact .one (.fn rfl (by simp))
      have hfr := hρ f (by simp [hop, Op.operands, Call.operands])
      rw [hf] at hfr
      obtain ⟨vs, hv, hvn, hvr⟩ := fn_inv hfr
      left
      unfold Oper.wp
      rw [callee_run hop hv hc.1]
      have hsz : (args.map a.eval ++ vs).size = (args.toList.map st.ρ ++ cap.map V.one).length := by simp [hvn]
      refine Calls.mono (hc.2 E (args.map a.eval ++ vs) hE hH hsz fun j y hj => ?_) ?_
      · rw [List.getElem?_append] at hj
        split at hj
        · rename_i hlt
          simp at hlt
          simp only [List.getElem?_map, Option.map_eq_some_iff] at hj
          obtain ⟨p, hp, rfl⟩ := hj
          have hp' : args[j]? = some p := by simpa using hp
          have : (args.map a.eval ++ vs).getD j undef = a.eval p := by
            rw [Array.getD_eq_getD_getElem?, Array.getElem?_append_left (by simpa using hlt), Array.getElem?_map, hp']; rfl
          rw [this]
          refine hρ p ?_
          simp only [hop, Op.operands, Call.operands]
          exact Array.mem_append.2 (.inr (Array.mem_of_getElem? hp'))
        · rename_i hlt
          simp at hlt
          simp only [List.getElem?_map, Option.map_eq_some_iff, List.length_map, Array.length_toList] at hj
          obtain ⟨c, hc, rfl⟩ := hj
          have : (args.map a.eval ++ vs).getD j undef = vs.getD (j - args.size) undef := by
            rw [Array.getD_eq_getD_getElem?, Array.getD_eq_getD_getElem?, Array.getElem?_append_right (by simpa using hlt)]; simp
          rw [this]; exact .one (hvr _ c hc)
      · rintro e w' ⟨v, y, E', rfl, rfl, ⟨rfl, hH'⟩, hx, hh, tr⟩
        exact hn v E' hx hH' hh tr
    · exact hw.elim
  · rename_i hop
    obtain ⟨hp, hk⟩ := hw
    obtain ⟨a0, E0, hE0, hH0, hl0⟩ := hlive
    have hst : st.ρ = (fun x => match x with | .tmp i => look st.t i | .const v => V.ofV v | .func f => .one (.fn f []) | .global _ => .un) := by
      funext x; cases x <;> rfl
    rw [hst] at hp hk
    rw [← hH0] at hp
    have hfact := (step_okQ (P := P) (o := o) (a := a0) hE0 (fun t ht => hl0 t ht) hp).1
    rw [hH0] at hp hfact
    obtain ⟨hsame, hK⟩ := hk hfact
    rw [hsame] at hK
    refine ⟨_, fun a E hE hH hl Kn Q hn => ?_, hK⟩
    simp only [wpOp, hi, hwant a E hl, if_true]
    left
    rw [← hH] at hp
    obtain ⟨_, hwp⟩ := step_okQ (P := P) (o := o) (a := a) hE (fun t ht => hl t (.inl ht)) hp
    refine hwp Kn Q fun v E' hv hH' hh tr => ?_
    rw [hH] at hv hH'
    exact hn v E' hv (hH'.trans hsame) hh tr

theorem wpOp_some {P : Program} {all : Array Oper} {i : Nat} {K : Act → World → Prop} {a : Act} {w : World} (h : wpOp P all (fun _ _ _ => False) i K a w) : ∃ a' w', K a' w' := by
  unfold wpOp at h
  split at h
  · exact ⟨_, _, h⟩
  · split at h
    · rcases h with h | ⟨_, _, _, h⟩
      · unfold Oper.wp at h
        generalize (execOp a.eval _).run P w = r at h
        cases r with
        | ok n w' =>
          cases n <;> simp only [Oper.upon] at h <;> try (exact h.elim)
          · exact ⟨_, _, h⟩
          · exact ⟨_, _, h⟩
          · obtain ⟨e, w2, fr, hR, _⟩ := h []
            cases e with
            | returned v => exact ⟨_, _, hR⟩
            | panicked c => exact hR.elim
            | outgrown => obtain ⟨_, _, hR⟩ := hR; exact hR.elim
          · exact ⟨_, _, h⟩
          · obtain ⟨v, w2, hR, _⟩ := h default []
            exact ⟨_, _, hR⟩
        | halt x w' => cases x <;> simp only [Oper.upon] at h
      · exact h.elim
    · exact ⟨_, _, h⟩

theorem tvF_congrT {all : Array Oper} {T T' l : Nat → V} {k t n : Nat} (h : ∀ m, k ≤ m → T m = T' m) : tvF all T l k t n = tvF all T' l k t n := by
  induction n with
  | zero => rfl
  | succ n ih => simp only [tvF, ih, h (k + n) (by omega)]

def Live (st : St) : Prop := ∃ (a : Act) (E : Env) (n : Nat), n ≤ a.tmps.size ∧ HRel E ∧ E.H = st.H ∧ (∀ t, VRel E (look st.t t) (a.tmps.getD t undef)) ∧ n = a.tmps.size

theorem look_put (st : St) (d : Option Nat) (x : V) (H : List O) (t : Nat) : look (st.put d x H).t t = if d = some t then x else look st.t t := by
  cases d with
  | none => simp [St.put]
  | some d => simp [St.put, look_cons]

theorem look_assume {st : St} {d : Nat} {b : Bool} (h : look st.t d = .one (.bool b)) (t : Nat) : look ((d, .one (.bool b)) :: st.t) t = look st.t t := by
  rw [look_cons]; split
  · rename_i e; subst e; exact h.symm
  · rfl

theorem bool_ne {b w : Bool} (h : ¬ b = w) : b = !w := by cases b <;> cases w <;> simp_all

/-- What an operation that makes or first writes a new object does. -/
def OpF (P : Program) (all : Array Oper) (H : List O) (i : Nat) (o : Oper) (l : Nat → V) (x : V) (p : Nat) (pre obj : O) : Prop :=
  ∀ (a : Act) (E : Env) (G : List O), HRel E → E.H = H ++ G → G[p]? = some pre → (∀ t, t ∈ namesOf o → VRel E (l t) (a.tmps.getD t undef)) →
    ∀ (K : Act → World → Prop) (Q : Exit → Act → World → Prop), (∀ v E', VRel E' x v → E'.H = H ++ G.set p obj → HRel E' → Trans E E' → K (a.put o.dst v) E'.w) → wpOp P all Q i K a E.w

theorem app_get {H G : List O} {p : Nat} {x : O} (h : G[p]? = some x) : (H ++ G)[H.length + p]? = some x := by
  rw [List.getElem?_append_right (by omega)]; simpa using h
theorem app_set {H G : List O} {p : Nat} {x : O} : (H ++ G).set (H.length + p) x = H ++ G.set p x := by
  rw [List.set_append_right _ _ (by omega)]; simp

theorem opF_new {P : Program} {all : Array Oper} {H : List O} {i : Nat} {o : Oper} {l : Nat → V} {p : Nat} {cs : List C} (hi : all[i]? = some o) (hg : o.guard = none)
    (h : ∀ (a : Act) (E : Env), HRel E → (∀ t, t ∈ namesOf o → VRel E (l t) (a.tmps.getD t undef)) → ∃ (s : Sem Value) (vs : Array Value) (ty : TypeId), execOp a.eval o = (do pure (.value (← s))) ∧
      s.run P E.w = .ok (.pointer (some ⟨E.w.heap.size, 0, none⟩)) (E.w.alloc (.cells vs ty)) ∧ vs.size = cs.length ∧ ∀ (j : Nat) (c : C), cs[j]? = some c → ∃ y, vs[j]? = some y ∧ CRel E c y) :
    OpF P all H i o l (.one (.ref (H.length + p) 1 0 0)) p (.cells 0 0 []) (.cells 1 cs.length [cs]) := by
  intro a E G hE hH hG hl K Q hn
  obtain ⟨s, vs, ty, h1, h2, h3, h4⟩ := h a E hE hl
  obtain ⟨E', hw, hH', hv, hh, tr⟩ := new_at hE (id := H.length + p) (by rw [hH]; exact app_get hG) h3 h4 ty
  simp only [wpOp, hi, Region.wanted, hg, if_true]
  left
  unfold Oper.wp
  rw [h1]
  simp only [Sem.run_bind, h2, Result.andThen_ok, Sem.run_pure]
  rw [← hw]
  exact hn _ E' hv (by rw [hH', hH, app_set]) hh tr

theorem opF_store {P : Program} {all : Array Oper} {H : List O} {i : Nat} {o : Oper} {st : St} {p : Nat} {t : TypeId} {s : Nat} {x : Operand} {off n sz : Nat} {row cs : List C} {g : Bool} (hi : all[i]? = some o) (hg : o.guard = none) (hd : o.dst = none) (hop : o.op = .store t (.tmp s) x)
    (hs : look st.t s = .one (.ref (H.length + p) 1 0 off)) (hx : (st.ρ x).cs = some cs) (ht : tAg P t = some (g, n)) (hlen : off + cs.length ≤ row.length) (hn : cs.length = n) :
    OpF P all H i o (look st.t) .un p (.cells 1 sz [row]) (.cells 1 sz [splice row off cs]) := by
  intro a E G hE hH hG hl K Q hk
  simp only [wpOp, hi, Region.wanted, hg, if_true]
  left
  have hobj : E.H[H.length + p]? = some (.cells 1 sz [row]) := by rw [hH]; exact app_get hG
  have hρ : ∀ y ∈ o.op.operands, VRel E (st.ρ y) (a.eval y) := by
    intro y hy
    cases y with
    | tmp t => exact hl t (by simp only [namesOf, List.mem_filterMap]; exact ⟨.tmp t, by simpa using hy, rfl⟩)
    | const v => exact V.ofV_rel E v
    | global g => exact .un
    | func f => exact .one (.fn rfl (by simp))
  have ha := hρ (.tmp s) (by simp [hop, Op.operands])
  have hxx := hρ x (by simp [hop, Op.operands])
  have hgood := storeF_ok (P := P) (t := t) hE ha hxx
  have e1 : st.ρ (.tmp s) = .one (.ref (H.length + p) 1 0 off) := hs
  have e : storeF P t (st.ρ (.tmp s)) (st.ρ x) E.H = ⟨1 = 1 ∧ 0 < [row].length ∧ off + cs.length ≤ ([row].getD 0 []).length ∧ cs.length = n, True, .un, E.H.set (H.length + p) (.cells 1 sz ([row].set 0 (splice ([row].getD 0 []) off cs)))⟩ := by
    unfold storeF
    rw [e1, hx, ht]
    simp only [hobj]
  rw [e] at hgood
  obtain ⟨_, _, E', hrun, hH', hh, tr⟩ := hgood ⟨rfl, by simp, by simpa using hlen, hn⟩
  unfold Oper.wp
  have he : execOp a.eval o = (do Instr.storeAt t (a.eval (.tmp s)) (a.eval x); pure .skip) := by simp [execOp, hop]
  rw [he]
  simp only [Sem.run_bind, hrun, Result.andThen_ok, Sem.run_pure]
  exact hk undef E' .un (by rw [hH', hH, app_set]; rfl) hh tr

/-- A quiet operation where new objects lie beside. -/
theorem opQ_lift {P : Program} {all : Array Oper} {H : List O} {i : Nat} {o : Oper} {l : Nat → V} {x : V} (hq : OpQ P all H i o l x) {a : Act} {E : Env} {G : List O} (hE : HRel E) (hH : E.H = H ++ G) (hHl : ∀ o ∈ H, o.lt H.length = true)
    (hl : ∀ t, t ∈ namesOf o ∨ (∃ g w, o.guard = some (g, w) ∧ (all[g]?).bind (·.dst) = some t) → VRel E (l t) (a.tmps.getD t undef) ∧ (l t).lt H.length = true)
    {K : Act → World → Prop} {Q : Exit → Act → World → Prop} (hn : ∀ v E', VRel E' x v → E'.H = H ++ G → HRel E' → Trans E E' → K (a.put o.dst v) E'.w) : wpOp P all Q i K a E.w := by
  obtain ⟨h1, h2, h3, h4⟩ := hide_ok hE hH hHl
  refine hq a (hideG E H) h1 rfl (fun t ht => h3 (hl t ht).1 (hl t ht).2) K Q fun v E1 hv hH1 hh1 t1 => ?_
  obtain ⟨E', hw, hH', hh, tr, hv'⟩ := show_ok hE hH hh1 hH1 t1
  rw [← hw]
  exact hn v E' (hv' hv) (hH'.trans hH) hh tr

open Classical in
/-- The new objects when the operations of S have been carried out. -/
noncomputable def gS (z f base : Nat → O) (role : Nat → Option (Bool × Nat)) (S : Nat → Prop) (p : Nat) : O :=
  if ∃ i, S i ∧ role i = some (false, p) then f p else if ∃ i, S i ∧ role i = some (true, p) then z p else base p

section
variable {z f base : Nat → O} {role : Nat → Option (Bool × Nat)} {S : Nat → Prop} {p : Nat}
theorem gS_f (h : ∃ i, S i ∧ role i = some (false, p)) : gS z f base role S p = f p := by unfold gS; rw [if_pos h]
theorem gS_z (h : ¬ ∃ i, S i ∧ role i = some (false, p)) (h2 : ∃ i, S i ∧ role i = some (true, p)) : gS z f base role S p = z p := by unfold gS; rw [if_neg h, if_pos h2]
theorem gS_b (h : ¬ ∃ i, S i ∧ role i = some (false, p)) (h2 : ¬ ∃ i, S i ∧ role i = some (true, p)) : gS z f base role S p = base p := by unfold gS; rw [if_neg h, if_neg h2]
theorem gS_congr {z' f' base' : Nat → O} {role' : Nat → Option (Bool × Nat)} {S' : Nat → Prop} (h1 : (∃ i, S i ∧ role i = some (false, p)) ↔ ∃ i, S' i ∧ role' i = some (false, p)) (h2 : (∃ i, S i ∧ role i = some (true, p)) ↔ ∃ i, S' i ∧ role' i = some (true, p))
    (ef : f p = f' p) (ez : z p = z' p) (eb : base p = base' p) : gS z f base role S p = gS z' f' base' role' S' p := by
  by_cases a : ∃ i, S i ∧ role i = some (false, p)
  · rw [gS_f a, gS_f (h1.1 a), ef]
  · have a' := fun h => a (h1.2 h)
    by_cases b : ∃ i, S i ∧ role i = some (true, p)
    · rw [gS_z a b, gS_z a' (h2.1 b), ez]
    · rw [gS_b a b, gS_b a' (fun h => b (h2.2 h)), eb]
end

structure Xt (P : Program) (all : Array Oper) (H : List O) (N : List Fo) (k kt M : Nat) (l0 : Nat → V) (T : Nat → V) (role : Nat → Option (Bool × Nat)) (z f : Nat → O) : Prop where
  c1 : ∀ i p, role i = some (true, p) → k ≤ i ∧ i < kt ∧ N.length ≤ p ∧ p < M
  c2 : ∀ i j p, role i = some (true, p) → role j = some (true, p) → i = j
  c3 : ∀ i p, role i = some (false, p) → k ≤ i ∧ i < kt ∧ p < M ∧ ((∃ x o, N[p]? = some x ∧ x.w = false ∧ all[i]? = some o ∧ x.d ∈ namesOf o) ∨
    (N.length ≤ p ∧ ∃ j oj oi d, j < i ∧ role j = some (true, p) ∧ all[j]? = some oj ∧ all[i]? = some oi ∧ oj.dst = some d ∧ d ∈ namesOf oi))
  c4 : ∀ i j p, role i = some (false, p) → role j = some (false, p) → i = j
  cz : ∀ p x, N[p]? = some x → z p = x.o
  c5 : ∀ i b p, role i = some (b, p) → ∃ o, all[i]? = some o ∧ effO o.op = true
  spec : ∀ i o, k ≤ i → i < kt → all[i]? = some o → match role i with
    | none => OpQ P all H i o (fun t => tvF all T l0 k t (i - k)) (T i) ∧ ∀ t, t ∈ namesOf o ∨ (∃ g w, o.guard = some (g, w) ∧ (all[g]?).bind (·.dst) = some t) → (tvF all T l0 k t (i - k)).lt H.length = true
    | some (true, p) => OpF P all H i o (fun t => tvF all T l0 k t (i - k)) (T i) p (.cells 0 0 []) (z p)
    | some (false, p) => OpF P all H i o (fun t => tvF all T l0 k t (i - k)) (T i) p (z p) (f p)

noncomputable def baseN (N : List Fo) (p : Nat) : O := match N[p]? with | some x => x.o | none => .cells 0 0 []

set_option maxHeartbeats 2000000 in
theorem draw_extract {P : Program} {all : Array Oper} {K : St → Prop} {n : Nat} (hok : ∀ o ∈ all.toList, ∀ d, o.dst = some d → d < n) : ∀ (rest : List Oper) (k : Nat) (N : List Fo) (st : St), (∀ m, rest[m]? = all[k + m]?) → k + rest.length = all.size →
    (∃ (a : Act) (E : Env), n ≤ a.tmps.size ∧ HRel E ∧ E.H = st.H ∧ ∀ t, (∀ x ∈ N, x.d ≠ t) → VRel E (look st.t t) (a.tmps.getD t undef)) → awpDraw P all rest N st K →
    ∃ (T : Nat → V) (role : Nat → Option (Bool × Nat)) (z f : Nat → O) (kt : Nat) (stE : St) (N' : List Fo), k ≤ kt ∧ kt ≤ all.size ∧ N.length ≤ N'.length ∧ (kt < all.size → tailP P all kt stE.t) ∧ stE.H = st.H ∧
      awpOps P all (rest.drop (kt - k)) ⟨stE.t, stE.H ++ N'.map Fo.o⟩ K ∧
      (∀ p x, N'[p]? = some x → x.o = gS z f (baseN N) role (fun i => k ≤ i ∧ i < kt) p) ∧
      Xt P all st.H N k kt N'.length (look st.t) T role z f ∧ ∀ t, look stE.t t = tvF all T (look st.t) k t (kt - k)
  | [], k, N, st, hi, hsz, hlive, h => by
    refine ⟨fun _ => .un, fun _ => none, baseN N, baseN N, k, st, N, Nat.le_refl _, by simp at hsz; omega, Nat.le_refl _, fun hlt => by simp at hsz; omega, rfl, by simpa [awpOps, awpDraw] using h, fun p x hp => ?_, ⟨?_, ?_, ?_, ?_, ?_, ?_, ?_⟩, fun t => by simp [tvF]⟩
    · simp [gS, baseN, hp]
    · intro i p hr; cases hr
    · intro i j p hr; cases hr
    · intro i p hr; cases hr
    · intro i j p hr; cases hr
    · intro p x hp; simp [baseN, hp]
    · intro i b p hr; cases hr
    · intro i o h1 h2; omega
  | o :: rest, k, N, st, hi, hsz, hlive, h => by
    have hio : all[k]? = some o := by simpa using (hi 0).symm
    have hkl : k < all.size := (Array.getElem?_eq_some_iff.1 hio).1
    have hod : ∀ d, o.dst = some d → d < n := hok o (List.mem_of_getElem? (by simpa using hio))
    have hrest : ∀ m, rest[m]? = all[k + 1 + m]? := fun m => by have := hi (m + 1); simpa [Nat.add_assoc, Nat.add_comm 1] using this
    have hsz' : k + 1 + rest.length = all.size := by simp at hsz; omega
    -- slots behind one more operation
    have key : ∀ (st1 : St) (x : V) (T : Nat → V), (∀ t, look st1.t t = if o.dst = some t then x else look st.t t) → ∀ t m, tvF all (fun m => if m = k then x else T m) (look st.t) k t (m + 1) = tvF all T (look st1.t) (k + 1) t m := by
      intro st1 x T hl t m
      rw [tvF_shift]
      rw [tvF_congrT (T' := T) (fun j hj => by simp [show ¬ j = k by omega])]
      exact tvF_congr (fun t => by rw [hl t, hio]; simp)
    -- the rest of the way, once the operation's own part is known
    have join : ∀ (st1 : St) (N1 : List Fo) (x : V) (r : Option (Bool × Nat)) (z0 f0 : (Nat → O) → Nat → O), st1.H = st.H → N.length ≤ N1.length →
        (∀ t, look st1.t t = if o.dst = some t then x else look st.t t) →
        (∃ (a : Act) (E : Env), n ≤ a.tmps.size ∧ HRel E ∧ E.H = st1.H ∧ ∀ t, (∀ x ∈ N1, x.d ≠ t) → VRel E (look st1.t t) (a.tmps.getD t undef)) → awpDraw P all rest N1 st1 K →
        (∀ (T : Nat → V) (role : Nat → Option (Bool × Nat)) (z f : Nat → O) (kt : Nat) (N' : List Fo), k + 1 ≤ kt → N1.length ≤ N'.length → Xt P all st.H N1 (k + 1) kt N'.length (look st1.t) T role z f →
          (∀ p x, N'[p]? = some x → x.o = gS z f (baseN N1) role (fun i => k + 1 ≤ i ∧ i < kt) p) →
          Xt P all st.H N k kt N'.length (look st.t) (fun m => if m = k then x else T m) (fun m => if m = k then r else role m) (z0 z) (f0 f) ∧
          ∀ p x, N'[p]? = some x → x.o = gS (z0 z) (f0 f) (baseN N) (fun m => if m = k then r else role m) (fun i => k ≤ i ∧ i < kt) p) →
        ∃ (T : Nat → V) (role : Nat → Option (Bool × Nat)) (z f : Nat → O) (kt : Nat) (stE : St) (N' : List Fo), k ≤ kt ∧ kt ≤ all.size ∧ N.length ≤ N'.length ∧ (kt < all.size → tailP P all kt stE.t) ∧ stE.H = st.H ∧
          awpOps P all ((o :: rest).drop (kt - k)) ⟨stE.t, stE.H ++ N'.map Fo.o⟩ K ∧
          (∀ p x, N'[p]? = some x → x.o = gS z f (baseN N) role (fun i => k ≤ i ∧ i < kt) p) ∧
          Xt P all st.H N k kt N'.length (look st.t) T role z f ∧ ∀ t, look stE.t t = tvF all T (look st.t) k t (kt - k) := by
      intro st1 N1 x r z0 f0 hH hN hl hlive1 hd hmk
      obtain ⟨T, role, z, f, kt, stE, N', g1, g2, g3, g4, g5, g6, g7, g8, g9⟩ := draw_extract hok rest (k + 1) N1 st1 hrest hsz' hlive1 hd
      rw [hH] at g5 g8
      obtain ⟨q1, q2⟩ := hmk T role z f kt N' g1 g3 g8 g7
      refine ⟨_, _, _, _, kt, stE, N', by omega, g2, by omega, g4, g5, ?_, q2, q1, fun t => ?_⟩
      · rw [show kt - k = (kt - (k + 1)) + 1 by omega]; exact g6
      · rw [show kt - k = (kt - (k + 1)) + 1 by omega, key st1 x T hl]; exact g9 t
    -- what an operation's specification comes to, one place earlier
    have specs : ∀ (st1 : St) (N1 : List Fo) (x : V) (T : Nat → V), (∀ t, look st1.t t = if o.dst = some t then x else look st.t t) → ∀ i, k + 1 ≤ i → (fun t => tvF all (fun m => if m = k then x else T m) (look st.t) k t (i - k)) = fun t => tvF all T (look st1.t) (k + 1) t (i - (k + 1)) := by
      intro st1 N1 x T hl i hik
      funext t
      rw [show i - k = (i - (k + 1)) + 1 by omega, key st1 x T hl]
    have hnew : ∀ (cs : List C) (d : Nat), o.dst = some d → OpF P all st.H k o (look st.t) (.one (.ref (st.H.length + N.length) 1 0 0)) N.length (.cells 0 0 []) (.cells 1 cs.length [cs]) →
        awpDraw P all rest (N ++ [⟨.cells 1 cs.length [cs], false, d⟩]) (st.put o.dst (.one (.ref (st.H.length + N.length) 1 0 0)) st.H) K → effO o.op = true →
        ∃ (T : Nat → V) (role : Nat → Option (Bool × Nat)) (z f : Nat → O) (kt : Nat) (stE : St) (N' : List Fo), k ≤ kt ∧ kt ≤ all.size ∧ N.length ≤ N'.length ∧ (kt < all.size → tailP P all kt stE.t) ∧ stE.H = st.H ∧
          awpOps P all ((o :: rest).drop (kt - k)) ⟨stE.t, stE.H ++ N'.map Fo.o⟩ K ∧
          (∀ p x, N'[p]? = some x → x.o = gS z f (baseN N) role (fun i => k ≤ i ∧ i < kt) p) ∧
          Xt P all st.H N k kt N'.length (look st.t) T role z f ∧ ∀ t, look stE.t t = tvF all T (look st.t) k t (kt - k) := by
      intro cs d hdst hop hd heffN
      have hl1 : ∀ t, look (st.put o.dst (.one (.ref (st.H.length + N.length) 1 0 0)) st.H).t t = if o.dst = some t then (.one (.ref (st.H.length + N.length) 1 0 0)) else look st.t t := fun t => look_put _ _ _ _ _
      refine join (st.put o.dst (.one (.ref (st.H.length + N.length) 1 0 0)) st.H) (N ++ [⟨.cells 1 cs.length [cs], false, d⟩]) (.one (.ref (st.H.length + N.length) 1 0 0)) (some (true, N.length)) (fun z => z) (fun f => f) (by cases o.dst <;> rfl) (by simp) hl1 ?_ hd ?_
      · obtain ⟨a, E, h1, h2, h3, h4⟩ := hlive
        refine ⟨a, E, h1, h2, by rw [h3]; cases o.dst <;> rfl, fun t ht => ?_⟩
        rw [hl1, if_neg (by rw [hdst]; intro e; cases e; exact ht ⟨.cells 1 cs.length [cs], false, d⟩ (by simp) rfl)]
        exact h4 t fun x hx => ht x (by simp [hx])
      · intro T role z f kt N' g1 g2 X g7
        have hzN : z N.length = .cells 1 cs.length [cs] := X.cz N.length ⟨.cells 1 cs.length [cs], false, d⟩ (by simp)
        have hN1 : ∀ p, p < N.length → (N ++ [(⟨.cells 1 cs.length [cs], false, d⟩ : Fo)])[p]? = N[p]? := fun p hp => List.getElem?_append_left hp
        have hget : ∀ p x, N[p]? = some x → (N ++ [(⟨.cells 1 cs.length [cs], false, d⟩ : Fo)])[p]? = some x := fun p x hp => by
          rw [hN1 p (List.getElem?_eq_some_iff.1 hp).1]; exact hp
        have rk : ∀ p, ¬ role k = some (true, p) := fun p e => by have := (X.c1 k p e).1; omega
        have rk2 : ∀ p, ¬ role k = some (false, p) := fun p e => by have := (X.c3 k p e).1; omega
        refine ⟨⟨?_, ?_, ?_, ?_, ?_, ?_, ?_⟩, ?_⟩
        · intro i p hr
          by_cases hik : i = k
          · subst hik; simp at hr; subst hr
            exact ⟨Nat.le_refl _, by omega, Nat.le_refl _, by simp at g2; omega⟩
          · simp only [hik, if_false] at hr
            obtain ⟨q1, q2, q3, q4⟩ := X.c1 i p hr
            simp at q3
            exact ⟨by omega, q2, by omega, q4⟩
        · intro i j p hr1 hr2
          by_cases hik : i = k <;> by_cases hjk : j = k
          · omega
          · subst hik; simp at hr1; subst hr1
            simp only [hjk, if_false] at hr2
            have := (X.c1 j _ hr2).2.2.1; simp at this; omega
          · subst hjk; simp at hr2; subst hr2
            simp only [hik, if_false] at hr1
            have := (X.c1 i _ hr1).2.2.1; simp at this; omega
          · simp only [hik, if_false] at hr1
            simp only [hjk, if_false] at hr2
            exact X.c2 i j p hr1 hr2
        · intro i p hr
          by_cases hik : i = k
          · subst hik; simp at hr
          · simp only [hik, if_false] at hr
            obtain ⟨q1, q2, q3, q4⟩ := X.c3 i p hr
            refine ⟨by omega, q2, q3, ?_⟩
            rcases q4 with ⟨y, oi, e1, e2, e3, e4⟩ | ⟨e0, j, oj, oi, dd, e1, e2, e3, e4, e5, e6⟩
            · rcases Nat.lt_or_ge p N.length with hp | hp
              · rw [hN1 p hp] at e1
                exact .inl ⟨y, oi, e1, e2, e3, e4⟩
              · rw [List.getElem?_append_right hp] at e1
                have hp0 : p - N.length = 0 := by
                  have := (List.getElem?_eq_some_iff.1 e1).1; simp at this; omega
                rw [hp0] at e1
                simp at e1
                subst e1
                have hpe : p = N.length := by omega
                subst hpe
                exact .inr ⟨Nat.le_refl _, k, o, oi, d, by omega, by simp, hio, e3, hdst, e4⟩
            · simp at e0
              have hjk : j ≠ k := fun e => rk p (e ▸ e2)
              exact .inr ⟨by omega, j, oj, oi, dd, e1, by simp only [hjk, if_false]; exact e2, e3, e4, e5, e6⟩
        · intro i j p hr1 hr2
          by_cases hik : i = k
          · subst hik; simp at hr1
          by_cases hjk : j = k
          · subst hjk; simp at hr2
          simp only [hik, if_false] at hr1
          simp only [hjk, if_false] at hr2
          exact X.c4 i j p hr1 hr2
        · exact fun p x hp => X.cz p x (hget p x hp)
        · intro i b q hr
          by_cases hik : i = k
          · subst hik; exact ⟨o, hio, heffN⟩
          · simp only [hik, if_false] at hr; exact X.c5 i b q hr
        · intro i oi h1 h2 h3
          by_cases hik : i = k
          · subst hik
            rw [hio] at h3; cases h3
            simp only [if_true, Nat.sub_self, tvF]
            rw [hzN]
            exact hop
          · have hsp := X.spec i oi (by omega) h2 h3
            have e := specs _ N (.one (.ref (st.H.length + N.length) 1 0 0)) T hl1 i (by omega)
            simp only [hik, if_false]
            rw [e]
            have e2 : ∀ t, tvF all (fun m => if m = k then (.one (.ref (st.H.length + N.length) 1 0 0)) else T m) (look st.t) k t (i - k) = tvF all T (look (st.put o.dst (.one (.ref (st.H.length + N.length) 1 0 0)) st.H).t) (k + 1) t (i - (k + 1)) := fun t => congrFun e t
            simp only [e2]
            exact hsp
        · intro p y hp
          rw [g7 p y hp]
          have s1 : (∃ i, (k ≤ i ∧ i < kt) ∧ (if i = k then some (true, N.length) else role i) = some (false, p)) ↔ ∃ i, (k + 1 ≤ i ∧ i < kt) ∧ role i = some (false, p) := by
            constructor
            · rintro ⟨i, hi, hr⟩
              by_cases hik : i = k
              · subst hik; simp at hr
              · simp only [hik, if_false] at hr
                exact ⟨i, by omega, hr⟩
            · rintro ⟨i, hi, hr⟩
              exact ⟨i, by omega, by simp only [show ¬ i = k by omega, if_false]; exact hr⟩
          have s2 : (∃ i, (k ≤ i ∧ i < kt) ∧ (if i = k then some (true, N.length) else role i) = some (true, p)) ↔ (p = N.length ∨ ∃ i, (k + 1 ≤ i ∧ i < kt) ∧ role i = some (true, p)) := by
            constructor
            · rintro ⟨i, hi, hr⟩
              by_cases hik : i = k
              · subst hik; simp at hr; exact .inl hr.symm
              · simp only [hik, if_false] at hr
                exact .inr ⟨i, by omega, hr⟩
            · rintro (rfl | ⟨i, hi, hr⟩)
              · exact ⟨k, by omega, by simp⟩
              · exact ⟨i, by omega, by simp only [show ¬ i = k by omega, if_false]; exact hr⟩
          by_cases hst : ∃ i, (k + 1 ≤ i ∧ i < kt) ∧ role i = some (false, p)
          · rw [gS_f hst, gS_f (s1.2 hst)]
          · have hst' := fun h => hst (s1.1 h)
            by_cases hpN : p = N.length
            · subst hpN
              rw [gS_z hst' (s2.2 (.inl rfl))]
              by_cases hal : ∃ i, (k + 1 ≤ i ∧ i < kt) ∧ role i = some (true, N.length)
              · rw [gS_z hst hal]
              · rw [gS_b hst hal]; simp [baseN, hzN]
            · by_cases hal : ∃ i, (k + 1 ≤ i ∧ i < kt) ∧ role i = some (true, p)
              · rw [gS_z hst hal, gS_z hst' (s2.2 (.inr hal))]
              · rw [gS_b hst hal, gS_b hst' (fun h => (s2.1 h).elim hpN hal)]
                unfold baseN
                rcases Nat.lt_or_ge p N.length with hlt | hge
                · rw [hN1 p hlt]
                · rw [List.getElem?_append_right hge]
                  have : p - N.length ≠ 0 := by omega
                  obtain ⟨q, hq⟩ := Nat.exists_eq_succ_of_ne_zero this
                  rw [hq, List.getElem?_eq_none hge]; simp
    simp only [awpDraw] at h
    cases hfr : freshV P o st N with
    | some r =>
      obtain ⟨pp, xv, N1⟩ := r
      rw [hfr] at h
      obtain ⟨hp, hd⟩ := h
      unfold freshV at hfr
      split at hfr
      · -- a new variable
        rename_i d t hg hdst hop
        split at hfr
        · rename_i zz hz
          split at hfr
          · rename_i cs hcs
            cases hfr
            refine hnew cs d hdst (opF_new hio hg fun a E hE hl => ?_) hd (by rw [hop]; rfl)
            obtain ⟨iz, zv, hi1, hzv, rfl⟩ := tZ_spec hz
            obtain ⟨h1, h2⟩ := (V.ofV_rel E zv).cells hcs
            refine ⟨Instr.alloc t true (.tuple #[]), zv.cells, t, by simp [execOp, hop], ?_, h1, h2⟩
            simp only [Instr.alloc, zeroValue, typeInfo, Sem.run_bind, run_program, Result.andThen_ok, hi1, Sem.run_pure, hzv]
            simp [newVar, newRow]
          · cases hfr
        · cases hfr
      · rename_i d t x hg hdst hop
        split at hfr
        · rename_i cs hcs
          cases hfr
          refine hnew cs d hdst (opF_new hio hg fun a E hE hl => ?_) hd (by rw [hop]; rfl)
          have hρ : VRel E (st.ρ x) (a.eval x) := by
            cases x with
            | tmp q => exact hl q (by simp only [namesOf, List.mem_filterMap]; exact ⟨.tmp q, by simp [hop, Op.operands], rfl⟩)
            | const v => exact V.ofV_rel E v
            | global g => exact .un
            | func f => exact .one (.fn rfl (by simp))
          obtain ⟨h1, h2⟩ := hρ.cells hcs
          exact ⟨Instr.box t (a.eval x), (a.eval x).cells, t, by simp [execOp, hop], by simp [Instr.box, newVar, newRow], h1, h2⟩
        · cases hfr
      · -- the first write to a new variable
        rename_i t s x hg hdst hop
        split at hfr
        · rename_i id off cs g nn hlk hcs hag
          split at hfr
          · rename_i hid
            split at hfr
            · rename_i sz row d hN
              cases hfr
              obtain ⟨rfl, hlen, hcn⟩ := hp
              obtain ⟨p, rfl⟩ : ∃ p, id = st.H.length + p := ⟨id - st.H.length, by omega⟩
              rw [Nat.add_sub_cancel_left] at hN hd
              have hpl : p < N.length := (List.getElem?_eq_some_iff.1 hN).1
              have hopF := opF_store (P := P) (all := all) (H := st.H) (st := st) (p := p) (sz := sz) (row := row) hio hg hdst hop hlk hcs hag hlen hcn
              have hput : st.put o.dst .un st.H = ⟨st.t, st.H⟩ := by rw [hdst]; rfl
              rw [hput] at hd
              have hl1 : ∀ q, look (⟨st.t, st.H⟩ : St).t q = if o.dst = some q then .un else look st.t q := fun q => by rw [hdst]; simp
              have hget : ∀ q, q ≠ p → (N.set p ⟨.cells 1 sz [splice row off cs], true, d⟩)[q]? = N[q]? := fun q hq => List.getElem?_set_ne (Ne.symm hq)
              have hself : (N.set p ⟨.cells 1 sz [splice row off cs], true, d⟩)[p]? = some ⟨.cells 1 sz [splice row off cs], true, d⟩ := List.getElem?_set_self hpl
              refine join ⟨st.t, st.H⟩ (N.set p ⟨.cells 1 sz [splice row off cs], true, d⟩) .un (some (false, p)) (fun z q => if q = p then .cells 1 sz [row] else z q) (fun f q => if q = p then .cells 1 sz [splice row off cs] else f q) rfl (by simp) hl1 ?_ hd ?_
              · obtain ⟨a, E, h1, h2, h3, h4⟩ := hlive
                refine ⟨a, E, h1, h2, h3, fun q hq => h4 q fun y hy => ?_⟩
                obtain ⟨j, hj, hjy⟩ := List.mem_iff_getElem.1 hy
                by_cases hjp : j = p
                · subst hjp
                  have : y = ⟨.cells 1 sz [row], false, d⟩ := by rw [← hjy]; have := List.getElem?_eq_getElem hj; rw [hN] at this; exact (Option.some.inj this).symm
                  rw [this]
                  exact hq ⟨.cells 1 sz [splice row off cs], true, d⟩ (List.mem_of_getElem? hself)
                · exact hq y (List.mem_of_getElem? (i := j) (by rw [hget j hjp, List.getElem?_eq_getElem hj, hjy]))
              · intro T role z f kt N' g1 g2 X g7
                simp at g2
                have noT : ∀ i q, role i = some (true, q) → q ≠ p := fun i q hr e => by
                  have := (X.c1 i q hr).2.2.1; simp at this; omega
                have noF : ∀ i q, role i = some (false, q) → q ≠ p := fun i q hr e => by
                  subst e
                  rcases (X.c3 i q hr).2.2.2 with ⟨y, oi, e1, e2, _⟩ | ⟨e0, _⟩
                  · rw [hself] at e1; cases e1; cases e2
                  · simp at e0; omega
                refine ⟨⟨?_, ?_, ?_, ?_, ?_, ?_, ?_⟩, ?_⟩
                · intro i q hr
                  by_cases hik : i = k
                  · subst hik; simp at hr
                  · simp only [hik, if_false] at hr
                    obtain ⟨q1, q2, q3, q4⟩ := X.c1 i q hr
                    simp at q3
                    exact ⟨by omega, q2, q3, q4⟩
                · intro i j q hr1 hr2
                  by_cases hik : i = k
                  · subst hik; simp at hr1
                  by_cases hjk : j = k
                  · subst hjk; simp at hr2
                  simp only [hik, if_false] at hr1
                  simp only [hjk, if_false] at hr2
                  exact X.c2 i j q hr1 hr2
                · intro i q hr
                  by_cases hik : i = k
                  · subst hik; simp at hr; subst hr
                    refine ⟨Nat.le_refl _, by omega, by omega, .inl ⟨_, o, hN, rfl, hio, ?_⟩⟩
                    simp only [namesOf, List.mem_filterMap]
                    exact ⟨.tmp d, by simp [hop, Op.operands], rfl⟩
                  · simp only [hik, if_false] at hr
                    obtain ⟨q1, q2, q3, q4⟩ := X.c3 i q hr
                    refine ⟨by omega, q2, q3, ?_⟩
                    rcases q4 with ⟨y, oi, e1, e2, e3, e4⟩ | ⟨e0, j, oj, oi, dd, e1, e2, e3, e4, e5, e6⟩
                    · rw [hget q (noF i q hr)] at e1
                      exact .inl ⟨y, oi, e1, e2, e3, e4⟩
                    · simp at e0
                      have hjk : j ≠ k := fun e => by have := (X.c1 j q e2).1; omega
                      exact .inr ⟨e0, j, oj, oi, dd, e1, by simp only [hjk, if_false]; exact e2, e3, e4, e5, e6⟩
                · intro i j q hr1 hr2
                  by_cases hik : i = k <;> by_cases hjk : j = k
                  · omega
                  · subst hik; simp at hr1; subst hr1
                    simp only [hjk, if_false] at hr2
                    exact (noF j _ hr2 rfl).elim
                  · subst hjk; simp at hr2; subst hr2
                    simp only [hik, if_false] at hr1
                    exact (noF i _ hr1 rfl).elim
                  · simp only [hik, if_false] at hr1
                    simp only [hjk, if_false] at hr2
                    exact X.c4 i j q hr1 hr2
                · intro q y hq
                  by_cases hqp : q = p
                  · subst hqp; rw [hN] at hq; cases hq; simp
                  · simp only [hqp, if_false]
                    exact X.cz q y (by rw [hget q hqp]; exact hq)
                · intro i b q hr
                  by_cases hik : i = k
                  · subst hik; exact ⟨o, hio, by rw [hop]; rfl⟩
                  · simp only [hik, if_false] at hr; exact X.c5 i b q hr
                · intro i oi h1 h2 h3
                  by_cases hik : i = k
                  · subst hik
                    rw [hio] at h3; cases h3
                    simp only [if_true, Nat.sub_self, tvF]
                    exact hopF
                  · have hsp := X.spec i oi (by omega) h2 h3
                    have e := specs ⟨st.t, st.H⟩ N .un T hl1 i (by omega)
                    have e2 : ∀ t, tvF all (fun m => if m = k then V.un else T m) (look st.t) k t (i - k) = tvF all T (look st.t) (k + 1) t (i - (k + 1)) := fun t => congrFun e t
                    simp only [hik, if_false, e2]
                    cases hr : role i with
                    | none => rw [hr] at hsp; exact hsp
                    | some bq =>
                      obtain ⟨bb, q⟩ := bq
                      rw [hr] at hsp
                      cases bb with
                      | true =>
                        have := noT i q hr
                        simp only [this, if_false]; exact hsp
                      | false =>
                        have := noF i q hr
                        simp only [this, if_false]; exact hsp
                · intro q y hq
                  rw [g7 q y hq]
                  have s1 : (∃ i, (k ≤ i ∧ i < kt) ∧ (if i = k then some (false, p) else role i) = some (false, q)) ↔ (q = p ∨ ∃ i, (k + 1 ≤ i ∧ i < kt) ∧ role i = some (false, q)) := by
                    constructor
                    · rintro ⟨i, hi, hr⟩
                      by_cases hik : i = k
                      · subst hik; simp at hr; exact .inl hr.symm
                      · simp only [hik, if_false] at hr
                        exact .inr ⟨i, by omega, hr⟩
                    · rintro (rfl | ⟨i, hi, hr⟩)
                      · exact ⟨k, by omega, by simp⟩
                      · exact ⟨i, by omega, by simp only [show ¬ i = k by omega, if_false]; exact hr⟩
                  have s2 : (∃ i, (k ≤ i ∧ i < kt) ∧ (if i = k then some (false, p) else role i) = some (true, q)) ↔ ∃ i, (k + 1 ≤ i ∧ i < kt) ∧ role i = some (true, q) := by
                    constructor
                    · rintro ⟨i, hi, hr⟩
                      by_cases hik : i = k
                      · subst hik; simp at hr
                      · simp only [hik, if_false] at hr
                        exact ⟨i, by omega, hr⟩
                    · rintro ⟨i, hi, hr⟩
                      exact ⟨i, by omega, by simp only [show ¬ i = k by omega, if_false]; exact hr⟩
                  by_cases hqp : q = p
                  · subst hqp
                    have n1 : ¬ ∃ i, (k + 1 ≤ i ∧ i < kt) ∧ role i = some (false, q) := by rintro ⟨i, _, hr⟩; exact noF i q hr rfl
                    have n2 : ¬ ∃ i, (k + 1 ≤ i ∧ i < kt) ∧ role i = some (true, q) := by rintro ⟨i, _, hr⟩; exact noT i q hr rfl
                    rw [gS_b n1 n2, gS_f (s1.2 (.inl rfl)), if_pos rfl]
                    simp [baseN, hself]
                  · exact gS_congr ⟨fun h => s1.2 (.inr h), fun h => (s1.1 h).elim (fun e => (hqp e).elim) id⟩ s2.symm (by simp [hqp]) (by simp [hqp]) (by simp only [baseN, hget q hqp])
            · cases hfr
          · cases hfr
        · cases hfr
      · cases hfr
    | none =>
      rw [hfr] at h
      cases heff : effT o.pos o.op with
      | true =>
        simp only [heff] at h
        obtain ⟨htail, hops⟩ := h
        have hk0 : all.size - (rest.length + 1) = k := by simp at hsz; omega
        rw [hk0] at htail
        refine ⟨fun _ => .un, fun _ => none, baseN N, baseN N, k, st, N, Nat.le_refl _, by omega, Nat.le_refl _, fun _ => htail, rfl, by simpa using hops, fun p x hp => ?_, ⟨?_, ?_, ?_, ?_, ?_, ?_, ?_⟩, fun t => by simp [tvF]⟩
        · simp [gS, baseN, hp]
        · intro i p hr; cases hr
        · intro i j p hr; cases hr
        · intro i p hr; cases hr
        · intro i j p hr; cases hr
        · intro p x hp; simp [baseN, hp]
        · intro i b p hr; cases hr
        · intro i o h1 h2; omega
      | false =>
        simp only [heff] at h
        obtain ⟨hunm, h⟩ := h
        have hun : ∀ t, t ∈ namesOf o → ∀ x ∈ N, x.d ≠ t := by
          intro t ht x hx e
          have := List.all_eq_true.1 (show List.all N _ = true from hunm) x hx
          subst e
          simp [ht] at this
        -- a quiet operation
        have fin : ∀ (st1 : St) (x : V), st1.H = st.H → (∀ t, look st1.t t = look st.t t) → OpQ P all st.H k o (look st.t) x → (∀ t, t ∈ namesOf o ∨ (∃ g w, o.guard = some (g, w) ∧ (all[g]?).bind (·.dst) = some t) → (look st.t t).lt st.H.length = true) →
            (∃ (a : Act) (E : Env), n ≤ a.tmps.size ∧ HRel E ∧ E.H = st.H ∧ (∀ t, t ∈ namesOf o ∨ (∃ g w, o.guard = some (g, w) ∧ (all[g]?).bind (·.dst) = some t) → VRel E (look st.t t) (a.tmps.getD t undef)) ∧ ∀ t, (∀ x ∈ N, x.d ≠ t) → VRel E (look st.t t) (a.tmps.getD t undef)) →
            awpDraw P all rest N (st1.put o.dst x st.H) K →
            ∃ (T : Nat → V) (role : Nat → Option (Bool × Nat)) (z f : Nat → O) (kt : Nat) (stE : St) (N' : List Fo), k ≤ kt ∧ kt ≤ all.size ∧ N.length ≤ N'.length ∧ (kt < all.size → tailP P all kt stE.t) ∧ stE.H = st.H ∧
              awpOps P all ((o :: rest).drop (kt - k)) ⟨stE.t, stE.H ++ N'.map Fo.o⟩ K ∧
              (∀ p x, N'[p]? = some x → x.o = gS z f (baseN N) role (fun i => k ≤ i ∧ i < kt) p) ∧
              Xt P all st.H N k kt N'.length (look st.t) T role z f ∧ ∀ t, look stE.t t = tvF all T (look st.t) k t (kt - k) := by
          intro st1 x hH hl hq hlt hlv hd
          have hl1 : ∀ t, look (st1.put o.dst x st.H).t t = if o.dst = some t then x else look st.t t := fun t => by rw [look_put, hl t]
          refine join (st1.put o.dst x st.H) N x none (fun z => z) (fun f => f) (by cases o.dst <;> rfl) (Nat.le_refl _) hl1 ?_ hd ?_
          · obtain ⟨a, E, hN, hE, hH0, hl0, hl2⟩ := hlv
            have := hq a E hE hH0 hl0 (fun a' w' => ∃ v E', E'.w = w' ∧ a' = a.put o.dst v ∧ VRel E' x v ∧ E'.H = st.H ∧ HRel E' ∧ Trans E E') (fun _ _ _ => False) (fun v E' h1 h2 h3 h4 => ⟨v, E', rfl, rfl, h1, h2, h3, h4⟩)
            obtain ⟨a', w', v, E', rfl, rfl, h1, h2, h3, h4⟩ := wpOp_some this
            refine ⟨a.put o.dst v, E', ?_, h3, by rw [h2]; cases o.dst <;> rfl, fun t ht => ?_⟩
            · cases hdd : o.dst <;> simpa [Act.put, hdd] using hN
            · rw [hl1]
              by_cases hdt : o.dst = some t
              · rw [if_pos hdt, hdt, getD_put (Nat.lt_of_lt_of_le (hod t hdt) hN), if_pos rfl]; exact h1
              · rw [if_neg hdt]
                have : (a.put o.dst v).tmps.getD t undef = a.tmps.getD t undef := by
                  cases hdd : o.dst with
                  | none => rfl
                  | some d => rw [getD_put (Nat.lt_of_lt_of_le (hod d hdd) hN), if_neg (by rintro rfl; exact hdt hdd)]
                rw [this]
                exact (hl2 t ht).trans h4
          · intro T role z f kt N' g1 g2 X g7
            have rk : ∀ b p, ¬ role k = some (b, p) := fun b p e => by
              cases b with
              | true => have := (X.c1 k p e).1; omega
              | false => have := (X.c3 k p e).1; omega
            have rr : (fun m => if m = k then none else role m) = role := by
              funext m
              split
              · rename_i e; subst e
                cases hr : role m with
                | none => rfl
                | some bp => obtain ⟨b, p⟩ := bp; exact (rk b p hr).elim
              · rfl
            rw [rr]
            refine ⟨⟨?_, X.c2, ?_, X.c4, X.cz, X.c5, ?_⟩, ?_⟩
            · intro i p hr; obtain ⟨q1, q2, q3, q4⟩ := X.c1 i p hr; exact ⟨by omega, q2, q3, q4⟩
            · intro i p hr; obtain ⟨q1, q2, q3, q4⟩ := X.c3 i p hr; exact ⟨by omega, q2, q3, q4⟩
            · intro i oi h1 h2 h3
              by_cases hik : i = k
              · subst hik
                rw [hio] at h3; cases h3
                have hr0 : role i = none := by
                  cases hr : role i with
                  | none => rfl
                  | some bp => obtain ⟨b, p⟩ := bp; exact (rk b p hr).elim
                simp only [hr0, if_true, Nat.sub_self, tvF]
                exact ⟨hq, hlt⟩
              · have hsp := X.spec i oi (by omega) h2 h3
                have e := specs _ N x T hl1 i (by omega)
                have e2 : ∀ t, tvF all (fun m => if m = k then x else T m) (look st.t) k t (i - k) = tvF all T (look (st1.put o.dst x st.H).t) (k + 1) t (i - (k + 1)) := fun t => congrFun e t
                simp only [hik, if_false, e2]
                exact hsp
            · intro p y hp
              rw [g7 p y hp]
              have sh : ∀ (b : Bool), (∃ i, (k ≤ i ∧ i < kt) ∧ role i = some (b, p)) ↔ ∃ i, (k + 1 ≤ i ∧ i < kt) ∧ role i = some (b, p) := by
                intro b
                constructor
                · rintro ⟨i, hi, hr⟩
                  have : i ≠ k := fun e => rk b p (e ▸ hr)
                  exact ⟨i, by omega, hr⟩
                · rintro ⟨i, hi, hr⟩; exact ⟨i, by omega, hr⟩
              exact gS_congr (sh false).symm (sh true).symm rfl rfl rfl
        have ltOf : ∀ t, t ∈ namesOf o → (look st.t t).lt st.H.length = true := by
          intro t ht
          obtain ⟨a, E, _, _, h3, h4⟩ := hlive
          have := (h4 t (hun t ht)).lt_len
          rwa [h3] at this
        simp only [guarded2] at h
        split at h
        · rename_i hg
          obtain ⟨x, hq, hd⟩ := awpQ_ok hio h (fun a E _ => by simp [Region.wanted, hg]) (by obtain ⟨a, E, _, h1, h2, h3⟩ := hlive; exact ⟨a, E, h1, h2, fun t ht => h3 t (hun t ht)⟩)
          refine fin st x rfl (fun _ => rfl) hq ?_ ?_ hd
          · rintro t (ht | ⟨g, w, hgg, _⟩)
            · exact ltOf t ht
            · rw [hg] at hgg; cases hgg
          · obtain ⟨a, E, h0, h1, h2, h3⟩ := hlive
            refine ⟨a, E, h0, h1, h2, ?_, h3⟩
            rintro t (ht | ⟨g, w, hgg, _⟩)
            · exact h3 t (hun t ht)
            · rw [hg] at hgg; cases hgg
        · rename_i j want hg
          split at h
          · rename_i d hdj
            -- the guard's own slot bears a truth
            have hgd : ∀ t, (∃ g w, o.guard = some (g, w) ∧ (all[g]?).bind (·.dst) = some t) → t = d := by
              rintro t ⟨g, w, hgg, hgt⟩
              rw [hg] at hgg; cases hgg
              rw [hdj] at hgt; exact (Option.some.inj hgt).symm
            split at h
            · rename_i b hb
              have hlvd : ∃ (a : Act) (E : Env), n ≤ a.tmps.size ∧ HRel E ∧ E.H = st.H ∧ (∀ t, t ∈ namesOf o ∨ (∃ g w, o.guard = some (g, w) ∧ (all[g]?).bind (·.dst) = some t) → VRel E (look st.t t) (a.tmps.getD t undef)) ∧ ∀ t, (∀ x ∈ N, x.d ≠ t) → VRel E (look st.t t) (a.tmps.getD t undef) := by
                obtain ⟨a, E, h0, h1, h2, h3⟩ := hlive
                by_cases hdN : ∀ x ∈ N, x.d ≠ d
                · refine ⟨a, E, h0, h1, h2, ?_, h3⟩
                  rintro t (ht | ht)
                  · exact h3 t (hun t ht)
                  · rw [hgd t ht]; exact h3 d hdN
                · -- the slot is a new object's: its value may be taken as it should be
                  refine ⟨{ a with tmps := a.tmps.setIfInBounds d (.bool b) }, E, by simpa using h0, h1, h2, ?_, ?_⟩
                  · rintro t (ht | ht)
                    · have hne : t ≠ d := fun e => hdN (e ▸ hun t ht)
                      have : (a.tmps.setIfInBounds d (.bool b)).getD t undef = a.tmps.getD t undef := by
                        simp only [Array.getD_eq_getD_getElem?, Array.getElem?_setIfInBounds, if_neg (Ne.symm hne)]
                      show VRel E _ ((a.tmps.setIfInBounds d (.bool b)).getD t undef)
                      rw [this]; exact h3 t (hun t ht)
                    · rw [hgd t ht, hb]
                      have hdn : d < a.tmps.size := by
                        refine Nat.lt_of_lt_of_le ?_ h0
                        cases hj : all[j]? with
                        | none => simp [hj] at hdj
                        | some oj => simp [hj] at hdj; exact hok oj (List.mem_of_getElem? (by simpa using hj)) d hdj
                      have : (a.tmps.setIfInBounds d (.bool b)).getD d undef = .bool b := by
                        simp [Array.getD_eq_getD_getElem?, hdn]
                      show VRel E _ ((a.tmps.setIfInBounds d (.bool b)).getD d undef)
                      rw [this]; exact .one .bool
                  · intro t ht
                    have hne : t ≠ d := fun e => hdN (e ▸ ht)
                    have : (a.tmps.setIfInBounds d (.bool b)).getD t undef = a.tmps.getD t undef := by
                      simp only [Array.getD_eq_getD_getElem?, Array.getElem?_setIfInBounds, if_neg (Ne.symm hne)]
                    show VRel E _ ((a.tmps.setIfInBounds d (.bool b)).getD t undef)
                    rw [this]; exact h3 t ht
              have hlt' : ∀ t, t ∈ namesOf o ∨ (∃ g w, o.guard = some (g, w) ∧ (all[g]?).bind (·.dst) = some t) → (look st.t t).lt st.H.length = true := by
                rintro t (ht | ht)
                · exact ltOf t ht
                · rw [hgd t ht, hb]; rfl
              have hy : ∀ (a : Act) (E : Env), (∀ t, t ∈ namesOf o ∨ (∃ g w, o.guard = some (g, w) ∧ (all[g]?).bind (·.dst) = some t) → VRel E (look st.t t) (a.tmps.getD t undef)) → yielded all a.tmps j = some b := by
                intro a E hl
                have := hl d (.inr ⟨j, want, hg, hdj⟩)
                rw [hb] at this
                exact yielded_of hdj (bool_inv (one_inv this))
              by_cases hbw : b = want
              · subst hbw
                have hl : ∀ t, look ((d, V.one (C.bool b)) :: st.t) t = look st.t t := look_assume hb
                obtain ⟨x, hq, hd⟩ := awpQ_ok (st := ⟨(d, .one (.bool b)) :: st.t, st.H⟩) hio (h.1 rfl)
                  (fun a E hh => by have := hy a E (fun t ht => by rw [← hl t]; exact hh t ht); simp [Region.wanted, hg, this]) (by obtain ⟨a, E, _, h1, h2, h3, _⟩ := hlvd; exact ⟨a, E, h1, h2, fun t ht => by simp only [hl]; exact h3 t (.inl ht)⟩)
                refine fin ⟨(d, .one (.bool b)) :: st.t, st.H⟩ x rfl hl ?_ hlt' hlvd hd
                have e : look ((d, V.one (C.bool b)) :: st.t) = look st.t := funext hl
                simp only [e] at hq
                exact hq
              · have hbn : b = !want := bool_ne hbw
                have hl : ∀ t, look ((d, V.one (C.bool (!want))) :: st.t) t = look st.t t := look_assume (by rw [hb, hbn])
                refine fin ⟨(d, .one (.bool (!want))) :: st.t, st.H⟩ (.tup []) rfl hl (fun a E hE hH hh Kn Q hn => ?_) hlt' hlvd (h.2 hbn)
                simp only [wpOp, hio]
                have hw : Region.wanted o (yielded all a.tmps) = false := by
                  simp only [Region.wanted, hg, hy a E hh]; simp [hbw]
                simp only [hw, Bool.false_eq_true, if_false]
                exact hn undef E (.tup rfl (by simp)) hH hE (Trans.refl E)
            · rename_i hb
              have hlvd : ∃ (a : Act) (E : Env), n ≤ a.tmps.size ∧ HRel E ∧ E.H = st.H ∧ (∀ t, t ∈ namesOf o ∨ (∃ g w, o.guard = some (g, w) ∧ (all[g]?).bind (·.dst) = some t) → VRel E (look st.t t) (a.tmps.getD t undef)) ∧ ∀ t, (∀ x ∈ N, x.d ≠ t) → VRel E (look st.t t) (a.tmps.getD t undef) := by
                obtain ⟨a, E, h0, h1, h2, h3⟩ := hlive
                by_cases hdN : ∀ x ∈ N, x.d ≠ d
                · refine ⟨a, E, h0, h1, h2, ?_, h3⟩
                  rintro t (ht | ht)
                  · exact h3 t (hun t ht)
                  · rw [hgd t ht]; exact h3 d hdN
                · refine ⟨{ a with tmps := a.tmps.setIfInBounds d (.tuple #[]) }, E, by simpa using h0, h1, h2, ?_, ?_⟩
                  · rintro t (ht | ht)
                    · have hne : t ≠ d := fun e => hdN (e ▸ hun t ht)
                      have : (a.tmps.setIfInBounds d (.tuple #[])).getD t undef = a.tmps.getD t undef := by
                        simp only [Array.getD_eq_getD_getElem?, Array.getElem?_setIfInBounds, if_neg (Ne.symm hne)]
                      show VRel E _ ((a.tmps.setIfInBounds d (.tuple #[])).getD t undef)
                      rw [this]; exact h3 t (hun t ht)
                    · rw [hgd t ht, hb]
                      have hdn : d < a.tmps.size := by
                        refine Nat.lt_of_lt_of_le ?_ h0
                        cases hj : all[j]? with
                        | none => simp [hj] at hdj
                        | some oj => simp [hj] at hdj; exact hok oj (List.mem_of_getElem? (by simpa using hj)) d hdj
                      have : (a.tmps.setIfInBounds d (.tuple #[])).getD d undef = .tuple #[] := by
                        simp [Array.getD_eq_getD_getElem?, hdn]
                      show VRel E _ ((a.tmps.setIfInBounds d (.tuple #[])).getD d undef)
                      rw [this]; exact .tup rfl (by simp)
                  · intro t ht
                    have hne : t ≠ d := fun e => hdN (e ▸ ht)
                    have : (a.tmps.setIfInBounds d (.tuple #[])).getD t undef = a.tmps.getD t undef := by
                      simp only [Array.getD_eq_getD_getElem?, Array.getElem?_setIfInBounds, if_neg (Ne.symm hne)]
                    show VRel E _ ((a.tmps.setIfInBounds d (.tuple #[])).getD t undef)
                    rw [this]; exact h3 t ht
              refine fin st (.tup []) rfl (fun _ => rfl) (fun a E hE hH hh Kn Q hn => ?_) ?_ hlvd h
              · simp only [wpOp, hio]
                have ht := hh d (.inr ⟨j, want, hg, hdj⟩)
                rw [hb] at ht
                have hv : a.tmps.getD d undef = .tuple #[] := by
                  generalize a.tmps.getD d undef = v at ht
                  cases ht with
                  | tup hn _ => congr 1; exact Array.eq_empty_of_size_eq_zero (by simpa using hn)
                have hw : Region.wanted o (yielded all a.tmps) = false := by simp [Region.wanted, hg, yielded_skip hdj hv]
                simp only [hw, Bool.false_eq_true, if_false]
                exact hn undef E (.tup rfl (by simp)) hH hE (Trans.refl E)
              · rintro t (ht | ht)
                · exact ltOf t ht
                · rw [hgd t ht, hb]; rfl
            · exact h.elim
          · exact h.elim

theorem directB_spec {ops : Array Oper} {i j : Nat} (h : directB ops i j = true) : ∃ o, ops[j]? = some o ∧ ∃ e ∈ o.after, Region.binds .any e = true ∧ e.on = i := by
  unfold directB at h
  split at h
  · rename_i o ho
    simp only [List.any_eq_true, Bool.and_eq_true, beq_iff_eq] at h
    obtain ⟨e, he, hb, rfl⟩ := h
    exact ⟨o, ho, e, by simpa using he, hb, rfl⟩
  · cases h

structure DrawOk (ops : Array Oper) : Prop where
  back : ∀ (j : Nat) (o : Oper), ops[j]? = some o → ∀ e ∈ o.after, Region.binds .any e = true → e.on < j
  guard : ∀ (j : Nat) (o : Oper) (g : Nat) (w : Bool), ops[j]? = some o → o.guard = some (g, w) → g < j ∧ directB ops g j = true
  war : ∀ (i j : Nat) (oi oj : Oper) (d : Nat), i < j → ops[i]? = some oi → ops[j]? = some oj →
    (oi.dst = some d ∧ (d ∈ namesOf oj ∨ oj.dst = some d ∨ ∃ g w, oj.guard = some (g, w) ∧ (ops[g]?).bind (·.dst) = some d)) ∨
    (oj.dst = some d ∧ (d ∈ namesOf oi ∨ ∃ g w, oi.guard = some (g, w) ∧ (ops[g]?).bind (·.dst) = some d)) → directB ops i j = true

theorem drawB_spec {ops : Array Oper} (h : drawB ops = true) : DrawOk ops := by
  unfold drawB at h
  rw [List.all_eq_true] at h
  refine ⟨fun j o hj e he hb => ?_, fun j o g w hj hg => ?_, fun i j oi oj d hij hi hj hc => ?_⟩
  · have hlt : j < ops.size := (Array.getElem?_eq_some_iff.1 hj).1
    have := h j (List.mem_range.2 hlt)
    simp only [hj, Bool.and_eq_true] at this
    have := this.1.1
    rw [List.all_eq_true] at this
    have := this e (by simpa using he)
    simpa [hb] using this
  · have hlt : j < ops.size := (Array.getElem?_eq_some_iff.1 hj).1
    have := h j (List.mem_range.2 hlt)
    simp only [hj, hg, Bool.and_eq_true, decide_eq_true_eq] at this
    exact this.1.2
  · have hlt : j < ops.size := (Array.getElem?_eq_some_iff.1 hj).1
    have := h j (List.mem_range.2 hlt)
    simp only [hj, Bool.and_eq_true] at this
    have h2 := this.2
    rw [List.all_eq_true] at h2
    have h3 := h2 i (List.mem_range.2 hij)
    simp only [hi] at h3
    cases hdir : directB ops i j with
    | true => rfl
    | false =>
      simp only [hdir, Bool.or_false, Bool.and_eq_true] at h3
      obtain ⟨⟨⟨h1, h4⟩, h2⟩, h3⟩ := h3
      rcases hc with ⟨hd, hc⟩ | ⟨hd, hc⟩
      · simp only [hd, Bool.not_eq_true', Bool.or_eq_false_iff] at h1
        rcases hc with hc | hc | ⟨g, w, hg, hgd⟩
        · have := h1.1; simp [hc] at this
        · have := h1.2; simp [hc] at this
        · simp only [hd, hg, hgd, Bool.not_eq_true'] at h4; simp at h4
      · rcases hc with hc | ⟨g, w, hg, hgd⟩
        · simp only [hd, Bool.not_eq_true'] at h2; simp [hc] at h2
        · simp only [hd, hg, hgd, Bool.not_eq_true'] at h3; simp at h3

theorem getD_set {listed : Array Bool} {i j : Nat} (hi : i < listed.size) : (listed.setIfInBounds i true).getD j false = (decide (i = j) || listed.getD j false) := by
  simp only [Array.getD_eq_getD_getElem?, Array.getElem?_setIfInBounds]
  by_cases e : i = j
  · subst e; simp [hi]
  · simp [e]

def unl (listed : Array Bool) : Nat := listed.toList.countP (· == false)

theorem unl_set {listed : Array Bool} {i : Nat} (hi : i < listed.size) (h : listed.getD i true = false) : unl (listed.setIfInBounds i true) + 1 = unl listed := by
  have hg : listed[i] = false := by simpa [Array.getD_eq_getD_getElem?, hi] using h
  unfold unl
  have hl : i < listed.toList.length := by simpa using hi
  have : listed.toList = listed.toList.take i ++ false :: listed.toList.drop (i + 1) := by
    rw [← hg]
    conv => lhs; rw [← List.take_append_drop i listed.toList]
    rw [List.drop_eq_getElem_cons hl]; simp
  have h2 : (listed.setIfInBounds i true).toList = listed.toList.take i ++ true :: listed.toList.drop (i + 1) := by
    rw [Array.toList_setIfInBounds, List.set_eq_take_append_cons_drop, if_pos hl]
  rw [h2]
  conv => rhs; rw [this]
  simp [List.countP_append, List.countP_cons]
  omega

theorem unl_zero {listed : Array Bool} (h : unl listed = 0) {j : Nat} (hj : j < listed.size) : listed.getD j false = true := by
  unfold unl at h
  rw [List.countP_eq_zero] at h
  have := h listed[j] (by simp)
  simpa [Array.getD_eq_getD_getElem?, hj] using this

/-- Of two operations the first comes ahead of the second, whatever the order. -/
inductive Before (ops : Array Oper) : Nat → Nat → Prop
  | one {i j : Nat} (h : directB ops i j = true) : Before ops i j
  | trans {i k j : Nat} (h : Before ops i k) (h2 : directB ops k j = true) : Before ops i j

theorem mem_union {a b : List Nat} {x : Nat} : x ∈ unionN a b ↔ x ∈ a ∨ x ∈ b := by
  unfold unionN
  simp only [List.mem_append, List.mem_filter]
  constructor
  · rintro (h | ⟨h, _⟩); exact .inl h; exact .inr h
  · rintro (h | h)
    · exact .inl h
    · by_cases hx : x ∈ a
      · exact .inl hx
      · exact .inr ⟨h, by simp [hx]⟩
theorem mem_foldl_union {β : Type} (g : β → List Nat) : ∀ (es : List β) (acc : List Nat) (x : Nat), x ∈ es.foldl (fun acc e => unionN acc (g e)) acc ↔ x ∈ acc ∨ ∃ e ∈ es, x ∈ g e
  | [], acc, x => by simp
  | e :: es, acc, x => by
    rw [List.foldl_cons, mem_foldl_union g es, mem_union]
    constructor
    · rintro ((h | h) | ⟨e', h1, h2⟩)
      · exact .inl h
      · exact .inr ⟨e, by simp, h⟩
      · exact .inr ⟨e', by simp [h1], h2⟩
    · rintro (h | ⟨e', h1, h2⟩)
      · exact .inl (.inl h)
      · rcases List.mem_cons.1 h1 with rfl | h1
        · exact .inl (.inr h2)
        · exact .inr ⟨e', h1, h2⟩

theorem preTab_go (ops : Array Oper) : ∀ (rest : List Oper) (tab : List (List Nat)) (k : Nat), tab.length = k → (∀ m, rest[m]? = ops[k + m]?) → (∀ j i, i ∈ tab.getD j [] → Before ops i j) →
    ∀ j i, i ∈ (rest.foldl preStep tab).getD j [] → Before ops i j
  | [], tab, k, hk, hr, ht, j, i, hi => ht j i hi
  | o :: rest, tab, k, hk, hr, ht, j, i, hi => by
    have ho : ops[k]? = some o := by simpa using (hr 0).symm
    refine preTab_go ops rest (preStep tab o) (k + 1) (by simp [preStep, hk]) (fun m => by have := hr (m + 1); simpa [Nat.add_assoc, Nat.add_comm 1] using this) (fun j i hi => ?_) j i hi
    rw [preStep, List.getD_eq_getElem?_getD, List.getElem?_append] at hi
    split at hi
    · exact ht j i (by rw [List.getD_eq_getElem?_getD]; exact hi)
    · rename_i hge
      by_cases hj : j = k
      · subst hj
        rw [hk, Nat.sub_self] at hi
        simp only [List.getElem?_cons_zero, Option.getD_some] at hi
        rw [mem_foldl_union] at hi
        rcases hi with hi | ⟨e, he, hi⟩
        · simp at hi
        · obtain ⟨he1, he2⟩ := List.mem_filter.1 he
          have hdir : directB ops e.on j = true := by
            unfold directB
            simp only [ho, List.any_eq_true, Bool.and_eq_true, beq_iff_eq]
            exact ⟨e, he1, he2, rfl⟩
          rcases List.mem_cons.1 hi with rfl | hi
          · exact .one hdir
          · exact .trans (ht _ _ hi) hdir
      · have : ∃ q, j - tab.length = q + 1 := ⟨j - tab.length - 1, by omega⟩
        obtain ⟨q, hq⟩ := this
        rw [hq] at hi
        simp at hi

theorem tailB_spec {ops : Array Oper} {k : Nat} (h : tailB ops k = true) : ∀ j, k ≤ j → j < ops.size → ∀ i, i < j → Before ops i j := by
  intro j hk hj i hi
  unfold tailB at h
  rw [List.all_eq_true] at h
  have := h j (List.mem_range.2 hj)
  simp only [Bool.or_eq_true, decide_eq_true_eq] at this
  rcases this with h1 | h1
  · omega
  · rw [List.all_eq_true] at h1
    have h2 := h1 i (List.mem_range.2 hi)
    refine preTab_go ops ops.toList [] 0 rfl (fun m => by simp) (fun j i hi => by simp at hi) j i ?_
    simpa [preTab] using h2

theorem Before.listed {ops : Array Oper} {listed : Array Bool} (hc : ∀ (j : Nat) (o : Oper), ops[j]? = some o → listed.getD j false = true → ∀ e ∈ o.after, Region.binds .any e = true → listed.getD e.on false = true) {i j : Nat} (h : Before ops i j) :
    listed.getD j false = true → listed.getD i false = true := by
  have one : ∀ {i j : Nat}, directB ops i j = true → listed.getD j false = true → listed.getD i false = true := by
    intro i j hdir hl
    obtain ⟨o, ho, e, he, hb, rfl⟩ := directB_spec hdir
    exact hc j o ho hl e he hb
  induction h with
  | one h => exact one h
  | trans h h2 ih => exact fun hl => ih (one h2 hl)
theorem Before.ready {ops : Array Oper} {listed : Array Bool} (hc : ∀ (j : Nat) (o : Oper), ops[j]? = some o → listed.getD j false = true → ∀ e ∈ o.after, Region.binds .any e = true → listed.getD e.on false = true) {i j : Nat} {o : Oper} (ho : ops[j]? = some o)
    (hr : ∀ e ∈ o.after, Region.binds .any e = true → listed.getD e.on false = true) (h : Before ops i j) : listed.getD i false = true := by
  have one : ∀ {i : Nat}, directB ops i j = true → listed.getD i false = true := by
    intro i hdir
    obtain ⟨o', ho', e, he, hb, rfl⟩ := directB_spec hdir
    rw [ho] at ho'; cases ho'
    exact hr e he hb
  cases h with
  | one h => exact one h
  | trans h h2 => exact h.listed hc (one h2)

theorem tail_any {P : Program} {ctx : Env} {n : Cf} {ops : Array Oper} {K : St → Prop} {Q : Exit → Act → World → Prop} {k0 : Nat} (hd : DrawOk ops) (hok : ∀ o ∈ ops.toList, ∀ d, o.dst = some d → d < n.n)
    (ht : ∀ j, k0 ≤ j → j < ops.size → ∀ i, i < j → Before ops i j) (hQ : ∀ st' a' E', K st' → SR ctx n st' a' E' → Q .normal a' E'.w) :
    ∀ (fuel j : Nat) (listed : Array Bool) (a : Act) (E : Env) (st : St), k0 ≤ j → j ≤ ops.size → listed.size = ops.size → unl listed ≤ fuel → (∀ i, i < ops.size → (listed.getD i false = true ↔ i < j)) → SR ctx n st a E → awpOps P ops (ops.toList.drop j) st K →
      wpAny P .any ops Q fuel listed a E.w := by
  have fin : ∀ (j : Nat) (listed : Array Bool) (a : Act) (E : Env) (st : St), (∀ i, i < ops.size → (listed.getD i false = true ↔ i < j)) → (∀ i, i < ops.size → listed.getD i false = true) → SR ctx n st a E → awpOps P ops (ops.toList.drop j) st K → Q .normal a E.w := by
    intro j listed a E st hl hall hS hw
    have : ops.toList.drop j = [] := by
      refine List.drop_eq_nil_of_le ?_
      rw [Array.length_toList]
      rcases Nat.lt_or_ge j ops.size with h | h
      · have := (hl j h).1 (hall j h); omega
      · exact h
    rw [this] at hw
    exact hQ st a E hw hS
  have closed : ∀ (j : Nat) (listed : Array Bool), j ≤ ops.size → (∀ i, i < ops.size → (listed.getD i false = true ↔ i < j)) → ∀ (q : Nat) (o : Oper), ops[q]? = some o → listed.getD q false = true → ∀ e ∈ o.after, Region.binds .any e = true → listed.getD e.on false = true := by
    intro j listed hj hl q o ho hq e he hb
    have hqs : q < ops.size := (Array.getElem?_eq_some_iff.1 ho).1
    have h1 := (hl q hqs).1 hq
    have h2 := hd.back q o ho e he hb
    exact (hl e.on (by omega)).2 (by omega)
  have nil : ∀ (j : Nat) (listed : Array Bool), listed.size = ops.size → j ≤ ops.size → (∀ i, i < ops.size → (listed.getD i false = true ↔ i < j)) → Region.ready .any ops listed = [] → ∀ i, i < ops.size → listed.getD i false = true := by
    intro j listed hs hj hl hr i hi
    rcases Nat.lt_or_ge j ops.size with h | h
    · exfalso
      have hmem : j ∈ Region.ready .any ops listed := by
        rw [mem_ready]
        have hlf : listed.getD j false = false := by
          cases hh : listed.getD j false with
          | false => rfl
          | true => have := (hl j h).1 hh; omega
        refine ⟨by simp only [Array.getD_eq_getD_getElem?] at hlf ⊢; rw [Array.getElem?_eq_getElem (by rw [hs]; exact h)] at hlf ⊢; simpa using hlf, ops[j], by simp [h], fun e he hb => ?_⟩
        have := hd.back j ops[j] (by simp [h]) e he hb
        exact (hl e.on (by omega)).2 this
      rw [hr] at hmem; cases hmem
    · exact (hl i hi).2 (by omega)
  intro fuel
  induction fuel with
  | zero =>
    intro j listed a E st hk hj hs hu hl hS hw
    have hall : ∀ i, i < ops.size → listed.getD i false = true := fun i hi => unl_zero (by omega) (by rw [hs]; exact hi)
    refine ⟨?_, fin j listed a E st hl hall hS hw⟩
    apply List.eq_nil_iff_forall_not_mem.2
    intro i hi
    rw [mem_ready] at hi
    obtain ⟨h1, o, ho, _⟩ := hi
    have hlt := (Array.getElem?_eq_some_iff.1 ho).1
    have h2 := hall i hlt
    simp only [Array.getD_eq_getD_getElem?, Array.getElem?_eq_getElem (show i < listed.size by rw [hs]; exact hlt)] at h1 h2
    simp_all
  | succ fuel ih =>
    intro j listed a E st hk hj hs hu hl hS hw
    refine ⟨fun hr => fin j listed a E st hl (nil j listed hs hj hl hr) hS hw, fun i hi => ?_⟩
    rw [mem_ready] at hi
    obtain ⟨hi0, o, ho, hafter⟩ := hi
    have hilt : i < ops.size := (Array.getElem?_eq_some_iff.1 ho).1
    have hils : i < listed.size := by rw [hs]; exact hilt
    have hif : listed.getD i false = false := by
      simp only [Array.getD_eq_getD_getElem?, Array.getElem?_eq_getElem hils] at hi0 ⊢; simpa using hi0
    have hge : j ≤ i := by
      rcases Nat.lt_or_ge i j with h | h
      · have := (hl i hilt).2 h; rw [hif] at this; cases this
      · exact h
    have hij : i = j := by
      rcases Nat.lt_or_eq_of_le hge with h | h
      · have := (ht i (by omega) hilt j h).ready (closed j listed hj hl) ho hafter
        have := (hl j (by omega)).1 this; omega
      · exact h.symm
    subst hij
    have hdrop : ops.toList.drop i = o :: ops.toList.drop (i + 1) := by
      rw [List.drop_eq_getElem_cons (by simpa using hilt)]
      congr 1
      have := Array.getElem?_eq_some_iff.1 ho
      obtain ⟨h1, h2⟩ := this
      simpa using h2
    rw [hdrop] at hw
    simp only [awpOps] at hw
    have hl' : ∀ q, q < ops.size → ((listed.setIfInBounds i true).getD q false = true ↔ q < i + 1) := by
      intro q hq
      rw [getD_set hils, Bool.or_eq_true, decide_eq_true_eq, hl q hq]; omega
    have hu' : unl (listed.setIfInBounds i true) ≤ fuel := by have := unl_set hils hi0; omega
    have hod := hok o (List.mem_of_getElem? (by simpa using ho))
    obtain ⟨st', hS', hcase⟩ := guarded2_ok hS hw
    simp only [wpOp, ho]
    rcases hcase with ⟨hwant, hx⟩ | ⟨hwant, hx⟩
    · simp only [hwant, if_true]
      left
      exact awpOp_ok hS' hod hx Q _ fun st2 a2 E2 hK hS2 => ih (i + 1) _ a2 E2 st2 (by omega) (by omega) (by simpa using hs) hu' hl' hS2 hK
    · simp only [hwant, Bool.false_eq_true, if_false]
      exact ih (i + 1) _ _ E _ (by omega) (by omega) (by simpa using hs) hu' hl' (hS'.skip2 hod) hx

/-- What holds when some operations have been carried out. -/
structure Inv (ctx : Env) (n : Nat) (ops : Array Oper) (T : Nat → V) (l0 : Nat → V) (H : List O) (M kt : Nat) (z f : Nat → O) (role : Nat → Option (Bool × Nat)) (listed : Array Bool) (a : Act) (E : Env) : Prop where
  size : listed.size = ops.size
  closed : ∀ (j : Nat) (o : Oper), ops[j]? = some o → listed.getD j false = true → ∀ e ∈ o.after, Region.binds .any e = true → listed.getD e.on false = true
  sub : ∀ j, listed.getD j false = true → j < kt
  len : n ≤ a.tmps.size
  defers : a.defers = []
  rel : HRel E
  H : E.H = H ++ (List.range M).map (gS z f (baseN []) role (fun j => listed.getD j false = true))
  tr : Trans ctx E
  tm : ∀ t, VRel E (tv ops T l0 (fun j => listed.getD j false = true) t ops.size) (a.tmps.getD t undef)

theorem range_set {M p : Nat} {g g' : Nat → O} {x : O} (hp : p < M) (h1 : g' p = x) (h2 : ∀ q, q ≠ p → g' q = g q) : (List.range M).map g' = ((List.range M).map g).set p x := by
  apply List.ext_getElem?
  intro q
  rw [List.getElem?_set]
  by_cases hqp : p = q
  · subst hqp
    rw [if_pos rfl, if_pos (by simpa using hp)]
    simp [hp, h1]
  · rw [if_neg hqp]
    simp only [List.getElem?_map]
    cases hq : (List.range M)[q]? with
    | none => rfl
    | some y =>
      have : y = q := by
        have := (List.getElem?_eq_some_iff.1 hq)
        obtain ⟨h, e⟩ := this
        simpa using e.symm
      subst this
      simp [h2 y (Ne.symm hqp)]

theorem draw_any {P : Program} {ctx : Env} {n : Nat} {ops : Array Oper} {T l0 : Nat → V} {H : List O} {Q : Exit → Act → World → Prop} {M kt : Nat} {z f : Nat → O} {role : Nat → Option (Bool × Nat)} (hd : DrawOk ops) (hok : ∀ o ∈ ops.toList, ∀ d, o.dst = some d → d < n)
    (hHl : ∀ o ∈ H, o.lt H.length = true) (X : Xt P ops H [] 0 kt M l0 T role z f) (hkt : kt ≤ ops.size) (late : Nat → Prop) (hbef : ∀ i j, kt ≤ j → j < ops.size → i < kt → ¬ late i → Before ops i j) (hrole : ∀ i, late i → role i = none)
    (hQ : ∀ (fuel : Nat) (listed : Array Bool) (a : Act) (E : Env), unl listed ≤ fuel → listed.size = ops.size → (∀ (j : Nat) (o : Oper), ops[j]? = some o → listed.getD j false = true → ∀ e ∈ o.after, Region.binds .any e = true → listed.getD e.on false = true) →
      (∀ i, listed.getD i false = true → i < kt) → (∀ i, i < kt → ¬ late i → listed.getD i false = true) → n ≤ a.tmps.size → a.defers = [] → HRel E →
      E.H = H ++ (List.range M).map (gS z f (baseN []) role (fun i => 0 ≤ i ∧ i < kt)) → Trans ctx E → (∀ t, (∀ j, j < kt → late j → listed.getD j false = false → (ops[j]?).bind (·.dst) ≠ some t) → VRel E (tv ops T l0 (fun _ => True) t kt) (a.tmps.getD t undef)) → wpAny P .any ops Q fuel listed a E.w) :
    ∀ (fuel : Nat) (listed : Array Bool) (a : Act) (E : Env), unl listed ≤ fuel → Inv ctx n ops T l0 H M kt z f role listed a E → wpAny P .any ops Q fuel listed a E.w := by
  have dstOf : ∀ {j t : Nat}, (ops[j]?).bind (·.dst) = some t → ∃ oj, ops[j]? = some oj ∧ oj.dst = some t := by
    intro j t h
    cases hj : ops[j]? with
    | none => simp [hj] at h
    | some oj => simp [hj] at h; exact ⟨oj, rfl, h⟩
  have done : ∀ (fuel : Nat) (listed : Array Bool) (a : Act) (E : Env), unl listed ≤ fuel → Inv ctx n ops T l0 H M kt z f role listed a E → (∀ j, j < kt → ¬ late j → listed.getD j false = true) → wpAny P .any ops Q fuel listed a E.w := by
    intro fuel listed a E hu hI hall
    refine hQ fuel listed a E hu hI.size hI.closed hI.sub hall hI.len hI.defers hI.rel ?_ hI.tr fun t ht => ?_
    · rw [hI.H]
      congr 2
      funext p
      have e : ∀ b, (∃ i, listed.getD i false = true ∧ role i = some (b, p)) ↔ ∃ i, (0 ≤ i ∧ i < kt) ∧ role i = some (b, p) := fun b => by
        constructor
        · rintro ⟨i, h1, h2⟩; exact ⟨i, ⟨Nat.zero_le _, hI.sub i h1⟩, h2⟩
        · rintro ⟨i, h1, h2⟩; exact ⟨i, hall i h1.2 (fun hl => by rw [hrole i hl] at h2; cases h2), h2⟩
      exact gS_congr (e false) (e true) rfl rfl rfl
    · have := hI.tm t
      rw [tv_skip (i := kt) hkt (fun j hj _ _ hl => by have := hI.sub j hl; omega)] at this
      rwa [tv_agree (fun j hj hd => ?_)] at this
      cases hl : listed.getD j false with
      | true => rfl
      | false =>
        by_cases hlj : late j
        · exact (ht j hj hlj hl hd).elim
        · rw [hall j hj hlj] at hl; cases hl
  intro fuel
  induction fuel with
  | zero =>
    intro listed a E hu hI
    exact done 0 listed a E hu hI fun j hj _ => unl_zero (by omega) (by rw [hI.size]; omega)
  | succ fuel ih =>
    intro listed a E hu hI
    by_cases hfull : ∀ j, j < kt → ¬ late j → listed.getD j false = true
    · exact done (fuel + 1) listed a E hu hI hfull
    refine ⟨fun hr => ?_, fun i hi => ?_⟩
    · exfalso
      apply hfull
      suffices hx : ∀ j, j < kt → listed.getD j false = true from fun j hj _ => hx j hj
      intro j
      induction j using Nat.strongRecOn with
      | _ j ihj =>
        intro hj
        cases hl : listed.getD j false with
        | true => rfl
        | false =>
          have hjs : j < ops.size := by omega
          have hmem : j ∈ Region.ready .any ops listed := by
            rw [mem_ready]
            refine ⟨by simp only [Array.getD_eq_getD_getElem?] at hl ⊢; rw [Array.getElem?_eq_getElem (by rw [hI.size]; exact hjs)] at hl ⊢; simpa using hl, ops[j], by simp [hjs], fun e he hb => ?_⟩
            have hlt := hd.back j ops[j] (by simp [hjs]) e he hb
            exact ihj e.on hlt (by omega)
          rw [hr] at hmem; cases hmem
    rw [mem_ready] at hi
    obtain ⟨hi0, o, ho, hafter⟩ := hi
    have hilt : i < ops.size := (Array.getElem?_eq_some_iff.1 ho).1
    have hils : i < listed.size := by rw [hI.size]; exact hilt
    have hif : listed.getD i false = false := by
      simp only [Array.getD_eq_getD_getElem?, Array.getElem?_eq_getElem hils] at hi0 ⊢; simpa using hi0
    have hod : ∀ d, o.dst = some d → d < n := hok o (List.mem_of_getElem? (by simpa using ho))
    have hikt : i < kt := by
      rcases Nat.lt_or_ge i kt with h | h
      · exact h
      · exfalso
        exact hfull fun j hj hlj => (hbef j i h hilt hj hlj).ready hI.closed ho hafter
    have later : ∀ j, directB ops i j = true → listed.getD j false = true → False := by
      intro j hdir hl
      obtain ⟨oj, hoj, e, he, hb, rfl⟩ := directB_spec hdir
      have := hI.closed j oj hoj hl e he hb
      rw [hif] at this; cases this
    have sooner : ∀ j, directB ops j i = true → listed.getD j false = true := by
      intro j hdir
      obtain ⟨oi, hoi, e, he, hb, rfl⟩ := directB_spec hdir
      rw [ho] at hoi; cases hoi
      exact hafter e he hb
    -- the operands
    have opn : ∀ t, t ∈ namesOf o ∨ (∃ g w, o.guard = some (g, w) ∧ (ops[g]?).bind (·.dst) = some t) → VRel E (tv ops T l0 (fun _ => True) t i) (a.tmps.getD t undef) := by
      intro t ht
      have h1 : tv ops T l0 (fun j => listed.getD j false = true) t ops.size = tv ops T l0 (fun j => listed.getD j false = true) t i := by
        refine tv_skip (Nat.le_of_lt hilt) fun j hij hj hdj hl => ?_
        obtain ⟨oj, hoj, hdj⟩ := dstOf hdj
        rcases Nat.lt_or_eq_of_le hij with hlt | rfl
        · refine later j (hd.war i j o oj t hlt ho hoj (.inr ⟨hdj, ?_⟩)) hl
          rcases ht with ht | ⟨g, w, hg, hgd⟩
          · exact .inl ht
          · exact .inr ⟨g, w, hg, hgd⟩
        · rw [hif] at hl; cases hl
      have h2 : tv ops T l0 (fun j => listed.getD j false = true) t i = tv ops T l0 (fun _ => True) t i := by
        refine tv_agree fun j hj hdj => ?_
        obtain ⟨oj, hoj, hdj⟩ := dstOf hdj
        rcases ht with ht | ⟨g, w, hg, hgd⟩
        · exact sooner j (hd.war j i oj o t hj hoj ho (.inl ⟨hdj, .inl ht⟩))
        · exact sooner j (hd.war j i oj o t hj hoj ho (.inl ⟨hdj, .inr (.inr ⟨g, w, hg, hgd⟩)⟩))
      have := hI.tm t
      rw [h1, h2] at this
      exact this
    have lF : ∀ t, tvF ops T l0 0 t (i - 0) = tv ops T l0 (fun _ => True) t i := fun t => by rw [Nat.sub_zero, tvF_zero]
    -- once it is carried out
    have next : ∀ v E', VRel E' (T i) v → E'.H = H ++ (List.range M).map (gS z f (baseN []) role (fun j => (listed.setIfInBounds i true).getD j false = true)) → HRel E' → Trans E E' → wpAny P .any ops Q fuel (listed.setIfInBounds i true) (a.put o.dst v) E'.w := by
      intro v E' hv hH' hh tr
      refine ih (listed.setIfInBounds i true) (a.put o.dst v) E' (by have := unl_set hils hi0; omega) ⟨by simp [hI.size], ?_, ?_, ?_, ?_, hh, hH', hI.tr.trans tr, ?_⟩
      · intro j oj hoj hl e he hb
        rw [getD_set hils] at hl ⊢
        rw [Bool.or_eq_true] at hl ⊢
        rcases hl with hl | hl
        · have : i = j := by simpa using hl
          subst this
          rw [ho] at hoj; cases hoj
          exact .inr (hafter e he hb)
        · exact .inr (hI.closed j oj hoj hl e he hb)
      · intro j hl
        rw [getD_set hils, Bool.or_eq_true] at hl
        rcases hl with hl | hl
        · have : i = j := by simpa using hl
          omega
        · exact hI.sub j hl
      · cases hdd : o.dst <;> simpa [Act.put, hdd] using hI.len
      · cases hdd : o.dst <;> simpa [Act.put, hdd] using hI.defers
      · intro t
        by_cases hdt : o.dst = some t
        · have htn := hod t hdt
          have hlt : t < a.tmps.size := Nat.lt_of_lt_of_le htn hI.len
          rw [hdt, getD_put hlt, if_pos rfl]
          have h1 : tv ops T l0 (fun j => (listed.setIfInBounds i true).getD j false = true) t ops.size = tv ops T l0 (fun j => (listed.setIfInBounds i true).getD j false = true) t (i + 1) := by
            refine tv_skip hilt fun j hij hj hdj hl => ?_
            obtain ⟨oj, hoj, hdj⟩ := dstOf hdj
            rw [getD_set hils, Bool.or_eq_true] at hl
            rcases hl with hl | hl
            · have : i = j := by simpa using hl
              omega
            · exact later j (hd.war i j o oj t (by omega) ho hoj (.inl ⟨hdt, .inr (.inl hdj)⟩)) hl
          rw [h1, tv, if_pos ⟨by rw [getD_set hils]; simp, by simp [ho, hdt]⟩]
          exact hv
        · have h1 : tv ops T l0 (fun j => (listed.setIfInBounds i true).getD j false = true) t ops.size = tv ops T l0 (fun j => listed.getD j false = true) t ops.size := by
            refine tv_congr fun j hj hdj => ?_
            obtain ⟨oj, hoj, hdj⟩ := dstOf hdj
            have hne : i ≠ j := by rintro rfl; rw [ho] at hoj; cases hoj; exact hdt hdj
            rw [getD_set hils]; simp [hne]
          rw [h1]
          have : (a.put o.dst v).tmps.getD t undef = a.tmps.getD t undef := by
            cases hdd : o.dst with
            | none => rfl
            | some d => rw [getD_put (Nat.lt_of_lt_of_le (hod d hdd) hI.len), if_neg (by rintro rfl; exact hdt hdd)]
          rw [this]
          exact (hI.tm t).trans tr
    have setS : ∀ q b, (∃ j, (listed.setIfInBounds i true).getD j false = true ∧ role j = some (b, q)) ↔ (role i = some (b, q) ∨ ∃ j, listed.getD j false = true ∧ role j = some (b, q)) := by
      intro q b
      constructor
      · rintro ⟨j, hj, hr⟩
        rw [getD_set hils, Bool.or_eq_true] at hj
        rcases hj with hj | hj
        · have : i = j := by simpa using hj
          subst this; exact .inl hr
        · exact .inr ⟨j, hj, hr⟩
      · rintro (hr | ⟨j, hj, hr⟩)
        · exact ⟨i, by rw [getD_set hils]; simp, hr⟩
        · exact ⟨j, by rw [getD_set hils, hj]; simp, hr⟩
    -- who made a new object comes ahead of who writes to it
    have maker : ∀ j q, role j = some (false, q) → ∃ j', role j' = some (true, q) ∧ directB ops j' j = true := by
      intro j q hr
      rcases (X.c3 j q hr).2.2.2 with ⟨x, _, hx, _⟩ | ⟨_, j', oj', oj, d, h1, h2, h3, h4, h5, h6⟩
      · simp at hx
      · exact ⟨j', h2, hd.war j' j oj' oj d h1 h3 h4 (.inl ⟨h5, .inl h6⟩)⟩
    have noI : ∀ b q, (∃ j, listed.getD j false = true ∧ role j = some (b, q)) → role i = some (b, q) → False := by
      rintro b q ⟨j, hj, hr⟩ hri
      have : j = i := by cases b with
        | true => exact X.c2 j i q hr hri
        | false => exact X.c4 j i q hr hri
      subst this; rw [hif] at hj; cases hj
    have hsp := X.spec i o (Nat.zero_le _) hikt ho
    cases hrole : role i with
    | none =>
      rw [hrole] at hsp
      obtain ⟨hq, hlt⟩ := hsp
      refine opQ_lift hq hI.rel hI.H hHl (fun t ht => ?_) fun v E' hv hH' hh tr => next v E' hv ?_ hh tr
      · have h1 := opn t ht
        have h2 := hlt t ht
        have e := lF t
        exact ⟨by rw [e]; exact h1, h2⟩
      · rw [hH']
        congr 2
        funext q
        have e : ∀ b, (∃ i, listed.getD i false = true ∧ role i = some (b, q)) ↔ ∃ j, (listed.setIfInBounds i true).getD j false = true ∧ role j = some (b, q) := fun b => by
          rw [setS q b, hrole]; simp
        exact gS_congr (e false) (e true) rfl rfl rfl
    | some bp =>
      obtain ⟨b, p⟩ := bp
      rw [hrole] at hsp
      have getM : ∀ (g : Nat → O), p < M → ((List.range M).map g)[p]? = some (g p) := fun g hp => by simp [hp]
      cases b with
      | true =>
        have hpM := (X.c1 i p hrole).2.2.2
        have n1 : ¬ ∃ j, listed.getD j false = true ∧ role j = some (false, p) := by
          rintro ⟨j, hj, hr⟩
          obtain ⟨j', h1, h2⟩ := maker j p hr
          have : j' = i := X.c2 j' i p h1 hrole
          subst this
          exact later j h2 hj
        have n2 : ¬ ∃ j, listed.getD j false = true ∧ role j = some (true, p) := fun h => noI true p h hrole
        have hg : gS z f (baseN []) role (fun j => listed.getD j false = true) p = .cells 0 0 [] := by
          rw [gS_b n1 n2]; rfl
        refine hsp a E _ hI.rel hI.H (by rw [getM _ hpM, hg]) (fun t ht => by have := opn t (.inl ht); rwa [← lF t] at this) _ Q fun v E' hv hH' hh tr => next v E' hv ?_ hh tr
        rw [hH']
        congr 1
        refine (range_set hpM ?_ fun q hq => ?_).symm
        · exact gS_z (fun h => ((setS p false).1 h).elim (fun e => by rw [hrole] at e; cases e) n1) ((setS p true).2 (.inl hrole))
        · have e : ∀ b, (∃ j, (listed.setIfInBounds i true).getD j false = true ∧ role j = some (b, q)) ↔ ∃ i, listed.getD i false = true ∧ role i = some (b, q) := fun b => by
            rw [setS q b, hrole]
            constructor
            · rintro (h | h)
              · simp at h; exact (hq h.2.symm).elim
              · exact h
            · exact .inr
          exact gS_congr (e false) (e true) rfl rfl rfl
      | false =>
        have hpM := (X.c3 i p hrole).2.2.1
        have n1 : ¬ ∃ j, listed.getD j false = true ∧ role j = some (false, p) := fun h => noI false p h hrole
        have n2 : ∃ j, listed.getD j false = true ∧ role j = some (true, p) := by
          obtain ⟨j', h1, h2⟩ := maker i p hrole
          exact ⟨j', sooner j' h2, h1⟩
        have hg : gS z f (baseN []) role (fun j => listed.getD j false = true) p = z p := by
          rw [gS_z n1 n2]
        refine hsp a E _ hI.rel hI.H (by rw [getM _ hpM, hg]) (fun t ht => by have := opn t (.inl ht); rwa [← lF t] at this) _ Q fun v E' hv hH' hh tr => next v E' hv ?_ hh tr
        rw [hH']
        congr 1
        refine (range_set hpM ?_ fun q hq => ?_).symm
        · exact gS_f ((setS p false).2 (.inl hrole))
        · have e : ∀ b, (∃ j, (listed.setIfInBounds i true).getD j false = true ∧ role j = some (b, q)) ↔ ∃ i, listed.getD i false = true ∧ role i = some (b, q) := fun b => by
            rw [setS q b, hrole]
            constructor
            · rintro (h | h)
              · simp at h; exact (hq h.2.symm).elim
              · exact h
            · exact .inr
          exact gS_congr (e false) (e true) rfl rfl rfl

end Go.Lz

end
section
/- LzM: regions that draw their order in which calls turn objects: sound. -/
namespace Go.Lz
set_option linter.unusedVariables false
set_option linter.unusedSimpArgs false

/-- What an operation does, whatever the place: a value, and the objects behind it. -/
def OpE (P : Program) (all : Array Oper) (H H1 : List O) (i : Nat) (o : Oper) (l : Nat → V) (x : V) : Prop :=
  ∀ (a : Act) (E : Env), HRel E → E.H = H → (∀ t, t ∈ namesOf o → VRel E (l t) (a.tmps.getD t undef)) →
    ∀ (K : Act → World → Prop) (Q : Exit → Act → World → Prop), (∀ v E', VRel E' x v → E'.H = H1 → HRel E' → Trans E E' → K (a.put o.dst v) E'.w) → wpOp P all Q i K a E.w

theorem opE_user {P : Program} {all : Array Oper} {i : Nat} {o : Oper} {st : St} {H1 : List O} {x : V} {f : Operand} {args : Array Operand} {ats : Array TypeId} {g : FuncId} {cap : List C} (hi : all[i]? = some o) (hg : o.guard = none)
    (hop : o.op = .call { callee := .value f, args, argTypes := ats }) (hf : st.ρ f = .one (.fn g cap)) (hc : Ct P g (args.toList.map st.ρ ++ cap.map V.one) st.H (fun v H' => v = x ∧ H' = H1)) : OpE P all st.H H1 i o (look st.t) x := by
  intro a E hE hH hl Kn Q hn
  have hwant : Region.wanted o (yielded all a.tmps) = true := by simp [Region.wanted, hg]
  simp only [wpOp, hi, hwant, if_true]
  have hρ : ∀ y ∈ o.op.operands, VRel E (st.ρ y) (a.eval y) := by
    intro y hy
    cases y with
    | tmp t => exact hl t (by simp only [namesOf, List.mem_filterMap]; exact ⟨.tmp t, by simpa using hy, rfl⟩)
    | const v => exact V.ofV_rel E v
    | global g => exact .un
    | func f => exact .one (.fn rfl (by simp))
  have hfr := hρ f (by simp [hop, Op.operands, Call.operands])
  rw [hf] at hfr
  obtain ⟨vs, hv, hvn, hvr⟩ := fn_inv hfr
  left
  unfold Oper.wp
  rw [callee_run hop hv hc.1]
  have hsz : (args.map a.eval ++ vs).size = (args.toList.map st.ρ ++ cap.map V.one).length := by simp [hvn]
  refine Calls.mono (hc.2 E (args.map a.eval ++ vs) hE hH hsz fun j y hj => ?_) ?_
  · rw [List.getElem?_append] at hj
    split at hj
    · rename_i hlt
      simp at hlt
      simp only [List.getElem?_map, Option.map_eq_some_iff] at hj
      obtain ⟨p, hp, rfl⟩ := hj
      have hp' : args[j]? = some p := by simpa using hp
      have : (args.map a.eval ++ vs).getD j undef = a.eval p := by
        rw [Array.getD_eq_getD_getElem?, Array.getElem?_append_left (by simpa using hlt), Array.getElem?_map, hp']; rfl
      rw [this]
      refine hρ p ?_
      simp only [hop, Op.operands, Call.operands]
      exact Array.mem_append.2 (.inr (Array.mem_of_getElem? hp'))
    · rename_i hlt
      simp at hlt
      simp only [List.getElem?_map, Option.map_eq_some_iff, List.length_map, Array.length_toList] at hj
      obtain ⟨c, hc, rfl⟩ := hj
      have : (args.map a.eval ++ vs).getD j undef = vs.getD (j - args.size) undef := by
        rw [Array.getD_eq_getD_getElem?, Array.getD_eq_getD_getElem?, Array.getElem?_append_right (by simpa using hlt)]; simp
      rw [this]; exact .one (hvr _ c hc)
  · rintro e w' ⟨v, y, E', rfl, rfl, ⟨rfl, hH'⟩, hx, hh, tr⟩
    exact hn v E' hx hH' hh tr
theorem opE_step {P : Program} {all : Array Oper} {i : Nat} {o : Oper} {st : St} {H : List O} (hi : all[i]? = some o) (hg : o.guard = none) (hp : (stepF P o.pos o.op st.ρ H).pre) :
    OpE P all H (stepF P o.pos o.op st.ρ H).h i o (look st.t) (stepF P o.pos o.op st.ρ H).v := by
  intro a E hE hH hl Kn Q hn
  have hwant : Region.wanted o (yielded all a.tmps) = true := by simp [Region.wanted, hg]
  have hst : st.ρ = (fun x => match x with | .tmp i => look st.t i | .const v => V.ofV v | .func f => .one (.fn f []) | .global _ => .un) := by
    funext x; cases x <;> rfl
  rw [hst, ← hH] at hp
  rw [hst, ← hH] at hn
  simp only [wpOp, hi, hwant, if_true]
  left
  obtain ⟨_, hwp⟩ := step_okQ (P := P) (o := o) (a := a) hE (fun t ht => hl t ht) hp
  exact hwp Kn Q fun v E' hv hH' hh tr => hn v E' hv hH' hh tr

/-- What is known of operation i. -/
structure FloAt (P : Program) (all : Array Oper) (S Fl FE : List Nat) (l : Nat → V) (T : Nat → V) (Hs : Nat → List O) (i : Nat) (o : Oper) : Prop where
  eff : effAt all i = true → OpE P all (Hs i) (Hs (i + 1)) i o l (T i)
  ag : FE.contains i = true → agree S (Hs i) (Hs (i + 1))
  quiet : effAt all i = false → Hs (i + 1) = Hs i
  one : effAt all i = false → OpE P all (Hs i) (Hs i) i o l (T i)
  flo : effAt all i = false → Fl.contains i = true → ∀ H', agree S (Hs i) H' → OpE P all H' H' i o l (T i)

theorem preTab_spec {ops : Array Oper} {i j : Nat} (h : i ∈ (preTab ops.toList).getD j []) : Before ops i j :=
  preTab_go ops ops.toList [] 0 rfl (fun m => by simp) (fun j i hi => by simp at hi) j i (by simpa [preTab] using h)
theorem floB_spec {all : Array Oper} (h : floB all = true) : (∀ (j : Nat) (o : Oper), all[j]? = some o → o.guard = none) ∧ ∀ (i j : Nat), i < j → j < all.size → effAt all i = true → effAt all j = true → ((preTab all.toList).getD j []).contains i = true := by
  unfold floB at h
  rw [List.all_eq_true] at h
  refine ⟨fun j o hj => ?_, fun i j hij hj hi hje => ?_⟩
  · have hlt : j < all.size := (Array.getElem?_eq_some_iff.1 hj).1
    have := h j (List.mem_range.2 hlt)
    simp only [hj, Bool.and_eq_true] at this
    simpa using this.1
  · have := h j (List.mem_range.2 hj)
    rw [Bool.and_eq_true] at this
    have h2 := this.2
    rw [hje] at h2
    simp only [Bool.not_true, Bool.false_or, List.all_eq_true] at h2
    have := h2 i (List.mem_range.2 hij)
    simpa [hi] using this

theorem flo_extract {P : Program} {all : Array Oper} {S Fl FE : List Nat} {K : St → Prop} (hg : ∀ (j : Nat) (o : Oper), all[j]? = some o → o.guard = none) : ∀ (rest : List Oper) (k : Nat) (st : St), (∀ m, rest[m]? = all[k + m]?) → k + rest.length = all.size → awpF P S Fl FE k rest st K →
    ∃ (T : Nat → V) (Hs : Nat → List O) (stE : St), Hs k = st.H ∧ (∀ (i : Nat) (o : Oper), k ≤ i → all[i]? = some o → FloAt P all S Fl FE (fun t => tvF all T (look st.t) k t (i - k)) T Hs i o) ∧ K stE ∧ stE.H = Hs all.size ∧ ∀ t, look stE.t t = tvF all T (look st.t) k t (all.size - k)
  | [], k, st, hr, hn, h => by
    simp at hn
    refine ⟨fun _ => .un, fun _ => st.H, st, rfl, fun i o hi ho => ?_, h, rfl, fun t => ?_⟩
    · have := (Array.getElem?_eq_some_iff.1 ho).1; omega
    · rw [hn, Nat.sub_self]; rfl
  | o :: rest, k, st, hr, hn, h => by
    have ho : all[k]? = some o := by have := hr 0; simpa using this.symm
    have hr' : ∀ m, rest[m]? = all[k + 1 + m]? := fun m => by have := hr (m + 1); simpa [Nat.add_assoc, Nat.add_comm 1 m] using this
    have hn' : k + 1 + rest.length = all.size := by simp at hn; omega
    have hgk := hg k o ho
    have hix : all.size - (rest.length + 1) = k := by omega
    have heff : effAt all k = effF o.op := by simp [effAt, ho]
    -- the operation, and what is behind it
    obtain ⟨x, H1, hE, hA, hQ, hO, hF, hrest⟩ : ∃ x H1, (effF o.op = true → OpE P all st.H H1 k o (look st.t) x) ∧ (FE.contains k = true → agree S st.H H1) ∧ (effF o.op = false → H1 = st.H) ∧ (effF o.op = false → OpE P all st.H st.H k o (look st.t) x) ∧
        (effF o.op = false → Fl.contains k = true → ∀ H', agree S st.H H' → OpE P all H' H' k o (look st.t) x) ∧ awpF P S Fl FE (k + 1) rest (st.put o.dst x H1) K := by
      simp only [awpF] at h
      cases he : effF o.op with
      | true =>
        rw [he] at h
        simp only at h
        split at h
        · rename_i f args ats hop
          split at h
          · rename_i g cap hf
            obtain ⟨x, H1, hc, ha, hk⟩ := h
            exact ⟨x, H1, fun _ => opE_user ho hgk hop hf hc, ha, fun h => (by cases h), fun h => (by cases h), fun h => (by cases h), hk⟩
          · exact h.elim
        · obtain ⟨hp, ha, hk⟩ := h
          exact ⟨_, _, fun _ => opE_step ho hgk hp, ha, fun h => (by cases h), fun h => (by cases h), fun h => (by cases h), hk⟩
      | false =>
        rw [he] at h
        simp only at h
        obtain ⟨hp, hh, hfl, hk⟩ := h
        refine ⟨_, st.H, fun h => (by cases h), fun _ _ _ => rfl, fun _ => rfl, fun _ => ?_, fun _ hf H' hag => ?_, hk⟩
        · have := opE_step (st := st) ho hgk hp
          rwa [hh] at this
        · obtain ⟨q1, q2, q3⟩ := hfl hf H' hag
          have := opE_step (st := st) ho hgk q1
          rwa [q2, q3] at this
    obtain ⟨T, Hs, stE, e1, e2, e3, e4, e5⟩ := flo_extract hg rest (k + 1) (st.put o.dst x H1) hr' hn' hrest
    have hput : ∀ t, look (st.put o.dst x H1).t t = if (all[k]?).bind (·.dst) = some t then x else look st.t t := fun t => by rw [look_put, ho]; rfl
    have e1' : Hs (k + 1) = H1 := by rw [e1]; cases o.dst <;> rfl
    refine ⟨fun i => if i = k then x else T i, fun i => if i = k then st.H else Hs i, stE, by simp, fun i oi hi hoi => ?_, e3, ?_, fun t => ?_⟩
    · by_cases hik : i = k
      · subst hik
        rw [ho] at hoi; cases hoi
        have l0 : (fun t => tvF all (fun j => if j = i then x else T j) (look st.t) i t (i - i)) = look st.t := by funext t; rw [Nat.sub_self]; rfl
        rw [l0]
        have n1 : i + 1 ≠ i := by omega
        refine ⟨fun h => ?_, fun ha => ?_, fun h => ?_, fun h => ?_, fun h hf H' hag => ?_⟩
        · simp only [if_true, if_neg n1, e1']; exact hE (by rw [← heff]; exact h)
        · simp only [if_true, if_neg n1, e1']; exact hA ha
        · simp only [if_true, if_neg n1, e1']; exact hQ (by rw [← heff]; exact h)
        · simp only [if_true]; exact hO (by rw [← heff]; exact h)
        · simp only [if_true] at hag ⊢; exact hF (by rw [← heff]; exact h) hf H' hag
      · have hlt : k + 1 ≤ i := by omega
        have F := e2 i oi hlt hoi
        have lE : (fun t => tvF all (fun j => if j = k then x else T j) (look st.t) k t (i - k)) = fun t => tvF all T (look (st.put o.dst x H1).t) (k + 1) t (i - (k + 1)) := by
          funext t
          rw [show i - k = (i - (k + 1)) + 1 by omega, tvF_shift]
          simp only [if_true]
          rw [tvF_congr (l' := look (st.put o.dst x H1).t) (fun t => (hput t).symm)]
          exact tvF_congrT fun m hm => by rw [if_neg (by omega)]
        rw [lE]
        have n1 : i + 1 ≠ k := by omega
        refine ⟨fun h => ?_, fun ha => ?_, fun h => ?_, fun h => ?_, fun h hf H' hag => ?_⟩
        · simp only [if_neg hik, if_neg n1]; exact F.eff h
        · simp only [if_neg hik, if_neg n1]; exact F.ag ha
        · simp only [if_neg hik, if_neg n1]; exact F.quiet h
        · simp only [if_neg hik]; exact F.one h
        · simp only [if_neg hik] at hag ⊢; exact F.flo h hf H' hag
    · have : all.size ≠ k := by have := (Array.getElem?_eq_some_iff.1 ho).1; omega
      simp only [if_neg this]; exact e4
    · rw [e5]
      have hlt := (Array.getElem?_eq_some_iff.1 ho).1
      rw [show all.size - k = (all.size - (k + 1)) + 1 by omega, tvF_shift]
      simp only [if_true]
      rw [tvF_congr (l' := look (st.put o.dst x H1).t) (fun t => (hput t).symm)]
      exact (tvF_congrT fun m hm => by rw [if_neg (by omega)]).symm

theorem flo_any {P : Program} {ctx : Env} {n : Nat} {ops : Array Oper} {T l0 : Nat → V} {S Fl FE : List Nat} {Hs : Nat → List O} {Q : Exit → Act → World → Prop} (hd : DrawOk ops) (hfb : floB ops = true) (hfl0 : floL ops Fl FE = true) (hok : ∀ o ∈ ops.toList, ∀ d, o.dst = some d → d < n)
    (X : ∀ (i : Nat) (o : Oper), ops[i]? = some o → FloAt P ops S Fl FE (fun t => tv ops T l0 (fun _ => True) t i) T Hs i o)
    (hQ : ∀ (a : Act) (E : Env), n ≤ a.tmps.size → a.defers = [] → HRel E → E.H = Hs ops.size → Trans ctx E → (∀ t, VRel E (tv ops T l0 (fun _ => True) t ops.size) (a.tmps.getD t undef)) → Q .normal a E.w) :
    ∀ (fuel : Nat) (listed : Array Bool) (a : Act) (E : Env), unl listed ≤ fuel → listed.size = ops.size → (∀ (j : Nat) (o : Oper), ops[j]? = some o → listed.getD j false = true → ∀ e ∈ o.after, Region.binds .any e = true → listed.getD e.on false = true) →
      n ≤ a.tmps.size → a.defers = [] → HRel E → (∃ m, m ≤ ops.size ∧ E.H = Hs m ∧ (∀ e, e < m → effAt ops e = true → listed.getD e false = true) ∧ ∀ e, m ≤ e → effAt ops e = true → listed.getD e false = false) → Trans ctx E →
      (∀ t, VRel E (tv ops T l0 (fun j => listed.getD j false = true) t ops.size) (a.tmps.getD t undef)) → wpAny P .any ops Q fuel listed a E.w := by
  obtain ⟨hg, hchain⟩ := floB_spec hfb
  have dstOf : ∀ {j t : Nat}, (ops[j]?).bind (·.dst) = some t → ∃ oj, ops[j]? = some oj ∧ oj.dst = some t := by
    intro j t h
    cases hj : ops[j]? with
    | none => simp [hj] at h
    | some oj => simp [hj] at h; exact ⟨oj, rfl, h⟩
  have pre : ∀ {i j : Nat}, ((preTab ops.toList).getD j []).contains i = true → Before ops i j := fun {i j} h => preTab_spec (by simpa using h)
  have before_lt : ∀ {i j : Nat}, Before ops i j → i < j := by
    intro i j h
    have one : ∀ {i j : Nat}, directB ops i j = true → i < j := fun {i j} hdir => by
      obtain ⟨o, ho, e, he, hb, rfl⟩ := directB_spec hdir
      exact hd.back j o ho e he hb
    induction h with
    | one h => exact one h
    | trans h h2 ih => exact Nat.lt_trans ih (one h2)
  have const : ∀ {a b : Nat}, a ≤ b → b ≤ ops.size → (∀ e, a ≤ e → e < b → effAt ops e = false) → Hs b = Hs a := by
    intro a b hab
    induction hab with
    | refl => intro _ _; rfl
    | @step b hab ih =>
      intro hb hq
      have hb' : b < ops.size := hb
      have := (X b ops[b] (by simp [hb'])).quiet (hq b hab (Nat.lt_succ_self b))
      rw [this]
      exact ih (Nat.le_of_lt hb') fun e h1 h2 => hq e h1 (Nat.lt_succ_of_lt h2)
  have flE : ∀ e, e < ops.size → effAt ops e = true → floE ops e = true → FE.contains e = true := fun e he hee hf => by
    unfold floL at hfl0
    have := List.all_eq_true.1 hfl0 e (List.mem_range.2 he)
    rw [hee, hf] at this
    simpa using this
  have flQ : ∀ i, i < ops.size → effAt ops i = false → floQ ops i = true → Fl.contains i = true := fun i hi hie hf => by
    unfold floL at hfl0
    have := List.all_eq_true.1 hfl0 i (List.mem_range.2 hi)
    rw [hie, hf] at this
    simpa using this
  have agc : ∀ {a b : Nat}, a ≤ b → b ≤ ops.size → (∀ e, a ≤ e → e < b → effAt ops e = true → floE ops e = true) → ∀ i ∈ S, (Hs b)[i]? = (Hs a)[i]? := by
    intro a b hab
    induction hab with
    | refl => intro _ _ i _; rfl
    | @step b hab ih =>
      intro hb hq i hi
      have hb' : b < ops.size := hb
      have hX := X b ops[b] (by simp [hb'])
      have : (Hs (b + 1))[i]? = (Hs b)[i]? := by
        cases hee : effAt ops b with
        | true => exact hX.ag (flE b hb' hee (hq b hab (Nat.lt_succ_self b) hee)) i hi
        | false => rw [hX.quiet hee]
      rw [this]
      exact ih (Nat.le_of_lt hb') (fun e h1 h2 => hq e h1 (Nat.lt_succ_of_lt h2)) i hi
  have fin : ∀ (listed : Array Bool) (a : Act) (E : Env), n ≤ a.tmps.size → a.defers = [] → HRel E → (∃ m, m ≤ ops.size ∧ E.H = Hs m ∧ (∀ e, e < m → effAt ops e = true → listed.getD e false = true) ∧ ∀ e, m ≤ e → effAt ops e = true → listed.getD e false = false) → Trans ctx E →
      (∀ t, VRel E (tv ops T l0 (fun j => listed.getD j false = true) t ops.size) (a.tmps.getD t undef)) → (∀ i, i < ops.size → listed.getD i false = true) → Q .normal a E.w := by
    rintro listed a E hlen hdf hE ⟨m, hm, hH, h1, h2⟩ tr htm hall
    refine hQ a E hlen hdf hE ?_ tr fun t => ?_
    · rw [hH]
      refine (const hm (Nat.le_refl _) fun e he hlt => ?_).symm
      cases hef : effAt ops e with
      | false => rfl
      | true => have := h2 e he hef; rw [hall e hlt] at this; cases this
    · have := htm t
      rwa [tv_agree (fun j hj _ => hall j hj)] at this
  have nil : ∀ (listed : Array Bool), listed.size = ops.size → Region.ready .any ops listed = [] → ∀ i, i < ops.size → listed.getD i false = true := by
    intro listed hs hr j
    induction j using Nat.strongRecOn with
    | _ j ihj =>
      intro hj
      cases hl : listed.getD j false with
      | true => rfl
      | false =>
        have hmem : j ∈ Region.ready .any ops listed := by
          rw [mem_ready]
          refine ⟨by simp only [Array.getD_eq_getD_getElem?] at hl ⊢; rw [Array.getElem?_eq_getElem (by rw [hs]; exact hj)] at hl ⊢; simpa using hl, ops[j], by simp [hj], fun e he hb => ?_⟩
          have hlt := hd.back j ops[j] (by simp [hj]) e he hb
          exact ihj e.on hlt (by omega)
        rw [hr] at hmem; cases hmem
  intro fuel
  induction fuel with
  | zero =>
    intro listed a E hu hs hc hlen hdf hE hm tr htm
    have hall : ∀ i, i < ops.size → listed.getD i false = true := fun i hi => unl_zero (by omega) (by rw [hs]; exact hi)
    refine ⟨?_, fin listed a E hlen hdf hE hm tr htm hall⟩
    apply List.eq_nil_iff_forall_not_mem.2
    intro i hi
    rw [mem_ready] at hi
    obtain ⟨h1, o, ho, _⟩ := hi
    have hlt := (Array.getElem?_eq_some_iff.1 ho).1
    have h2 := hall i hlt
    simp only [Array.getD_eq_getD_getElem?, Array.getElem?_eq_getElem (show i < listed.size by rw [hs]; exact hlt)] at h1 h2
    simp_all
  | succ fuel ih =>
    intro listed a E hu hs hc hlen hdf hE hm tr htm
    refine ⟨fun hr => fin listed a E hlen hdf hE hm tr htm (nil listed hs hr), fun i hi => ?_⟩
    rw [mem_ready] at hi
    obtain ⟨hi0, o, ho, hafter⟩ := hi
    have hilt : i < ops.size := (Array.getElem?_eq_some_iff.1 ho).1
    have hils : i < listed.size := by rw [hs]; exact hilt
    have hif : listed.getD i false = false := by
      simp only [Array.getD_eq_getD_getElem?, Array.getElem?_eq_getElem hils] at hi0 ⊢; simpa using hi0
    have hod : ∀ d, o.dst = some d → d < n := hok o (List.mem_of_getElem? (by simpa using ho))
    have later : ∀ j, directB ops i j = true → listed.getD j false = true → False := by
      intro j hdir hl
      obtain ⟨oj, hoj, e, he, hb, rfl⟩ := directB_spec hdir
      have := hc j oj hoj hl e he hb
      rw [hif] at this; cases this
    have sooner : ∀ j, directB ops j i = true → listed.getD j false = true := by
      intro j hdir
      obtain ⟨oi, hoi, e, he, hb, rfl⟩ := directB_spec hdir
      rw [ho] at hoi; cases hoi
      exact hafter e he hb
    have opn : ∀ t, t ∈ namesOf o → VRel E (tv ops T l0 (fun _ => True) t i) (a.tmps.getD t undef) := by
      intro t ht
      have h1 : tv ops T l0 (fun j => listed.getD j false = true) t ops.size = tv ops T l0 (fun j => listed.getD j false = true) t i := by
        refine tv_skip (Nat.le_of_lt hilt) fun j hij hj hdj hl => ?_
        obtain ⟨oj, hoj, hdj⟩ := dstOf hdj
        rcases Nat.lt_or_eq_of_le hij with hlt | rfl
        · exact later j (hd.war i j o oj t hlt ho hoj (.inr ⟨hdj, .inl ht⟩)) hl
        · rw [hif] at hl; cases hl
      have h2 : tv ops T l0 (fun j => listed.getD j false = true) t i = tv ops T l0 (fun _ => True) t i := by
        refine tv_agree fun j hj hdj => ?_
        obtain ⟨oj, hoj, hdj⟩ := dstOf hdj
        exact sooner j (hd.war j i oj o t hj hoj ho (.inl ⟨hdj, .inl ht⟩))
      have := htm t
      rw [h1, h2] at this
      exact this
    have next : ∀ v E', VRel E' (T i) v → (∃ m, m ≤ ops.size ∧ E'.H = Hs m ∧ (∀ e, e < m → effAt ops e = true → (listed.setIfInBounds i true).getD e false = true) ∧ ∀ e, m ≤ e → effAt ops e = true → (listed.setIfInBounds i true).getD e false = false) →
        HRel E' → Trans E E' → wpAny P .any ops Q fuel (listed.setIfInBounds i true) (a.put o.dst v) E'.w := by
      intro v E' hv hm' hh tr'
      refine ih (listed.setIfInBounds i true) (a.put o.dst v) E' (by have := unl_set hils hi0; omega) (by simp [hs]) ?_ ?_ ?_ hh hm' (tr.trans tr') ?_
      · intro j oj hoj hl e he hb
        rw [getD_set hils] at hl ⊢
        rw [Bool.or_eq_true] at hl ⊢
        rcases hl with hl | hl
        · have : i = j := by simpa using hl
          subst this
          rw [ho] at hoj; cases hoj
          exact .inr (hafter e he hb)
        · exact .inr (hc j oj hoj hl e he hb)
      · cases hdd : o.dst <;> simpa [Act.put, hdd] using hlen
      · cases hdd : o.dst <;> simpa [Act.put, hdd] using hdf
      · intro t
        by_cases hdt : o.dst = some t
        · have htn := hod t hdt
          have hlt : t < a.tmps.size := Nat.lt_of_lt_of_le htn hlen
          rw [hdt, getD_put hlt, if_pos rfl]
          have h1 : tv ops T l0 (fun j => (listed.setIfInBounds i true).getD j false = true) t ops.size = tv ops T l0 (fun j => (listed.setIfInBounds i true).getD j false = true) t (i + 1) := by
            refine tv_skip hilt fun j hij hj hdj hl => ?_
            obtain ⟨oj, hoj, hdj⟩ := dstOf hdj
            rw [getD_set hils, Bool.or_eq_true] at hl
            rcases hl with hl | hl
            · have : i = j := by simpa using hl
              omega
            · exact later j (hd.war i j o oj t (by omega) ho hoj (.inl ⟨hdt, .inr (.inl hdj)⟩)) hl
          rw [h1, tv, if_pos ⟨by rw [getD_set hils]; simp, by simp [ho, hdt]⟩]
          exact hv
        · have h1 : tv ops T l0 (fun j => (listed.setIfInBounds i true).getD j false = true) t ops.size = tv ops T l0 (fun j => listed.getD j false = true) t ops.size := by
            refine tv_congr fun j hj hdj => ?_
            obtain ⟨oj, hoj, hdj⟩ := dstOf hdj
            have hne : i ≠ j := by rintro rfl; rw [ho] at hoj; cases hoj; exact hdt hdj
            rw [getD_set hils]; simp [hne]
          rw [h1]
          have : (a.put o.dst v).tmps.getD t undef = a.tmps.getD t undef := by
            cases hdd : o.dst with
            | none => rfl
            | some d => rw [getD_put (Nat.lt_of_lt_of_le (hod d hdd) hlen), if_neg (by rintro rfl; exact hdt hdd)]
          rw [this]
          exact (htm t).trans tr'
    obtain ⟨m, hmle, hH, h1, h2⟩ := hm
    have Xi := X i o ho
    have setE : ∀ e, effAt ops e = true → e ≠ i → (listed.setIfInBounds i true).getD e false = listed.getD e false := fun e _ hne => by rw [getD_set hils]; simp [Ne.symm hne]
    cases hef : effAt ops i with
    | true =>
      have below : ∀ e, e < i → effAt ops e = true → listed.getD e false = true := fun e he hee => (pre (hchain e i he hilt hee hef)).ready hc ho hafter
      have above : ∀ e, i < e → effAt ops e = true → listed.getD e false = false := fun e he hee => by
        cases hl : listed.getD e false with
        | false => rfl
        | true =>
          have hes : e < ops.size := by
            unfold effAt at hee
            cases hoe : ops[e]? with
            | none => rw [hoe] at hee; cases hee
            | some oe => exact (Array.getElem?_eq_some_iff.1 hoe).1
          have := (pre (hchain i e he hes hef hee)).listed hc hl
          rw [hif] at this; cases this
      have hHi : E.H = Hs i := by
        rw [hH]
        rcases Nat.le_total m i with h | h
        · refine (const h (Nat.le_of_lt hilt) fun e he hlt => ?_).symm
          cases hee : effAt ops e with
          | false => rfl
          | true => have := h2 e he hee; rw [below e hlt hee] at this; cases this
        · refine const h hmle fun e he hlt => ?_
          cases hee : effAt ops e with
          | false => rfl
          | true =>
            have := h1 e hlt hee
            rcases Nat.lt_or_eq_of_le he with hx | hx
            · rw [above e hx hee] at this; cases this
            · rw [← hx, hif] at this; cases this
      refine Xi.eff hef a E hE hHi opn _ Q fun v E' hv hH' hh tr' => next v E' hv ⟨i + 1, hilt, hH', fun e he hee => ?_, fun e he hee => ?_⟩ hh tr'
      · by_cases hei : e = i
        · subst hei; rw [getD_set hils]; simp
        · rw [setE e hee hei]; exact below e (by omega) hee
      · rw [setE e hee (by omega)]; exact above e (by omega) hee
    | false =>
      have keep : ∃ m, m ≤ ops.size ∧ Hs m = Hs m ∧ (∀ e, e < m → effAt ops e = true → (listed.setIfInBounds i true).getD e false = true) ∧ ∀ e, m ≤ e → effAt ops e = true → (listed.setIfInBounds i true).getD e false = false :=
        ⟨m, hmle, rfl, fun e he hee => by rw [setE e hee (by rintro rfl; rw [hef] at hee; cases hee)]; exact h1 e he hee, fun e he hee => by rw [setE e hee (by rintro rfl; rw [hef] at hee; cases hee)]; exact h2 e he hee⟩
      have keep' : ∀ E' : Env, E'.H = Hs m → ∃ m, m ≤ ops.size ∧ E'.H = Hs m ∧ (∀ e, e < m → effAt ops e = true → (listed.setIfInBounds i true).getD e false = true) ∧ ∀ e, m ≤ e → effAt ops e = true → (listed.setIfInBounds i true).getD e false = false := fun E' hE' =>
        ⟨m, hmle, hE', fun e he hee => by rw [setE e hee (by rintro rfl; rw [hef] at hee; cases hee)]; exact h1 e he hee, fun e he hee => by rw [setE e hee (by rintro rfl; rw [hef] at hee; cases hee)]; exact h2 e he hee⟩
      cases hfl : floQ ops i with
      | true =>
        have incomp : ∀ e, e < ops.size → effAt ops e = true → ¬ Before ops e i → ¬ Before ops i e → floE ops e = true := by
          intro e hes hee n1 n2
          unfold floE
          rw [List.any_eq_true]
          refine ⟨i, List.mem_range.2 hilt, ?_⟩
          have c1 : ((preTab ops.toList).getD i []).contains e = false := by
            cases hx : ((preTab ops.toList).getD i []).contains e with
            | false => rfl
            | true => exact (n1 (pre hx)).elim
          have c2 : ((preTab ops.toList).getD e []).contains i = false := by
            cases hx : ((preTab ops.toList).getD e []).contains i with
            | false => rfl
            | true => exact (n2 (pre hx)).elim
          simp only [hef, c1, c2, Bool.not_false, Bool.and_self]
        have hag : agree S (Hs i) (Hs m) := by
          intro q hq
          rcases Nat.le_total m i with h | h
          · refine (agc h (Nat.le_of_lt hilt) (fun e he hlt hee => incomp e (by omega) hee (fun hb => ?_) (fun hb => ?_)) q hq).symm
            · have := hb.ready hc ho hafter; rw [h2 e he hee] at this; cases this
            · have := before_lt hb; omega
          · refine agc h hmle (fun e he hlt hee => incomp e (by omega) hee (fun hb => ?_) (fun hb => ?_)) q hq
            · have := before_lt hb; omega
            · have := hb.listed hc (h1 e hlt hee); rw [hif] at this; cases this
        exact Xi.flo hef (flQ i hilt hef hfl) (Hs m) hag a E hE hH opn _ Q fun v E' hv hH' hh tr' => next v E' hv (keep' E' hH') hh tr'
      | false =>
        have comp : ∀ e, effAt ops e = true → Before ops e i ∨ Before ops i e := by
          intro e hee
          have hes : e < ops.size := by
            unfold effAt at hee
            cases hoe : ops[e]? with
            | none => rw [hoe] at hee; cases hee
            | some oe => exact (Array.getElem?_eq_some_iff.1 hoe).1
          unfold floQ at hfl
          rw [List.any_eq_false] at hfl
          have := hfl e (List.mem_range.2 hes)
          rw [hee] at this
          by_cases hx : ((preTab ops.toList).getD i []).contains e = true
          · exact .inl (pre hx)
          · refine .inr (pre ?_)
            cases hy : ((preTab ops.toList).getD e []).contains i with
            | true => rfl
            | false =>
              exfalso; apply this
              simp only [Bool.not_eq_true] at hx
              simp only [hx, hy, Bool.not_false, Bool.and_self]
        have hHi : Hs m = Hs i := by
          rcases Nat.le_total m i with h | h
          · refine (const h (Nat.le_of_lt hilt) fun e he hlt => ?_).symm
            cases hee : effAt ops e with
            | false => rfl
            | true =>
              have h3 := h2 e he hee
              rcases comp e hee with hb | hb
              · have := hb.ready hc ho hafter; rw [h3] at this; cases this
              · have := before_lt hb; omega
          · refine const h hmle fun e he hlt => ?_
            cases hee : effAt ops e with
            | false => rfl
            | true =>
              have h3 := h1 e hlt hee
              rcases comp e hee with hb | hb
              · have := before_lt hb; omega
              · have := hb.listed hc h3; rw [hif] at this; cases this
        have one := Xi.one hef
        rw [← hHi] at one
        exact one a E hE hH opn _ Q fun v E' hv hH' hh tr' => next v E' hv (keep' E' hH') hh tr'
theorem flo_ok {P : Program} {ctx : Env} {n : Cf} {id : Nat} {ops : Array Oper} {st : St} {a : Act} {E : Env} {K : St → Prop} {S Fl FE : List Nat} {Q : Exit → Act → World → Prop} (hm : P.follows .mixedOrders = true) (hd : drawB ops = true) (hf : floB ops = true) (hfl : floL ops Fl FE = true)
    (hok : ∀ o ∈ ops.toList, ∀ d, o.dst = some d → d < n.n) (hw : awpF P S Fl FE 0 ops.toList st K) (h : SR ctx n st a E) (hQ : ∀ st' a' E', K st' → SR ctx n st' a' E' → Q .normal a' E'.w) :
    (Code.region id ops true).wp P Q a E.w := by
  have hD := drawB_spec hd
  obtain ⟨T, Hs, stE, e1, e2, e3, e4, e5⟩ := flo_extract (floB_spec hf).1 ops.toList 0 st (fun m => by simp) (by simp) hw
  refine wp_region_any hm ?_
  obtain ⟨t0, hh0⟩ := grow_world h.rel { E.w with drawn := E.w.drawn + 1 } (Nat.le_refl _) rfl rfl rfl (fun _ _ => rfl)
  have X : ∀ (i : Nat) (o : Oper), ops[i]? = some o → FloAt P ops S Fl FE (fun t => tv ops T (look st.t) (fun _ => True) t i) T Hs i o := fun i o ho => by
    have := e2 i o (Nat.zero_le _) ho
    have l : (fun t => tvF ops T (look st.t) 0 t (i - 0)) = fun t => tv ops T (look st.t) (fun _ => True) t i := by funext t; rw [Nat.sub_zero, tvF_zero]
    rwa [l] at this
  have noL : ∀ j, (Array.replicate ops.size false).getD j false = true → False := by
    intro j hl
    simp only [Array.getD_eq_getD_getElem?, Array.getElem?_replicate] at hl
    split at hl <;> simp at hl
  refine flo_any (ctx := ctx) (n := n.n) hD hf hfl hok X (fun a' E' hl hdf hE' hH' tr' htm => hQ stE a' E' e3 ⟨hl, h.hm, hdf, fun t => ?_, hH'.trans e4.symm, hE', tr'⟩) ops.size (Array.replicate ops.size false) a _ ?_ (by simp) ?_ h.len h.defers hh0 ⟨0, Nat.zero_le _, ?_, fun e he => by omega, fun e _ _ => ?_⟩ (h.tr.trans t0) fun t => ?_
  · rw [e5 t, Nat.sub_zero, tvF_zero]; exact htm t
  · simp [unl]
    exact Nat.le_trans (List.countP_le_length) (by simp)
  · exact fun j o _ hl => (noL j hl).elim
  · rw [e1, ← h.H]
  · cases hx : (Array.replicate ops.size false).getD e false with
    | false => rfl
    | true => exact (noL e hx).elim
  · have : tv ops T (look st.t) (fun j => (Array.replicate ops.size false).getD j false = true) t ops.size = look st.t t := by
      rw [tv_skip (i := 0) (Nat.zero_le _) (fun j _ _ _ hl => (noL j hl).elim)]
      rfl
    rw [this]
    exact (h.tm t).trans t0
end Go.Lz

end
section
/- Lz13: soundness of the weakest precondition; functions; calls of functions that only compute. -/
namespace Go.Lz
set_option linter.unusedVariables false
set_option linter.unusedSimpArgs false

theorem HRel.lt_objs {E : Env} (hE : HRel E) : ∀ o ∈ E.H, o.lt E.H.length = true := by
  intro o ho
  obtain ⟨i, hi, hio⟩ := List.mem_iff_getElem.1 ho
  have hob := hE.obj i o (by rw [List.getElem?_eq_getElem hi, hio])
  cases o with
  | cells cur sz rows =>
    obtain ⟨h3, h4, h5, h6⟩ := hob
    show ltRows _ rows = true
    rw [ltRows_iff]
    intro r hr
    rw [ltRow_iff]
    intro c hc
    obtain ⟨q, hq, hqr⟩ := List.mem_iff_getElem.1 hr
    obtain ⟨j, hj, hjc⟩ := List.mem_iff_getElem.1 hc
    obtain ⟨arr, ty, _, _, h6⟩ := h6 (by omega)
    obtain ⟨v, _, hv⟩ := h6 q j c (at2_some.2 ⟨r, by rw [List.getElem?_eq_getElem hq, hqr], by rw [List.getElem?_eq_getElem hj, hjc]⟩)
    exact hv.lt_len
  | map es =>
    obtain ⟨ents, clock, h1, h2, h3⟩ := hob
    simp only [O.lt, List.all_eq_true, Bool.and_eq_true]
    intro p hp
    obtain ⟨q, hq, hqp⟩ := List.mem_iff_getElem.1 hp
    obtain ⟨e, _, hk, hx⟩ := h3 q p.1 p.2 (by rw [List.getElem?_eq_getElem hq, hqp])
    exact ⟨hk.lt_len, hx.lt_len⟩
  | dead => rfl

theorem seeds {E : Env} (hE : HRel E) : ∀ (M : Nat), ∃ E', E'.w = E.w ∧ E'.H = E.H ++ List.replicate M (.cells 0 0 []) ∧ HRel E' ∧ Trans E E'
  | 0 => ⟨E, rfl, by simp, hE, Trans.refl E⟩
  | M + 1 => by
    obtain ⟨E1, h1, h2, h3, h4⟩ := seeds hE M
    obtain ⟨t, hh, _⟩ := seed_obj h3 0 _ rfl
    refine ⟨⟨E1.w, E1.Fr, fun i => if i = E1.H.length then ⟨0, 0, 0⟩ else E1.bd i, E1.H ++ [.cells 0 0 []]⟩, h1, ?_, hh, h4.trans t⟩
    show E1.H ++ [_] = _
    rw [h2, List.append_assoc, List.replicate_succ']

/-! Regions that draw, where some quiet operations may come late. -/
theorem lateAll_mem {P : Program} {all : Array Oper} {t : List (Nat × V)} : ∀ {L : List Nat}, lateAll P all t L → ∀ i ∈ L, lateAt P all t i
  | [], _, i, hi => by cases hi
  | x :: L, h, i, hi => by
    rcases List.mem_cons.1 hi with rfl | hi
    · exact h.1
    · exact lateAll_mem h.2 i hi
theorem lateSet_lt {ops : Array Oper} {k i : Nat} (h : i ∈ lateSet ops k) : i < k := by
  unfold lateSet at h
  simpa using (List.mem_filter.1 h).1
theorem lateB_ord {ops : Array Oper} {k : Nat} (h : lateB ops k = true) : ∀ j, k ≤ j → j < ops.size → ∀ i, i < j → i ∉ lateSet ops k → Before ops i j := by
  intro j hk hj i hi hn
  unfold lateB at h
  rw [Bool.and_eq_true, List.all_eq_true] at h
  have := h.1 j (List.mem_range.2 hj)
  simp only [Bool.or_eq_true, decide_eq_true_eq] at this
  rcases this with h1 | h1
  · omega
  · rw [List.all_eq_true] at h1
    have h2 := h1 i (List.mem_range.2 hi)
    rw [Bool.or_eq_true] at h2
    rcases h2 with h2 | h2
    · exact (hn (by simpa using h2)).elim
    · refine preTab_go ops ops.toList [] 0 rfl (fun m => by simp) (fun j i hi => by simp at hi) j i ?_
      simpa [preTab] using h2
theorem lateB_ok {ops : Array Oper} {k i : Nat} (h : lateB ops k = true) (hi : i ∈ lateSet ops k) : ∃ o d, ops[i]? = some o ∧ o.guard = none ∧ effO o.op = false ∧ o.dst = some d ∧
    ∀ j oj, ops[j]? = some oj → (j ≠ i → oj.dst ≠ some d) ∧ (i ≤ j → ∀ d', oj.dst = some d' → d' ∉ namesOf o) := by
  unfold lateB at h
  rw [Bool.and_eq_true, List.all_eq_true, List.all_eq_true] at h
  have := h.2 i hi
  unfold lateOk at this
  split at this
  · cases this
  · rename_i o ho
    simp only [Bool.and_eq_true, List.all_eq_true, List.mem_range, Option.isNone_iff_eq_none, Bool.not_eq_true'] at this
    obtain ⟨⟨⟨h1, h2⟩, h3⟩, h4⟩ := this
    obtain ⟨d, hd⟩ := Option.isSome_iff_exists.1 h3
    refine ⟨o, d, ho, h1, h2, hd, fun j oj hj => ?_⟩
    have h5 := h4 j (Array.getElem?_eq_some_iff.1 hj).1
    rw [hj] at h5
    simp only [Bool.and_eq_true, Bool.or_eq_true, decide_eq_true_eq, Bool.not_eq_true', beq_eq_false_iff_ne] at h5
    refine ⟨fun hne he => ?_, fun hle d' hd' hm => ?_⟩
    · rcases h5.1 with h6 | h6
      · exact hne h6
      · exact h6 (by rw [he, hd])
    · rcases h5.2 with h6 | h6
      · omega
      · unfold notDst at h6
        rw [hd'] at h6
        simp [hm] at h6
def SimD (D : List Nat) (s st : St) : Prop := s.H = st.H ∧ ∀ t, look s.t t = if t ∈ D then .un else look st.t t
theorem SimD.put {D : List Nat} {s st : St} (h : SimD D s st) {d : Option Nat} {v : V} {H : List O} (hd : ∀ x, d = some x → x ∉ D) : SimD D (s.put d v H) (st.put d v H) := by
  refine ⟨by cases d <;> rfl, fun t => ?_⟩
  rw [look_put, look_put]
  by_cases e : d = some t
  · rw [if_pos e, if_pos e, if_neg (hd t e)]
  · rw [if_neg e, if_neg e]; exact h.2 t
theorem guarded2_sim {all : Array Oper} {o : Oper} {D : List Nat} {s st : St} {X Y : St → Prop} (h : SimD D s st) (hD : ∀ g w d, o.guard = some (g, w) → (all[g]?).bind (·.dst) = some d → d ∉ D) (hg : guarded2 all o st X Y) :
    guarded2 all o s (fun s' => ∃ st', SimD D s' st' ∧ (∀ t, look st'.t t = look st.t t) ∧ X st') (fun s' => ∃ st', SimD D s' st' ∧ (∀ t, look st'.t t = look st.t t) ∧ Y st') := by
  unfold guarded2 at hg ⊢
  cases h0 : o.guard with
  | none => rw [h0] at hg; exact ⟨st, h, fun _ => rfl, hg⟩
  | some jw =>
    obtain ⟨j, want⟩ := jw
    rw [h0] at hg
    cases hd : (all[j]?).bind (·.dst) with
    | none => simp only [hd] at hg
    | some d =>
      simp only [hd] at hg ⊢
      have hnd := hD j want d h0 hd
      have hl : look s.t d = look st.t d := by rw [h.2, if_neg hnd]
      rw [hl]
      cases hv : look st.t d with
      | one c =>
        rw [hv] at hg
        cases c with
        | bool b =>
          have key : ∀ w : Bool, b = w → SimD D ⟨(d, .one (.bool w)) :: s.t, s.H⟩ ⟨(d, .one (.bool w)) :: st.t, st.H⟩ ∧ ∀ t, look ((d, V.one (.bool w)) :: st.t) t = look st.t t := fun w e => by
            subst e
            refine ⟨⟨h.1, fun t => ?_⟩, look_assume hv⟩
            simp only [look_cons]
            by_cases e : d = t
            · subst e; rw [if_pos rfl, if_pos rfl, if_neg hnd]
            · rw [if_neg e, if_neg e]; exact h.2 t
          exact ⟨fun e => ⟨_, (key want e).1, (key want e).2, hg.1 e⟩, fun e => ⟨_, (key (!want) e).1, (key (!want) e).2, hg.2 e⟩⟩
        | _ => exact hg.elim
      | agg c => simp only [hv] at hg
      | un => simp only [hv] at hg
      | tup l =>
        cases l with
        | nil => rw [hv] at hg; exact ⟨st, h, fun _ => rfl, hg⟩
        | cons x l => simp only [hv] at hg
theorem awpOp_sim {P : Program} {o : Oper} {D : List Nat} {s st : St} {K : St → Prop} (h : SimD D s st) (hD : ∀ t ∈ namesOf o, t ∉ D) (hw : awpOp P o st K) : awpOp P o s fun s' => ∃ v H', s' = s.put o.dst v H' ∧ K (st.put o.dst v H') := by
  have hρ : ∀ x ∈ o.op.operands, s.ρ x = st.ρ x := by
    intro x hx
    cases x with
    | tmp t =>
      have ht : t ∈ namesOf o := by simp only [namesOf, List.mem_filterMap]; exact ⟨.tmp t, by simpa using hx, rfl⟩
      show look s.t t = look st.t t
      rw [h.2, if_neg (hD t ht)]
    | _ => rfl
  unfold awpOp at hw ⊢
  split at hw
  · rename_i f args ats hop
    rw [hop] at hρ
    have e1 := hρ f (by simp [Op.operands, Call.operands])
    have e2 : args.toList.map s.ρ = args.toList.map st.ρ := List.map_congr_left fun x hx => hρ x (by simp only [Op.operands, Call.operands]; exact Array.mem_append.2 (.inr (by simpa using hx)))
    simp only [e1, e2, h.1]
    split at hw
    · exact hw.mono fun v H' hk => ⟨v, H', rfl, hk⟩
    · exact hw.elim
  · rename_i hop
    have e := stepF_congr (P := P) (pos := o.pos) (op := o.op) (H := st.H) (ρ := s.ρ) (ρ' := st.ρ) hρ
    rw [h.1, e]
    exact ⟨hw.1, fun hf => ⟨_, _, rfl, hw.2 hf⟩⟩
/-- The slots of late operations that have not been carried out. -/
def dueL (ops : Array Oper) (L : List Nat) (listed : Array Bool) : List Nat := (L.filter fun i => !listed.getD i false).filterMap fun i => (ops[i]?).bind (·.dst)
theorem mem_due {ops : Array Oper} {L : List Nat} {listed : Array Bool} {t : Nat} : t ∈ dueL ops L listed ↔ ∃ i, i ∈ L ∧ listed.getD i false = false ∧ (ops[i]?).bind (·.dst) = some t := by
  unfold dueL
  simp only [List.mem_filterMap, List.mem_filter, Bool.not_eq_true']
  constructor
  · rintro ⟨i, ⟨h1, h2⟩, h3⟩; exact ⟨i, h1, h2, h3⟩
  · rintro ⟨i, h1, h2, h3⟩; exact ⟨i, ⟨h1, h2⟩, h3⟩
theorem look_due (t : List (Nat × V)) : ∀ (D : List Nat) (x : Nat), look (D.map (fun d => (d, V.un)) ++ t) x = if x ∈ D then .un else look t x
  | [], x => by simp
  | d :: D, x => by
    rw [List.map_cons, List.cons_append, look_cons, look_due t D x]
    by_cases e : d = x
    · subst e; simp
    · rw [if_neg e]
      have : (x ∈ d :: D) ↔ x ∈ D := by rw [List.mem_cons]; exact ⟨fun h => h.resolve_left fun h2 => e h2.symm, .inr⟩
      by_cases hm : x ∈ D
      · rw [if_pos hm, if_pos (this.2 hm)]
      · rw [if_neg hm, if_neg (fun h => hm (this.1 h))]
theorem tail_late {P : Program} {ctx : Env} {n : Cf} {ops : Array Oper} {K : St → Prop} {Q : Exit → Act → World → Prop} {k0 : Nat} {t0 : List (Nat × V)} (hd : DrawOk ops) (hok : ∀ o ∈ ops.toList, ∀ d, o.dst = some d → d < n.n)
    (hL : LateP P ops k0 t0) (hQ : ∀ st' a' E', K st' → SR ctx n st' a' E' → Q .normal a' E'.w) :
    ∀ (fuel j : Nat) (listed : Array Bool) (a : Act) (E : Env) (st s : St), k0 ≤ j → j ≤ ops.size → listed.size = ops.size → unl listed ≤ fuel →
      (∀ (j : Nat) (o : Oper), ops[j]? = some o → listed.getD j false = true → ∀ e ∈ o.after, Region.binds .any e = true → listed.getD e.on false = true) →
      (∀ i, listed.getD i false = true → i < j) → (∀ i, i < j → i ∉ lateSet ops k0 → listed.getD i false = true) →
      (∀ i, i ∈ lateSet ops k0 → listed.getD i false = false → ∀ o, ops[i]? = some o → ∀ t, t ∈ namesOf o ∨ o.dst = some t → look st.t t = look t0 t) →
      SimD (dueL ops (lateSet ops k0) listed) s st → SR ctx n s a E → awpOps P ops (ops.toList.drop j) st K → wpAny P .any ops Q fuel listed a E.w := by
  obtain ⟨hB, hA⟩ := hL
  have fin : ∀ (j : Nat) (listed : Array Bool) (a : Act) (E : Env) (st s : St), (∀ i, listed.getD i false = true → i < j) → (∀ i, i < ops.size → listed.getD i false = true) → SimD (dueL ops (lateSet ops k0) listed) s st → SR ctx n s a E → awpOps P ops (ops.toList.drop j) st K → Q .normal a E.w := by
    intro j listed a E st s hl hall hs hS hw
    have : ops.toList.drop j = [] := by
      refine List.drop_eq_nil_of_le ?_
      rw [Array.length_toList]
      rcases Nat.lt_or_ge j ops.size with h | h
      · have := hl j (hall j h); omega
      · exact h
    rw [this] at hw
    refine hQ st a E hw ⟨hS.len, hS.hm, hS.defers, fun t => ?_, hS.H.trans hs.1, hS.rel, hS.tr⟩
    have := hS.tm t
    rw [hs.2, if_neg] at this
    · exact this
    · intro hm
      obtain ⟨i, h1, h2, h3⟩ := mem_due.1 hm
      cases hi : ops[i]? with
      | none => simp [hi] at h3
      | some o => rw [hall i (Array.getElem?_eq_some_iff.1 hi).1] at h2; cases h2
  have nil : ∀ (listed : Array Bool), listed.size = ops.size → Region.ready .any ops listed = [] → ∀ i, i < ops.size → listed.getD i false = true := by
    intro listed hs hr j
    induction j using Nat.strongRecOn with
    | _ j ihj =>
      intro hj
      cases hl : listed.getD j false with
      | true => rfl
      | false =>
        have hmem : j ∈ Region.ready .any ops listed := by
          rw [mem_ready]
          refine ⟨by simp only [Array.getD_eq_getD_getElem?] at hl ⊢; rw [Array.getElem?_eq_getElem (by rw [hs]; exact hj)] at hl ⊢; simpa using hl, ops[j], by simp [hj], fun e he hb => ?_⟩
          have hlt := hd.back j ops[j] (by simp [hj]) e he hb
          exact ihj e.on hlt (by omega)
        rw [hr] at hmem; cases hmem
  intro fuel
  induction fuel with
  | zero =>
    intro j listed a E st s hk hj hs hu hc hl hn hi hsim hS hw
    have hall : ∀ i, i < ops.size → listed.getD i false = true := fun i hi => unl_zero (by omega) (by rw [hs]; exact hi)
    refine ⟨?_, fin j listed a E st s hl hall hsim hS hw⟩
    apply List.eq_nil_iff_forall_not_mem.2
    intro i hi
    rw [mem_ready] at hi
    obtain ⟨h1, o, ho, _⟩ := hi
    have hlt := (Array.getElem?_eq_some_iff.1 ho).1
    have h2 := hall i hlt
    simp only [Array.getD_eq_getD_getElem?, Array.getElem?_eq_getElem (show i < listed.size by rw [hs]; exact hlt)] at h1 h2
    simp_all
  | succ fuel ih =>
    intro j listed a E st s hk hj hs hu hc hl hn hiv hsim hS hw
    refine ⟨fun hr => fin j listed a E st s hl (nil listed hs hr) hsim hS hw, fun i hi => ?_⟩
    rw [mem_ready] at hi
    obtain ⟨hi0, o, ho, hafter⟩ := hi
    have hilt : i < ops.size := (Array.getElem?_eq_some_iff.1 ho).1
    have hils : i < listed.size := by rw [hs]; exact hilt
    have hif : listed.getD i false = false := by
      simp only [Array.getD_eq_getD_getElem?, Array.getElem?_eq_getElem hils] at hi0 ⊢; simpa using hi0
    have sooner : ∀ q, directB ops q i = true → listed.getD q false = true := by
      intro q hdir
      obtain ⟨oi, hoi, e, he, hb, rfl⟩ := directB_spec hdir
      rw [ho] at hoi; cases hoi
      exact hafter e he hb
    have hu' : unl (listed.setIfInBounds i true) ≤ fuel := by have := unl_set hils hi0; omega
    have hod := hok o (List.mem_of_getElem? (by simpa using ho))
    have hc' : ∀ (j : Nat) (o : Oper), ops[j]? = some o → (listed.setIfInBounds i true).getD j false = true → ∀ e ∈ o.after, Region.binds .any e = true → (listed.setIfInBounds i true).getD e.on false = true := by
      intro q oq hoq hlq e he hb
      rw [getD_set hils] at hlq ⊢
      rw [Bool.or_eq_true] at hlq ⊢
      rcases hlq with hlq | hlq
      · have : i = q := by simpa using hlq
        subst this
        rw [ho] at hoq; cases hoq
        exact .inr (hafter e he hb)
      · exact .inr (hc q oq hoq hlq e he hb)
    -- no operand of this operation is due
    have nodue : ∀ t, (t ∈ namesOf o ∨ (∃ g w, o.guard = some (g, w) ∧ (ops[g]?).bind (·.dst) = some t) ∨ (i ∉ lateSet ops k0 ∧ o.dst = some t)) → t ∉ dueL ops (lateSet ops k0) listed := by
      intro t ht hm
      obtain ⟨q, q1, q2, q3⟩ := mem_due.1 hm
      obtain ⟨oq, d, hoq, qg, qe, qd, qs⟩ := lateB_ok hB q1
      rw [hoq] at q3
      simp only [Option.bind_some] at q3
      rw [qd] at q3
      obtain rfl := Option.some.inj q3
      rcases Nat.lt_trichotomy q i with hqi | hqi | hqi
      · have : directB ops q i = true := by
          refine hd.war q i oq o d hqi hoq ho (.inl ⟨qd, ?_⟩)
          rcases ht with ht | ht | ht
          · exact .inl ht
          · exact .inr (.inr ht)
          · exact .inr (.inl ht.2)
        rw [sooner q this] at q2; cases q2
      · subst hqi
        rw [ho] at hoq; cases hoq
        rcases ht with ht | ⟨g, w, ht, _⟩ | ht
        · exact (qs q o ho).2 (Nat.le_refl _) d qd ht
        · rw [qg] at ht; cases ht
        · exact ht.1 q1
      · have hqk := lateSet_lt q1
        have hik : i ∈ lateSet ops k0 := by
          apply Classical.byContradiction
          intro hni
          have := hn i (by omega) hni
          rw [hif] at this; cases this
        obtain ⟨o', d', ho', ig, ie, idd, is⟩ := lateB_ok hB hik
        rw [ho] at ho'; cases ho'
        rcases ht with ht | ⟨g, w, ht, _⟩ | ht
        · exact (is q oq hoq).2 (by omega) d qd ht
        · rw [ig] at ht; cases ht
        · exact ht.1 hik
    by_cases hil : i ∈ lateSet ops k0
    · obtain ⟨o', d, ho', ig, ie, idd, is⟩ := lateB_ok hB hil
      rw [ho] at ho'; cases ho'
      have hat := lateAll_mem hA i hil
      unfold lateAt at hat
      rw [ho] at hat
      obtain ⟨p1, p2, p3⟩ := hat E.H
      have hrel : ∀ t, t ∈ namesOf o → VRel E (look t0 t) (a.tmps.getD t undef) := fun t ht => by
        rw [← hiv i hil hif o ho t (.inl ht)]
        have := hS.tm t
        rwa [hsim.2, if_neg (nodue t (.inl ht))] at this
      have hw2 : WpV P o a E (stepF P o.pos o.op (St.ρ ⟨t0, E.H⟩) E.H) := step_okQ (l := look t0) hS.rel hrel p1
      obtain ⟨_, hwp⟩ := hw2
      simp only [wpOp, ho, Region.wanted, ig, if_true]
      left
      refine hwp _ Q fun v E' hv hH' hh tr => ?_
      rw [p2] at hH'
      rw [p3, idd] at hv
      simp only [Option.getD_some] at hv
      have hdn := hod d idd
      refine ih j _ (a.put o.dst v) E' st (s.put o.dst (look t0 d) E.H) hk hj (by simpa using hs) hu' hc' (fun q hq => ?_) (fun q hq hnq => ?_) (fun q hq hql => ?_) ?_ (hS.put hod hv hH' hh tr) hw
      · rw [getD_set hils, Bool.or_eq_true] at hq
        rcases hq with hq | hq
        · have : i = q := by simpa using hq
          subst this
          have := lateSet_lt hil; omega
        · exact hl q hq
      · rw [getD_set hils, hn q hq hnq, Bool.or_true]
      · refine hiv q hq ?_
        rw [getD_set hils, Bool.or_eq_false_iff] at hql
        exact hql.2
      · refine ⟨by rw [idd]; exact hS.H.trans hsim.1, fun t => ?_⟩
        rw [look_put, idd]
        by_cases e : d = t
        · subst e
          have hnm : d ∉ dueL ops (lateSet ops k0) (listed.setIfInBounds i true) := by
            intro hm
            obtain ⟨q, q1, q2, q3⟩ := mem_due.1 hm
            rw [getD_set hils, Bool.or_eq_false_iff] at q2
            have hqi : q ≠ i := fun e => by subst e; simp at q2
            cases hoq : ops[q]? with
            | none => simp [hoq] at q3
            | some oq => simp [hoq] at q3; exact (is q oq hoq).1 hqi q3
          rw [if_pos rfl, if_neg hnm]
          exact (hiv i hil hif o ho d (.inr idd)).symm
        · rw [if_neg (by simpa using e), hsim.2]
          have : t ∈ dueL ops (lateSet ops k0) (listed.setIfInBounds i true) ↔ t ∈ dueL ops (lateSet ops k0) listed := by
            rw [mem_due, mem_due]
            constructor
            · rintro ⟨q, q1, q2, q3⟩
              rw [getD_set hils, Bool.or_eq_false_iff] at q2
              exact ⟨q, q1, q2.2, q3⟩
            · rintro ⟨q, q1, q2, q3⟩
              refine ⟨q, q1, ?_, q3⟩
              rw [getD_set hils, q2, Bool.or_false, decide_eq_false_iff_not]
              rintro rfl
              rw [ho, Option.bind_some, idd] at q3
              exact e (Option.some.inj q3)
          by_cases hm : t ∈ dueL ops (lateSet ops k0) listed
          · rw [if_pos hm, if_pos (this.2 hm)]
          · rw [if_neg hm, if_neg (fun h => hm (this.1 h))]
    · have hge : j ≤ i := by
        rcases Nat.lt_or_ge i j with h | h
        · have := hn i h hil; rw [hif] at this; cases this
        · exact h
      have hij : i = j := by
        rcases Nat.lt_or_eq_of_le hge with h | h
        · have hjl : j ∉ lateSet ops k0 := fun hm => by have := lateSet_lt hm; omega
          have := (lateB_ord hB i (by omega) hilt j h hjl).ready hc ho hafter
          have := hl j this; omega
        · exact h.symm
      subst hij
      have hdrop : ops.toList.drop i = o :: ops.toList.drop (i + 1) := by
        rw [List.drop_eq_getElem_cons (by simpa using hilt)]
        congr 1
        have := Array.getElem?_eq_some_iff.1 ho
        obtain ⟨h1, h2⟩ := this
        simpa using h2
      rw [hdrop] at hw
      simp only [awpOps] at hw
      have due' : dueL ops (lateSet ops k0) (listed.setIfInBounds i true) = dueL ops (lateSet ops k0) listed := by
        unfold dueL
        congr 1
        refine List.filter_congr fun q hq => ?_
        rw [getD_set hils]
        have : i ≠ q := fun e => hil (e ▸ hq)
        simp [this]
      have hl' : ∀ q, (listed.setIfInBounds i true).getD q false = true → q < i + 1 := by
        intro q hq
        rw [getD_set hils, Bool.or_eq_true, decide_eq_true_eq] at hq
        rcases hq with hq | hq
        · omega
        · have := hl q hq; omega
      have hn' : ∀ q, q < i + 1 → q ∉ lateSet ops k0 → (listed.setIfInBounds i true).getD q false = true := by
        intro q hq hnq
        rw [getD_set hils, Bool.or_eq_true, decide_eq_true_eq]
        by_cases e : i = q
        · exact .inl e
        · exact .inr (hn q (by omega) hnq)
      have hiv' : ∀ (st2 : St), (∀ t, o.dst ≠ some t → look st2.t t = look st.t t) → ∀ q, q ∈ lateSet ops k0 → (listed.setIfInBounds i true).getD q false = false → ∀ oq, ops[q]? = some oq → ∀ t, t ∈ namesOf oq ∨ oq.dst = some t → look st2.t t = look t0 t := by
        intro st2 h2 q hq hql oq hoq t ht
        rw [getD_set hils, Bool.or_eq_false_iff] at hql
        rw [h2 t ?_]
        · exact hiv q hq hql.2 oq hoq t ht
        · intro hdt
          obtain ⟨oq', d, hoq', qg, qe, qd, qs⟩ := lateB_ok hB hq
          rw [hoq] at hoq'; cases hoq'
          have hqi : q < i := by have := lateSet_lt hq; omega
          rcases ht with ht | ht
          · exact (qs i o ho).2 (by omega) t hdt ht
          · exact (qs i o ho).1 (by omega) (by rw [hdt, ← ht, qd])
      have hdst : ∀ x, o.dst = some x → x ∉ dueL ops (lateSet ops k0) listed := fun x hx => nodue x (.inr (.inr ⟨hil, hx⟩))
      obtain ⟨s1, hS1, hcase⟩ := guarded2_ok hS (guarded2_sim hsim (fun g w d h1 h2 => nodue d (.inr (.inl ⟨g, w, h1, h2⟩))) hw)
      simp only [wpOp, ho]
      rcases hcase with ⟨hwant, st1, hsim1, hlk, hx⟩ | ⟨hwant, st1, hsim1, hlk, hx⟩
      · simp only [hwant, if_true]
        left
        refine awpOp_ok hS1 hod (awpOp_sim hsim1 (fun t ht => nodue t (.inl ht)) hx) Q _ fun s2 a2 E2 hK hS2 => ?_
        obtain ⟨v, H', rfl, hK⟩ := hK
        refine ih (i + 1) _ a2 E2 _ _ (by omega) (by omega) (by simpa using hs) hu' hc' hl' hn' (hiv' _ fun t ht => ?_) ?_ hS2 hK
        · rw [look_put, if_neg ht, hlk]
        · rw [due']; exact hsim1.put hdst
      · simp only [hwant, Bool.false_eq_true, if_false]
        refine ih (i + 1) _ _ E (st1.put o.dst (.tup []) st1.H) (s1.put o.dst (.tup []) s1.H) (by omega) (by omega) (by simpa using hs) hu' hc' hl' hn' (hiv' _ fun t ht => by rw [look_put, if_neg ht, hlk]) ?_ (hS1.skip2 hod) hx
        rw [due', hsim1.1]; exact hsim1.put hdst
theorem draw_ok {P : Program} {ctx : Env} {n : Cf} {id : Nat} {ops : Array Oper} {st : St} {a : Act} {E : Env} {K : St → Prop} {Q : Exit → Act → World → Prop} (hm : P.follows .mixedOrders = true) (hd : drawB ops = true)
    (hok : ∀ o ∈ ops.toList, ∀ d, o.dst = some d → d < n.n) (hw : awpDraw P ops ops.toList [] st K) (h : SR ctx n st a E) (hQ : ∀ st' a' E', K st' → SR ctx n st' a' E' → Q .normal a' E'.w) :
    (Code.region id ops true).wp P Q a E.w := by
  obtain ⟨T, role, z, f, kt, stE, N', g1, g2, g3, g4, g5, g6, g7, X, g9⟩ := draw_extract (P := P) (all := ops) (n := n.n) hok ops.toList 0 [] st (fun m => by simp) (by simp) ⟨a, E, h.len, h.rel, h.H, fun t _ => h.tm t⟩ hw
  refine wp_region_any hm ?_
  obtain ⟨t0, hh0⟩ := grow_world h.rel { E.w with drawn := E.w.drawn + 1 } (Nat.le_refl _) rfl rfl rfl (fun _ _ => rfl)
  obtain ⟨E1, w1, H1, hh1, t1⟩ := seeds hh0 N'.length
  have hHl : ∀ o ∈ st.H, o.lt st.H.length = true := by have := h.rel.lt_objs; rwa [h.H] at this
  have hheap : stE.H ++ N'.map Fo.o = st.H ++ (List.range N'.length).map (gS z f (baseN []) role (fun i => 0 ≤ i ∧ i < kt)) := by
    rw [g5]
    congr 1
    apply List.ext_getElem?
    intro p
    simp only [List.getElem?_map]
    rcases Nat.lt_or_ge p N'.length with hp | hp
    · have e := g7 p N'[p] (by simp [hp])
      simp [hp, e]
    · rw [List.getElem?_eq_none hp, List.getElem?_eq_none (by simpa using hp)]; rfl
  have main : ∀ late : Nat → Prop, (∀ i j, kt ≤ j → j < ops.size → i < kt → ¬ late i → Before ops i j) → (∀ i, late i → role i = none) →
      (∀ (fuel : Nat) (listed : Array Bool) (a' : Act) (E' : Env), unl listed ≤ fuel → listed.size = ops.size → (∀ (j : Nat) (o : Oper), ops[j]? = some o → listed.getD j false = true → ∀ e ∈ o.after, Region.binds .any e = true → listed.getD e.on false = true) →
        (∀ i, listed.getD i false = true → i < kt) → (∀ i, i < kt → ¬ late i → listed.getD i false = true) → n.n ≤ a'.tmps.size → a'.defers = [] → HRel E' →
        E'.H = stE.H ++ N'.map Fo.o → Trans ctx E' → (∀ t, (∀ j, j < kt → late j → listed.getD j false = false → (ops[j]?).bind (·.dst) ≠ some t) → VRel E' (look stE.t t) (a'.tmps.getD t undef)) → wpAny P .any ops Q fuel listed a' E'.w) →
      wpAny P .any ops Q ops.size (Array.replicate ops.size false) a E1.w := fun late hbef hrole hq => by
    refine draw_any (P := P) (ctx := ctx) (n := n.n) (ops := ops) (T := T) (l0 := look st.t) (H := st.H) (M := N'.length) (kt := kt) (z := z) (f := f) (role := role) (drawB_spec hd) hok hHl X g2 late hbef hrole
      (fun fuel listed a' E' hu hls hcl hsub hall h1 h2 h3 h4 h5 h6 => hq fuel listed a' E' hu hls hcl hsub hall h1 h2 h3 (by rw [h4, hheap]) h5 fun t ht => ?_) ops.size (Array.replicate ops.size false) a E1 ?_ ?_
    · rw [g9 t, Nat.sub_zero, tvF_zero]
      exact h6 t ht
    · simp [unl]
      exact Nat.le_trans (List.countP_le_length) (by simp)
    · have none : ∀ j, (Array.replicate ops.size false).getD j false = true → False := by
        intro j hl
        simp only [Array.getD_eq_getD_getElem?, Array.getElem?_replicate] at hl
        split at hl <;> simp at hl
      refine ⟨by simp, fun j o _ hl => (none j hl).elim, fun j hl => (none j hl).elim, h.len, h.defers, hh1, ?_, (h.tr.trans t0).trans t1, fun t => ?_⟩
      · have e : (List.range N'.length).map (gS z f (baseN []) role (fun j => (Array.replicate ops.size false).getD j false = true)) = (List.range N'.length).map (fun _ => (.cells 0 0 [] : O)) := by
          congr 1
          funext p
          rw [gS_b (fun ⟨j, hj, _⟩ => none j hj) (fun ⟨j, hj, _⟩ => none j hj)]; rfl
        rw [e, H1, List.map_const', List.length_range, ← h.H]
      · have : tv ops T (look st.t) (fun j => (Array.replicate ops.size false).getD j false = true) t ops.size = look st.t t := by
          rw [tv_skip (i := 0) (Nat.zero_le _) (fun j _ _ _ hl => (none j hl).elim)]
          rfl
        rw [this]
        exact ((h.tm t).trans t0).trans t1
  suffices hx : wpAny P .any ops Q ops.size (Array.replicate ops.size false) a E1.w by rw [w1] at hx; exact hx
  by_cases hB : kt = ops.size ∨ tailB ops kt = true
  · refine main (fun _ => False) (fun i j hj hjs hi _ => ?_) (fun _ h => h.elim) fun fuel listed a' E' hu hls hcl hsub hall h1 h2 h3 h4 h5 h6 => ?_
    · rcases hB with hB | hB
      · omega
      · exact tailB_spec hB j hj hjs i (by omega)
    · refine tail_any (P := P) (ctx := ctx) (n := n) (K := K) (k0 := kt) (drawB_spec hd) hok (fun j hj hjs i hij => ?_) hQ fuel kt listed a' E' ⟨stE.t, stE.H ++ N'.map Fo.o⟩ (Nat.le_refl _) g2 hls hu (fun i _ => ⟨hsub i, fun hi => hall i hi (fun hf => hf)⟩) ?_ (by simpa using g6)
      · rcases hB with hB | hB
        · omega
        · exact tailB_spec hB j hj hjs i hij
      · exact ⟨h1, h.hm, h2, fun t => h6 t (fun _ _ hf => hf.elim), h4, h3, h5⟩
  · have hlt : kt < ops.size := by omega
    have hL : LateP P ops kt stE.t := (g4 hlt).resolve_left fun h => hB (.inr h)
    refine main (fun i => i ∈ lateSet ops kt) (fun i j hj hjs hi hni => lateB_ord hL.1 j hj hjs i (by omega) hni) (fun i hi => ?_) fun fuel listed a' E' hu hls hcl hsub hall h1 h2 h3 h4 h5 h6 => ?_
    · cases hr : role i with
      | none => rfl
      | some bp =>
        obtain ⟨b, p⟩ := bp
        obtain ⟨o, ho, he⟩ := X.c5 i b p hr
        obtain ⟨o', d, ho', _, he', _⟩ := lateB_ok hL.1 hi
        rw [ho] at ho'; cases ho'
        rw [he] at he'; cases he'
    · refine tail_late (P := P) (ctx := ctx) (n := n) (K := K) (k0 := kt) (t0 := stE.t) (drawB_spec hd) hok hL hQ fuel kt listed a' E' ⟨stE.t, stE.H ++ N'.map Fo.o⟩ ⟨(dueL ops (lateSet ops kt) listed).map (fun d => (d, V.un)) ++ stE.t, stE.H ++ N'.map Fo.o⟩ (Nat.le_refl _) g2 hls hu hcl hsub hall (fun _ _ _ _ _ _ _ => rfl) ⟨rfl, fun t => look_due _ _ _⟩ ?_ (by simpa using g6)
      refine ⟨h1, h.hm, h2, fun t => ?_, h4, h3, h5⟩
      show VRel E' (look ((dueL ops (lateSet ops kt) listed).map (fun d => (d, V.un)) ++ stE.t) t) _
      rw [look_due]
      split
      · exact .un
      · rename_i hm
        exact h6 t fun j hj hl hlf e => hm (mem_due.2 ⟨j, hl, hlf, e⟩)

theorem awp_sound {P : Program} {n : Cf} : ∀ (c : Code) (st : St) (Q : Ex → St → Prop), awp P n c st Q → Sem' P n c st Q
  | .skip, st, Q, h => fun _ ctx a E hs => wp_skip ⟨.normal, st, E, rfl, rfl, h, hs⟩
  | .label l, st, Q, h => fun _ ctx a E hs => wp_label ⟨.normal, st, E, rfl, rfl, h, hs⟩
  | .region id ops draw, st, Q, h => fun hok ctx a E hs => by
    have hok' : ∀ o ∈ ops.toList, ∀ d, o.dst = some d → d < n.n := by
      intro o ho d hd
      simp only [okC, List.all_eq_true] at hok
      have := hok o ho
      simpa [hd] using this
    cases draw with
    | true =>
      simp only [awp] at h
      split at h
      · obtain ⟨hm, hd, hf, S, Fl, FE, hfl, hw⟩ := h
        exact flo_ok hm hd hf hfl hok' hw hs fun st' a' E' hK hs' => ⟨.normal, st', E', rfl, rfl, hK, hs'⟩
      · obtain ⟨hm, hd, hw⟩ := h
        exact draw_ok hm hd hok' hw hs fun st' a' E' hK hs' => ⟨.normal, st', E', rfl, rfl, hK, hs'⟩
    | false =>
      refine wp_region (awpOps_ok (K := Q .normal) _ (fun st' a' E' hK hs' => ⟨.normal, st', E', rfl, rfl, hK, hs'⟩) hok' (List.range ops.size) ops.toList (by simp) (fun k i hk => ?_) st a E hs h)
      have hlt := (List.getElem?_eq_some_iff.1 hk).1
      simp at hlt
      simp [hlt] at hk
      subst hk
      simp
  | .seq x y, st, Q, h => fun hok ctx a E hs => by
    simp only [okC, Bool.and_eq_true] at hok
    refine wp_seq (wp_mono (awp_sound x st _ h hok.1 ctx a E hs) ?_)
    rintro e a' w' ⟨k, st', E', rfl, rfl, hq, hs'⟩
    cases k with
    | normal => exact awp_sound y st' Q hq hok.2 ctx a' E' hs'
    | exit id => exact ⟨.exit id, st', E', rfl, rfl, hq, hs'⟩
    | ret => exact ⟨.ret, st', E', rfl, rfl, hq, hs'⟩
    | goto l => exact ⟨.goto l, st', E', rfl, rfl, hq, hs'⟩
  | .cond c x y, st, Q, h => fun hok ctx a E hs => by
    simp only [okC, Bool.and_eq_true] at hok
    simp only [awp, condK] at h
    split at h
    · rename_i b hb
      have hc := hs.ρ c
      rw [hb] at hc
      have hv := bool_inv (one_inv hc)
      refine wp_cond hv ?_
      cases b with
      | true => exact awp_sound x st Q (h.1 rfl) hok.1 ctx a E hs
      | false => exact awp_sound y st Q (h.2 rfl) hok.2 ctx a E hs
    · exact h.elim
  | .block id c, st, Q, h => fun hok ctx a E hs => by
    refine wp_block (wp_mono (awp_sound c st _ h hok ctx a E hs) ?_)
    rintro e a' w' ⟨k, st', E', rfl, rfl, hq, hs'⟩
    cases k with
    | normal => exact ⟨.normal, st', E', rfl, rfl, hq, hs'⟩
    | exit i =>
      simp only [Ex.toExit, Exit.inBlock]
      simp only [blockQ] at hq
      split
      · rename_i e; rw [if_pos e] at hq; exact ⟨.normal, st', E', rfl, rfl, hq, hs'⟩
      · rename_i e; rw [if_neg e] at hq; exact ⟨.exit i, st', E', rfl, rfl, hq, hs'⟩
    | ret => exact ⟨.ret, st', E', rfl, rfl, hq, hs'⟩
    | goto l => exact ⟨.goto l, st', E', rfl, rfl, hq, hs'⟩
  | .loop c, st, Q, h => fun hok ctx a E hs b k cs => by
    obtain ⟨e, a', w', hr, harr⟩ := h hok ctx a E hs b k cs
    exact ⟨e, a', w', hr, .of_steps (.one step_loop) harr⟩
  | .scope c, st, Q, h => fun hok ctx a E hs b k cs => by
    obtain ⟨e, a', w', ⟨x, st', E', rfl, rfl, hq, hs'⟩, harr⟩ := awp_sound c st _ h hok ctx a E hs b (.inScope c :: k) cs
    cases x with
    | normal => exact ⟨.normal, a', E'.w, ⟨.normal, st', E', rfl, rfl, hq, hs'⟩, .head step_scope (Steps.trans harr (.one step_inScope))⟩
    | exit i => exact ⟨.exit i, a', E'.w, ⟨.exit i, st', E', rfl, rfl, hq, hs'⟩, fun k' hk => .head step_scope (harr k' (by simp [exitTo, hk]))⟩
    | ret => exact ⟨.ret, a', E'.w, ⟨.ret, st', E', rfl, rfl, hq, hs'⟩, .of_steps (.one step_scope) harr⟩
    | goto l =>
      obtain ⟨rest, hf, _, hsem⟩ := hq
      obtain ⟨e2, a2, w2, hr, harr2⟩ := hsem ctx a' E' hs' b k cs
      exact ⟨e2, a2, w2, hr, .of_steps (.head step_scope (harr _ (by simp [gotoIn, hf]))) harr2⟩
  | .exit id, st, Q, h => fun _ ctx a E hs => wp_exit ⟨.exit id, st, E, rfl, rfl, h, hs⟩
  | .ret, st, Q, h => fun _ ctx a E hs => wp_ret ⟨.ret, st, E, rfl, rfl, h, hs⟩
  | .goto l, st, Q, h => fun _ ctx a E hs => wp_goto ⟨.goto l, st, E, rfl, rfl, h, hs⟩
  | .refuse _, _, _, h => h.elim
  | .rangeFunc .., _, _, h => h.elim

/-- From a label on, once. -/
theorem scope_unroll {P : Program} {n : Cf} {c rest : Code} {st : St} {Q : Ex → St → Prop} (hok : okC n.n rest = true) (h : awp P n rest st (gotoQ P n c Q)) : ScopeSem P n c rest st Q := by
  intro ctx a E hs b k cs
  obtain ⟨e, a', w', ⟨x, st', E', rfl, rfl, hq, hs'⟩, harr⟩ := awp_sound rest st _ h hok ctx a E hs b (.inScope c :: k) cs
  cases x with
  | normal => exact ⟨.normal, a', E'.w, ⟨.normal, st', E', rfl, rfl, hq, hs'⟩, Steps.trans harr (.one step_inScope)⟩
  | exit i => exact ⟨.exit i, a', E'.w, ⟨.exit i, st', E', rfl, rfl, hq, hs'⟩, fun k' hk => harr k' (by simp [exitTo, hk])⟩
  | ret => exact ⟨.ret, a', E'.w, ⟨.ret, st', E', rfl, rfl, hq, hs'⟩, harr⟩
  | goto l =>
    obtain ⟨rest', hf, _, hsem⟩ := hq
    obtain ⟨e2, a2, w2, hr, harr2⟩ := hsem ctx a' E' hs' b k cs
    exact ⟨e2, a2, w2, hr, .of_steps (harr _ (by simp [gotoIn, hf])) harr2⟩

theorem ScopeSem.mono {P : Program} {n : Cf} {c rest : Code} {st : St} {Q Q' : Ex → St → Prop} (h : ScopeSem P n c rest st Q) (hq : ∀ e st, Q e st → Q' e st) : ScopeSem P n c rest st Q' := by
  intro ctx a E hs b k cs
  obtain ⟨e, a', w', ⟨x, st', E', r1, r2, r3, r4⟩, harr⟩ := h ctx a E hs b k cs
  exact ⟨e, a', w', ⟨x, st', E', r1, r2, hq _ _ r3, r4⟩, harr⟩

/-- One round. -/
theorem loop_unroll {P : Program} {n : Cf} {body : Code} {st : St} {Q : Ex → St → Prop} (h : awp P n body st (thenQ (fun st' => LoopSem P n body st' Q) Q)) : LoopSem P n body st Q := by
  intro hok ctx a E hs b k cs
  obtain ⟨e, a', w', ⟨x, st', E', rfl, rfl, hq, hs'⟩, harr⟩ := awp_sound body st _ h hok ctx a E hs b (.inLoop body :: k) cs
  cases x with
  | normal =>
    obtain ⟨e2, a2, w2, hr, harr2⟩ := hq hok ctx a' E' hs' b k cs
    exact ⟨e2, a2, w2, hr, .of_steps (Steps.trans harr (.one step_inLoop)) harr2⟩
  | exit id => exact ⟨_, a', E'.w, ⟨.exit id, st', E', rfl, rfl, hq, hs'⟩, .pass (x := .inLoop body) rfl (fun _ _ => .inl (by simp [Ex.toExit])) harr⟩
  | ret => exact ⟨_, a', E'.w, ⟨.ret, st', E', rfl, rfl, hq, hs'⟩, .pass (x := .inLoop body) rfl (fun _ _ => .inl (by simp [Ex.toExit])) harr⟩
  | goto l => exact ⟨_, a', E'.w, ⟨.goto l, st', E', rfl, rfl, hq, hs'⟩, .pass (x := .inLoop body) rfl (fun _ _ => .inl (by simp [Ex.toExit])) harr⟩

theorem LoopSem.mono {P : Program} {n : Cf} {body : Code} {st : St} {Q Q' : Ex → St → Prop} (h : LoopSem P n body st Q) (hq : ∀ e st, Q e st → Q' e st) : LoopSem P n body st Q' := by
  intro hok ctx a E hs b k cs
  obtain ⟨e, a', w', ⟨x, st', E', r1, r2, r3, r4⟩, harr⟩ := h hok ctx a E hs b k cs
  exact ⟨e, a', w', ⟨x, st', E', r1, r2, hq _ _ r3, r4⟩, harr⟩

theorem guarded2.mono {all : Array Oper} {o : Oper} {st : St} {X X' Y Y' : St → Prop} (h : guarded2 all o st X Y) (hx : ∀ s, X s → X' s) (hy : ∀ s, Y s → Y' s) : guarded2 all o st X' Y' := by
  unfold guarded2 at *
  split at h
  · exact hx _ h
  · split at h
    · split at h
      · exact ⟨fun e => hx _ (h.1 e), fun e => hy _ (h.2 e)⟩
      · exact hy _ h
      · exact h
    · exact h

theorem guarded.mono {all : Array Oper} {o : Oper} {st : St} {X X' Y Y' : St → Prop} (h : guarded all o st X Y) (hx : ∀ s, X s → X' s) (hy : ∀ s, Y s → Y' s) : guarded all o st X' Y' := by
  unfold guarded at *
  split at h
  · exact hx _ h
  · split at h
    · split at h
      · exact ⟨fun e => hx _ (h.1 e), fun e => hy _ (h.2 e)⟩
      · exact h
    · exact h

theorem awpOp.mono {P : Program} {o : Oper} {st : St} {K K' : St → Prop} (h : awpOp P o st K) (hk : ∀ s, K s → K' s) : awpOp P o st K' := by
  unfold awpOp at *
  split at h
  · split at h
    · exact h.mono fun _ _ => hk _
    · exact h
  · exact ⟨h.1, fun hf => hk _ (h.2 hf)⟩

theorem awpOps.mono {P : Program} {all : Array Oper} {K K' : St → Prop} (hk : ∀ s, K s → K' s) : ∀ {l : List Oper} {st : St}, awpOps P all l st K → awpOps P all l st K'
  | [], _, h => hk _ h
  | _ :: _, _, h => guarded2.mono h (fun _ hx => awpOp.mono hx fun _ => awpOps.mono hk) (fun _ => awpOps.mono hk)

theorem awpQ.mono {P : Program} {o : Oper} {st : St} {K K' : St → Prop} (h : awpQ P o st K) (hk : ∀ s, K s → K' s) : awpQ P o st K' := by
  unfold awpQ at *
  split at h
  · split at h
    · obtain ⟨x, hc, hx⟩ := h; exact ⟨x, hc, hk _ hx⟩
    · exact h
  · exact ⟨h.1, fun hf => ⟨(h.2 hf).1, hk _ (h.2 hf).2⟩⟩

theorem awpDraw.mono {P : Program} {all : Array Oper} {K K' : St → Prop} (hk : ∀ s, K s → K' s) : ∀ {l : List Oper} {N : List Fo} {st : St}, awpDraw P all l N st K → awpDraw P all l N st K'
  | [], _, _, h => hk _ h
  | o :: rest, N, st, h => by
    simp only [awpDraw] at h ⊢
    split at h
    · exact ⟨h.1, awpDraw.mono hk h.2⟩
    · split at h
      · exact ⟨h.1, awpOps.mono hk h.2⟩
      · exact ⟨h.1, guarded2.mono h.2 (fun _ hx => awpQ.mono hx fun _ => awpDraw.mono hk) (fun _ => awpDraw.mono hk)⟩
theorem awpF.mono {P : Program} {S Fl FE : List Nat} {K K' : St → Prop} (hk : ∀ s, K s → K' s) : ∀ {k : Nat} {l : List Oper} {st : St}, awpF P S Fl FE k l st K → awpF P S Fl FE k l st K'
  | _, [], _, h => hk _ h
  | k, o :: rest, st, h => by
    simp only [awpF] at h ⊢
    split at h
    · split at h
      · split at h
        · obtain ⟨x, H1, a, b, c⟩ := h
          exact ⟨x, H1, a, b, awpF.mono hk c⟩
        · exact h
      · exact ⟨h.1, h.2.1, awpF.mono hk h.2.2⟩
    · exact ⟨h.1, h.2.1, h.2.2.1, awpF.mono hk h.2.2.2⟩
theorem awp.mono {P : Program} {n : Cf} : ∀ {c : Code} {st : St} {Q Q' : Ex → St → Prop}, awp P n c st Q → (∀ e s, Q e s → Q' e s) → awp P n c st Q'
  | .skip, _, _, _, h, hq => hq _ _ h
  | .label _, _, _, _, h, hq => hq _ _ h
  | .region _ ops true, _, _, _, h, hq => by
    simp only [awp] at h ⊢
    split at h
    · obtain ⟨a, b, c, S, Fl, FE, e, d⟩ := h
      exact ⟨a, b, c, S, Fl, FE, e, awpF.mono (hq _) d⟩
    · exact ⟨h.1, h.2.1, awpDraw.mono (hq _) h.2.2⟩
  | .region _ _ false, _, _, _, h, hq => awpOps.mono (hq _) h
  | .seq x y, _, _, _, h, hq => awp.mono (c := x) h fun e s hs => by
    cases e with
    | normal => exact awp.mono (c := y) hs hq
    | exit id => exact hq _ _ hs
    | ret => exact hq _ _ hs
    | goto l => exact hq _ _ hs
  | .cond c x y, st, _, _, h, hq => by
    simp only [awp, condK] at h ⊢
    split at h
    · exact ⟨fun e => awp.mono (h.1 e) hq, fun e => awp.mono (h.2 e) hq⟩
    · exact h
  | .block id c, _, _, _, h, hq => awp.mono (c := c) h fun e s hs => by
    cases e with
    | exit i => simp only [blockQ] at hs ⊢; split <;> simp_all
    | normal => exact hq _ _ hs
    | ret => exact hq _ _ hs
    | goto l => exact hq _ _ hs
  | .loop _, _, _, _, h, hq => LoopSem.mono h hq
  | .scope c, _, _, _, h, hq => awp.mono (c := c) h fun e s hs => by
    cases e with
    | goto l =>
      obtain ⟨rest, h1, h2, h3⟩ := hs
      exact ⟨rest, h1, h2, h3.mono hq⟩
    | normal => exact hq _ _ hs
    | exit i => exact hq _ _ hs
    | ret => exact hq _ _ hs
  | .exit _, _, _, _, h, hq => hq _ _ h
  | .ret, _, _, _, h, hq => hq _ _ h
  | .goto _, _, _, _, h, hq => hq _ _ h
  | .refuse _, _, _, _, h, _ => h.elim
  | .rangeFunc .., _, _, _, h, _ => h.elim

/-- The results of a function, at its end. -/
def resOf (P : Program) (H : List O) (t : List (Nat × V)) : ResultVar → Option (V × Prop)
  | .tmp i => some (look t i, True)
  | .cell i ty => match look t i with
    | .one c => match tAg P ty, rowOf H c with
      | some (g, n), some (row, off, p) => some (ldV g n row off, p ∧ off + wd g n ≤ row.length)
      | _, _ => none
    | _ => none

def resK (P : Program) (rs : List ResultVar) (st : St) (K : V → List O → Prop) : Prop :=
  match rs with
  | [r] => match resOf P st.H st.t r with | some (x, p) => p ∧ K x st.H | none => False
  | rs => match rs.mapM (resOf P st.H st.t) with | some xs => (∀ x ∈ xs, x.2) ∧ K (.tup (xs.map (·.1))) st.H | none => False

def endK (P : Program) (rs : List ResultVar) (K : V → List O → Prop) : Ex → St → Prop
  | .exit _, _ => False
  | .goto _, _ => False
  | _, st => resK P rs st K

def argsT : Nat → List V → List (Nat × V)
  | _, [] => []
  | i, x :: xs => (i, x) :: argsT (i + 1) xs

theorem look_argsT : ∀ (xs : List V) (i j : Nat), look (argsT i xs) j = if i ≤ j then xs.getD (j - i) .un else .un
  | [], i, j => by simp [argsT, look]
  | x :: xs, i, j => by
    simp only [argsT, look_cons]
    by_cases e : i = j
    · subst e; simp
    · rw [if_neg e, look_argsT xs (i + 1) j]
      by_cases h : i ≤ j
      · rw [if_pos (by omega), if_pos h]
        have : j - i = (j - (i + 1)) + 1 := by omega
        rw [this, List.getD_cons_succ]
      · rw [if_neg (by omega), if_neg h]

def resSem (tmps : Array Value) : ResultVar → Sem Value
  | .tmp t => pure (tmps.getD t undef)
  | .cell a t => do loadVar t (← asAddr (tmps.getD a undef))

theorem resOf_ok {P : Program} {ctx : Env} {n : Cf} {st : St} {a : Act} {E : Env} (h : SR ctx n st a E) {r : ResultVar} {x : V} {p : Prop} (hr : resOf P st.H st.t r = some (x, p)) (hp : p) :
    ∃ v, (resSem a.tmps r).run P E.w = .ok v E.w ∧ VRel E x v := by
  cases r with
  | tmp t => simp only [resOf] at hr; cases hr; exact ⟨_, rfl, h.tm t⟩
  | cell i ty =>
    simp only [resOf] at hr
    split at hr
    · rename_i c hc
      split at hr
      · rename_i g m row off q hg hrow
        cases hr
        have ht := h.tm i
        rw [hc] at ht
        rw [← h.H] at hrow
        obtain ⟨b, o, hv, hrw⟩ := rowOf_ok h.rel (one_inv ht) hrow hp.1
        obtain ⟨u, h1, h2⟩ := load_ok (P := P) hg hrw hp.2
        exact ⟨u, by simp [resSem, hv, asAddr, h1], h2⟩
      · cases hr
    · cases hr

theorem results_list {P : Program} {ctx : Env} {n : Cf} {st : St} {a : Act} {E : Env} (h : SR ctx n st a E) : ∀ (rs : List ResultVar) (xs : List (V × Prop)), rs.mapM (resOf P st.H st.t) = some xs → (∀ x ∈ xs, x.2) →
    ∃ vs : List Value, (rs.mapM (resSem a.tmps)).run P E.w = .ok vs E.w ∧ vs.length = xs.length ∧ ∀ (j : Nat) (x : V × Prop), xs[j]? = some x → ∃ v, vs[j]? = some v ∧ VRel E x.1 v
  | [], xs, hm, hp => by simp at hm; subst hm; exact ⟨[], by simp, rfl, by simp⟩
  | r :: rs, xs, hm, hp => by
    simp only [List.mapM_cons, Option.pure_def, Option.bind_eq_bind] at hm
    cases hr : resOf P st.H st.t r with
    | none => simp [hr] at hm
    | some x =>
      cases hrs : rs.mapM (resOf P st.H st.t) with
      | none => simp [hr, hrs] at hm
      | some ys =>
        simp [hr, hrs] at hm
        subst hm
        obtain ⟨x, p⟩ := x
        obtain ⟨v, h1, h2⟩ := resOf_ok h hr (hp (x, p) (by simp))
        obtain ⟨vs, g1, g2, g3⟩ := results_list h rs ys hrs fun y hy => hp y (by simp [hy])
        refine ⟨v :: vs, by simp [h1, g1], by simp [g2], fun j y hj => ?_⟩
        cases j with
        | zero => simp at hj; subst hj; exact ⟨v, rfl, h2⟩
        | succ j => simpa using g3 j y (by simpa using hj)

theorem results_eq (fn : Func) (tmps : Array Value) : results fn tmps = (do
    let vs ← fn.results.mapM (resSem tmps)
    pure (if h : vs.size = 1 then vs[0] else .tuple vs)) := by
  unfold results
  congr 1

theorem res_ok {P : Program} {ctx : Env} {n : Cf} {st : St} {a : Act} {E : Env} (h : SR ctx n st a E) {fn : Func} {K : V → List O → Prop} (hk : resK P fn.results.toList st K) :
    ∃ v x, (results fn a.tmps).run P E.w = .ok v E.w ∧ VRel E x v ∧ K x E.H := by
  rw [results_eq]
  have hm : ∀ vs : List Value, (fn.results.toList.mapM (resSem a.tmps)).run P E.w = .ok vs E.w → (fn.results.mapM (resSem a.tmps)).run P E.w = .ok vs.toArray E.w := by
    intro vs hv
    rw [Array.mapM_eq_mapM_toList]
    simp [hv]
  unfold resK at hk
  split at hk
  · rename_i r hr
    split at hk
    · rename_i x p hx
      obtain ⟨v, h1, h2⟩ := resOf_ok h hx hk.1
      have := hm [v] (by rw [hr]; simp [h1])
      refine ⟨v, x, ?_, h2, by rw [h.H]; exact hk.2⟩
      simp [this]
    · exact hk.elim
  · rename_i hne
    split at hk
    · rename_i xs hx
      obtain ⟨vs, g1, g2, g3⟩ := results_list h _ xs hx hk.1
      have := hm vs g1
      have hlen : xs.length = fn.results.toList.length := by
        have := results_list h _ xs hx hk.1
        clear this
        have gen : ∀ (rs : List ResultVar) (xs : List (V × Prop)), rs.mapM (resOf P st.H st.t) = some xs → xs.length = rs.length := by
          intro rs
          induction rs with
          | nil => intro xs h; simp at h; simp [h]
          | cons r rs ih =>
            intro xs h
            simp only [List.mapM_cons, Option.pure_def, Option.bind_eq_bind] at h
            cases hr : resOf P st.H st.t r with
            | none => simp [hr] at h
            | some x =>
              cases hrs : rs.mapM (resOf P st.H st.t) with
              | none => simp [hr, hrs] at h
              | some ys => simp [hr, hrs] at h; subst h; simp [ih ys hrs]
        exact gen _ _ hx
      have hsz : vs.toArray.size ≠ 1 := by
        intro e
        simp at e
        have : fn.results.toList.length = 1 := by omega
        obtain ⟨r, hr⟩ := List.length_eq_one_iff.1 this
        exact hne r hr
      refine ⟨.tuple vs.toArray, .tup (xs.map (·.1)), ?_, ?_, by rw [h.H]; exact hk.2⟩
      · simp only [Sem.run_bind, this, Result.andThen_ok]
        rw [dif_neg hsz]; rfl
      · refine .tup (by simp [g2]) fun j y hj => ?_
        simp only [List.getElem?_map, Option.map_eq_some_iff] at hj
        obtain ⟨x, hx, rfl⟩ := hj
        obtain ⟨v, hv, hr⟩ := g3 j x hx
        simp only [Array.getD_eq_getD_getElem?, List.getElem?_toArray, hv, Option.getD_some]
        exact hr
    · exact hk.elim

/-- A function's contract out of its text. -/
theorem ct_of_awp {P : Program} {f : FuncId} {fn : Func} {c : Code} (hf : P.funcs[f]? = some fn) (hb : fn.body = some c) (hname : (fn.name == "runtime.NumGoroutine") = false) (hok : okC fn.ntmps c = true)
    {args : List V} {H : List O} {K : V → List O → Prop} (h : awp P ⟨fn.ntmps, H.length⟩ c ⟨argsT 0 args, H⟩ (endK P fn.results.toList K)) : Ct P f args H K := by
  refine ⟨⟨fn, hf, hname, by simp [hb]⟩, fun E vs hE hH hn hv => ?_⟩
  have hs : SR E ⟨fn.ntmps, H.length⟩ ⟨argsT 0 args, H⟩ { tmps := vs ++ Array.replicate (fn.ntmps - vs.size) undef, defers := [] } E := by
    refine ⟨by simp; omega, by rw [hH]; exact Nat.le_refl _, rfl, fun i => ?_, hH, hE, Trans.refl E⟩
    simp only [look_argsT, Nat.zero_le, if_true, Nat.sub_zero]
    simp only [List.getD_eq_getElem?_getD]
    cases hx : args[i]? with
    | none => simp only [Option.getD_none]; exact .un
    | some x =>
      have hlt : i < vs.size := by rw [hn]; exact (List.getElem?_eq_some_iff.1 hx).1
      have := hv i x hx
      simp only [Option.getD_some]
      rw [Array.getD_eq_getD_getElem?] at this ⊢
      rw [Array.getElem?_append_left hlt]; exact this
  refine calls_of_wp hf hb (wp_mono (awp_sound c _ _ h hok E _ E hs) ?_)
  rintro e a' w' ⟨x, st', E', rfl, rfl, hq, hs'⟩
  have fin : resK P fn.results.toList st' K → a'.defers = [] ∧ ∃ v, (results fn a'.tmps).run P E'.w = .ok v E'.w ∧ (∃ v' x E'', Ending.returned v = .returned v' ∧ E''.w = E'.w ∧ K x E''.H ∧ VRel E'' x v' ∧ HRel E'' ∧ Trans E E'') := by
    intro hk
    obtain ⟨v, y, h1, h2, h3⟩ := res_ok hs' hk
    exact ⟨hs'.defers, v, h1, v, y, E', rfl, rfl, h3, h2, hs'.rel, hs'.tr⟩
  cases x with
  | normal => exact fin hq
  | exit id => exact hq.elim
  | ret => exact fin hq
  | goto l => exact hq.elim

end Go.Lz

end
section
/- Lz14: values without references; functions that only compute; what is forgotten at a loop's head. -/
namespace Go.Lz
set_option linter.unusedVariables false
set_option linter.unusedSimpArgs false

/-! ### What is forgotten. -/



def keepT (ks : List Nat) (t : List (Nat × V)) : List (Nat × V) :=
  match ks with
  | [] => []
  | k :: ks => (k, look t k) :: keepT ks t

def keepLt (m : Nat) (ks : List Nat) (t : List (Nat × V)) : Bool :=
  match ks with
  | [] => true
  | k :: ks => (look t k).lt m && keepLt m ks t

theorem look_keepT {t : List (Nat × V)} : ∀ {ks : List Nat} {i : Nat}, look (keepT ks t) i = if i ∈ ks then look t i else .un
  | [], i => by simp [keepT, look]
  | k :: ks, i => by
    simp only [keepT, look_cons, look_keepT (ks := ks), List.mem_cons]
    by_cases e : k = i
    · subst e; simp
    · simp [e, Ne.symm e]

theorem keepLt_iff {m : Nat} {t : List (Nat × V)} : ∀ {ks : List Nat}, keepLt m ks t = true ↔ ∀ k ∈ ks, (look t k).lt m = true
  | [] => by simp [keepLt]
  | k :: ks => by simp [keepLt, keepLt_iff (ks := ks)]

theorem SR.purge {ctx : Env} {n : Cf} {st : St} {a : Act} {E : Env} (h : SR ctx n st a E) (ks : List Nat) (m : Nat) (hm : n.m ≤ m) (hk : keepLt m ks st.t = true) (ho : ((st.H.take m).all (O.lt m)) = true) :
    ∃ E', E'.w = E.w ∧ SR ctx n ⟨keepT ks st.t, st.H.take m⟩ a E' := by
  have hE := h.rel
  have get : ∀ (id : Nat) (o : O), (E.H.take m)[id]? = some o → id < m ∧ E.H[id]? = some o := by
    intro id o ho
    rw [List.getElem?_take] at ho
    split at ho
    · exact ⟨by assumption, ho⟩
    · cases ho
  have own : ∀ b, ({ E with H := E.H.take m } : Env).own b → E.own b := by
    rintro b ⟨id, o, ho, hl, hb⟩
    exact ⟨id, o, (get id o ho).2, hl, hb⟩
  have hfree : ∀ b, E.free b → ({ E with H := E.H.take m } : Env).free b := fun b hb => ⟨hb.1, hb.2.1, fun ho => hb.2.2 (own b ho)⟩
  have hid : ∀ id, id < m → id < E.H.length → id < (E.H.take m).length ∧ (E.H.take m)[id]? = E.H[id]? ∧ E.bd id = E.bd id := by
    intro id h1 h2
    refine ⟨by simp; omega, by rw [List.getElem?_take, if_pos h1], rfl⟩
  have into : ∀ {c : C} {v : Value}, CRel E c v → c.lt m = true → CRel { E with H := E.H.take m } c v := fun hc hl => hc.into (m := m) hfree (fun _ _ _ => rfl) hid hl
  refine ⟨{ E with H := E.H.take m }, rfl, ⟨h.len, h.hm, h.defers, fun i => ?_, by simp [h.H], ?_, ?_⟩⟩
  · rw [look_keepT]
    split
    · rename_i hi
      exact (h.tm i).into (m := m) hfree (fun _ _ _ => rfl) hid (keepLt_iff.1 hk i hi)
    · exact .un
  · refine ⟨fun id o hio => ?_, fun i j x y hx hy => hE.dist i j x y (get i x hx).2 (get j y hy).2, fun i x hx => hE.nofr i x (get i x hx).2, hE.frlt, hE.glob.of hfree (fun _ _ _ => rfl)⟩
    obtain ⟨hlt, hio'⟩ := get id o hio
    have hol : o.lt m = true := by
      rw [← h.H] at ho
      exact List.all_eq_true.1 ho o (List.mem_of_getElem? hio)
    have := hE.obj id o hio'
    cases o with
    | cells cur sz rows =>
      obtain ⟨h3, h4, h5, h6⟩ := this
      refine ⟨h3, h4, h5, fun hc => ?_⟩
      obtain ⟨arr, ty, h1, h2, h6⟩ := h6 hc
      refine ⟨arr, ty, h1, h2, fun i j c hij => ?_⟩
      obtain ⟨v, hv, hr⟩ := h6 i j c hij
      exact ⟨v, hv, into hr (lt_at2 hol hij)⟩
    | map es =>
      obtain ⟨ents, clock, h1, h2, h3⟩ := this
      refine ⟨ents, clock, h1, h2, fun i k x hi => ?_⟩
      obtain ⟨e, he, hk, hx⟩ := h3 i k x hi
      simp only [O.lt, List.all_eq_true, Bool.and_eq_true] at hol
      have := hol (k, x) (List.mem_of_getElem? hi)
      exact ⟨e, he, into hk this.1, into hx this.2⟩
    | dead => trivial
  · have hcm : ctx.H.length ≤ m := Nat.le_trans h.hm hm
    refine ⟨h.tr.fr, h.tr.size, h.tr.os, h.tr.tape, h.tr.output, h.tr.keep, fun b hb ho => h.tr.own b hb (own b ho), by have := h.tr.len; simp; omega, fun id ver sz rows hid ho => h.tr.objC id ver sz rows hid (get id _ ho).2, fun id es hid ho => h.tr.objM id es hid (get id _ ho).2⟩

theorem LoopSem.purge {P : Program} {n : Cf} {body : Code} {st : St} {Q : Ex → St → Prop} (ks : List Nat) (m : Nat) (hm : n.m ≤ m) (hk : keepLt m ks st.t = true) (ho : ((st.H.take m).all (O.lt m)) = true)
    (h : LoopSem P n body ⟨keepT ks st.t, st.H.take m⟩ Q) : LoopSem P n body st Q := by
  intro hok ctx a E hs b k cs
  obtain ⟨E', hw, hs'⟩ := hs.purge ks m hm hk ho
  rw [← hw]
  exact h hok ctx a E' hs' b k cs

/-! ### Functions that only compute. -/

/-- What lies in own objects, as a value: slices, places, what functions hold; so many steps deep. -/
def C.viewN (H : List O) : Nat → C → C
  | 0, c => match c with | .slf rows => .sl rows | c => c
  | k + 1, c => match c with
    | .msl id ver lo hi => match H[id]? with
      | some (.cells cur _ rows) => if ver = cur then .sl (((rows.take hi).drop lo).map fun r => r.map (C.viewN H k)) else .msl id ver lo hi
      | _ => .msl id ver lo hi
    | .ref id ver row off => match H[id]? with
      | some (.cells cur _ rows) => if ver = cur ∧ row < rows.length then .iptr ((rows.getD row []).map (C.viewN H k)) off else .ref id ver row off
      | _ => .ref id ver row off
    | .fn f cap => .fn f (cap.map (C.viewN H k))
    | .ifc t cs => .ifc t (cs.map (C.viewN H k))
    | .slf rows => .sl rows
    | c => c
def C.view (H : List O) (c : C) : C := C.viewN H 4 c
def viewRows (H : List O) (k : Nat) (rows : List (List C)) : List (List C) := rows.map fun r => r.map (C.viewN H k)

def vMsl (H : List O) (k : Nat) (o : Option O) (id ver lo hi : Nat) : C := match o with
  | some (.cells cur _ rows) => if ver = cur then .sl (viewRows H k ((rows.take hi).drop lo)) else .msl id ver lo hi
  | _ => .msl id ver lo hi
def vRef (H : List O) (k : Nat) (o : Option O) (id ver row off : Nat) : C := match o with
  | some (.cells cur _ rows) => if ver = cur ∧ row < rows.length then .iptr ((rows.getD row []).map (C.viewN H k)) off else .ref id ver row off
  | _ => .ref id ver row off
section
variable {H : List O} {k : Nat}
theorem vn_int {kd : IntKind} {n : Int} : C.viewN H k (.int kd n) = .int kd n := by cases k <;> rfl
theorem vn_bool {b : Bool} : C.viewN H k (.bool b) = .bool b := by cases k <;> rfl
theorem vn_str {b : List UInt8} : C.viewN H k (.str b) = .str b := by cases k <;> rfl
theorem vn_sl {b : List (List C)} : C.viewN H k (.sl b) = .sl b := by cases k <;> rfl
theorem vn_slf {b : List (List C)} : C.viewN H k (.slf b) = .sl b := by cases k <;> rfl
theorem vn_iptr {b : List C} {o : Nat} : C.viewN H k (.iptr b o) = .iptr b o := by cases k <;> rfl
theorem vn_nilfn : C.viewN H k .nilfn = .nilfn := by cases k <;> rfl
theorem vn_nilif : C.viewN H k .nilif = .nilif := by cases k <;> rfl
theorem vn_nilp : C.viewN H k .nilp = .nilp := by cases k <;> rfl
theorem vn_nilm : C.viewN H k .nilm = .nilm := by cases k <;> rfl
theorem vn_mp {i : Nat} : C.viewN H k (.mp i) = .mp i := by cases k <;> rfl
theorem vn_msl4 {id ver lo hi : Nat} : C.viewN H 4 (.msl id ver lo hi) = vMsl H 3 (H[id]?) id ver lo hi := rfl
theorem vn_msl3 {id ver lo hi : Nat} : C.viewN H 3 (.msl id ver lo hi) = vMsl H 2 (H[id]?) id ver lo hi := rfl
theorem vn_msl2 {id ver lo hi : Nat} : C.viewN H 2 (.msl id ver lo hi) = vMsl H 1 (H[id]?) id ver lo hi := rfl
theorem vn_msl1 {id ver lo hi : Nat} : C.viewN H 1 (.msl id ver lo hi) = vMsl H 0 (H[id]?) id ver lo hi := rfl
theorem vn_ref4 {id ver lo hi : Nat} : C.viewN H 4 (.ref id ver lo hi) = vRef H 3 (H[id]?) id ver lo hi := rfl
theorem vn_ref3 {id ver lo hi : Nat} : C.viewN H 3 (.ref id ver lo hi) = vRef H 2 (H[id]?) id ver lo hi := rfl
theorem vn_ref2 {id ver lo hi : Nat} : C.viewN H 2 (.ref id ver lo hi) = vRef H 1 (H[id]?) id ver lo hi := rfl
theorem vn_ref1 {id ver lo hi : Nat} : C.viewN H 1 (.ref id ver lo hi) = vRef H 0 (H[id]?) id ver lo hi := rfl
theorem vn_fn4 {f : FuncId} {cap : List C} : C.viewN H 4 (.fn f cap) = .fn f (cap.map (C.viewN H 3)) := rfl
theorem vn_fn3 {f : FuncId} {cap : List C} : C.viewN H 3 (.fn f cap) = .fn f (cap.map (C.viewN H 2)) := rfl
theorem vn_fn2 {f : FuncId} {cap : List C} : C.viewN H 2 (.fn f cap) = .fn f (cap.map (C.viewN H 1)) := rfl
theorem vn_fn1 {f : FuncId} {cap : List C} : C.viewN H 1 (.fn f cap) = .fn f (cap.map (C.viewN H 0)) := rfl
theorem vn_ifc4 {t : TypeId} {cs : List C} : C.viewN H 4 (.ifc t cs) = .ifc t (cs.map (C.viewN H 3)) := rfl
theorem vn_ifc3 {t : TypeId} {cs : List C} : C.viewN H 3 (.ifc t cs) = .ifc t (cs.map (C.viewN H 2)) := rfl
theorem vn_ifc2 {t : TypeId} {cs : List C} : C.viewN H 2 (.ifc t cs) = .ifc t (cs.map (C.viewN H 1)) := rfl
theorem vn_ifc1 {t : TypeId} {cs : List C} : C.viewN H 1 (.ifc t cs) = .ifc t (cs.map (C.viewN H 0)) := rfl
theorem vr_nil : viewRows H k [] = [] := rfl
theorem vr_cons {r : List C} {rs : List (List C)} : viewRows H k (r :: rs) = r.map (C.viewN H k) :: viewRows H k rs := rfl
theorem vr_app {a b : List (List C)} : viewRows H k (a ++ b) = viewRows H k a ++ viewRows H k b := by simp [viewRows]
theorem vr_rep {n : Nat} {r : List C} : viewRows H k (List.replicate n r) = List.replicate n (r.map (C.viewN H k)) := by simp [viewRows]
theorem vr_set {rows : List (List C)} {i : Nat} {r : List C} : viewRows H k (rows.set i r) = (viewRows H k rows).set i (r.map (C.viewN H k)) := by simp [viewRows, List.map_set]
theorem vr_take {rows : List (List C)} {n : Nat} : viewRows H k (rows.take n) = (viewRows H k rows).take n := by simp [viewRows, List.map_take]
theorem vr_drop {rows : List (List C)} {n : Nat} : viewRows H k (rows.drop n) = (viewRows H k rows).drop n := by simp [viewRows, List.map_drop]
end

mutual
def V.view (H : List O) : V → V
  | .one c => .one (c.view H)
  | .agg cs => .agg (cs.map (C.view H))
  | .tup vs => .tup (viewVs H vs)
  | .un => .un
def viewVs (H : List O) : List V → List V
  | [] => []
  | v :: vs => v.view H :: viewVs H vs
end

theorem viewVs_eq {H : List O} : ∀ {l : List V}, viewVs H l = l.map (V.view H)
  | [] => rfl
  | c :: r => by simp [viewVs, viewVs_eq (l := r)]

/-- The function f yields x for these arguments, whatever the memory, and turns nothing. -/
def Pu (P : Program) (f : FuncId) (args : List V) (x : V) : Prop := Ct P f args [] fun v H' => v = x ∧ H' = []

/-- Nothing is own any more. -/
def Env.shut (E : Env) : Env := { E with H := [] }

theorem shut_rel {E : Env} (hE : HRel E) : HRel E.shut := ⟨by simp [Env.shut], by simp [Env.shut], by simp [Env.shut], hE.frlt, hE.glob.of (fun b h => ⟨h.1, h.2.1, by rintro ⟨id, o, ho, _⟩; simp [Env.shut] at ho⟩) (fun _ _ _ => rfl)⟩

theorem shut_free {E : Env} (b : Nat) (h : E.free b) : E.shut.free b := ⟨h.1, h.2.1, by rintro ⟨id, o, ho, _⟩; simp [Env.shut] at ho⟩

theorem viewN_gen {E E1 : Env} {H' : List O} (hE : HRel E) (hw : E1.w = E.w) (hf : ∀ b, E.free b → E1.free b)
    (hH : ∀ id cur sz rows, H'[id]? = some (.cells cur sz rows) → E.H[id]? = some (.cells cur sz rows) ∧ ((E.bd id).cap ≠ 0 → E1.free (E.bd id).blk)) :
    ∀ (k : Nat) {c : C} {v : Value}, CRel E c v → (C.viewN H' k c).lt 0 = true → CRel E1 (C.viewN H' k c) v
  | 0, c, v, h, hl => by
    cases c with
    | slf rows => exact (slf_inv h).1.into (m := 0) hf (fun _ _ _ => by rw [hw]) (fun id h => by omega) hl
    | _ => exact h.into (m := 0) hf (fun _ _ _ => by rw [hw]) (fun id h => by omega) hl
  | k + 1, c, v, h, hl => by
    cases c with
    | msl id ver lo hi =>
      simp only [C.viewN] at hl ⊢
      split at hl
      · rename_i cur sz rows ho'
        obtain ⟨ho, hfb⟩ := hH _ _ _ _ ho'
        split at hl
        · rename_i e
          simp only [ho', e, if_true]
          subst e
          obtain ⟨h1, h2, a, cap, rfl, h3, h4⟩ := msl_inv h ho rfl
          obtain ⟨g3, g4, g5, g7⟩ := hE.obj id _ ho
          have hlen : ((rows.take hi).drop lo).length = hi - lo := by simp; omega
          by_cases hz : hi - lo = 0
          · have hnil : (rows.take hi).drop lo = [] := List.eq_nil_of_length_eq_zero (by omega)
            rw [hnil, hz]
            exact .sl (fun _ _ => undef) 0 rfl (Nat.zero_le _) (Nat.zero_le _) (by simp) (by simp) (by simp [at2])
          have hcz : (E.bd id).cap ≠ 0 := by omega
          obtain ⟨arr, ty, g1, g2, g6⟩ := g7 hcz
          have hsz : ∀ r ∈ ((rows.take hi).drop lo).map (fun r => r.map (C.viewN H' k)), r.length = sz := by
            intro r hr
            obtain ⟨r0, hr0, rfl⟩ := List.mem_map.1 hr
            rw [List.length_map]; exact g5 r0 (List.mem_of_mem_take (List.mem_of_mem_drop hr0))
          have key : ∀ i j c, at2 (((rows.take hi).drop lo).map (fun r => r.map (C.viewN H' k))) i j = some c → ∃ c0, at2 rows (lo + i) j = some c0 ∧ c = C.viewN H' k c0 := by
            intro i j c hij
            obtain ⟨r, hr, hj⟩ := at2_some.1 hij
            rw [List.getElem?_map, List.getElem?_drop, List.getElem?_take] at hr
            split at hr
            · simp only [Option.map_eq_some_iff] at hr
              obtain ⟨r0, hr0, rfl⟩ := hr
              simp only [List.getElem?_map, Option.map_eq_some_iff] at hj
              obtain ⟨c0, hc0, rfl⟩ := hj
              exact ⟨c0, at2_some.2 ⟨r0, hr0, hc0⟩, rfl⟩
            · simp at hr
          have fnx : ∀ i j, ∃ y, ∀ c, at2 (((rows.take hi).drop lo).map (fun r => r.map (C.viewN H' k))) i j = some c → arr[(E.bd id).off + lo * sz + (i * sz + j)]? = some y ∧ CRel E1 c y := by
            intro i j
            cases hc : at2 (((rows.take hi).drop lo).map (fun r => r.map (C.viewN H' k))) i j with
            | none => exact ⟨undef, by simp⟩
            | some c =>
              obtain ⟨c0, hc0, rfl⟩ := key i j c hc
              obtain ⟨y, hy, hr⟩ := g6 _ _ _ hc0
              exact ⟨y, fun c' e => by cases e; exact ⟨by rw [← hy]; congr 1; rw [Nat.add_mul]; omega, viewN_gen hE hw hf hH k hr (lt_at2 hl hc)⟩⟩
          refine .sl (fun i j => Classical.choose (fnx i j)) sz (by rw [List.length_map]; exact hlen.symm) (by rw [List.length_map]; omega) (by rw [List.length_map]; omega) hsz (fun hne => ?_) (fun i j c hij => ?_)
          · refine ⟨(E.bd id).blk, (E.bd id).off + lo * sz, by rw [h4 (by omega)], (hfb hcz), fun i j c hij => ?_⟩
            have := (Classical.choose_spec (fnx i j) c hij).1
            rw [hw]
            rw [g1.cell?]
            exact this
          · exact (Classical.choose_spec (fnx i j) c hij).2
        · simp [C.lt] at hl
      · simp [C.lt] at hl
    | ref id ver row off =>
      simp only [C.viewN] at hl ⊢
      split at hl
      · rename_i cur sz rows ho'
        obtain ⟨ho, hfb⟩ := hH _ _ _ _ ho'
        split at hl
        · rename_i e
          rw [if_pos e]
          have hv := ref_addr h ho e.1
          obtain ⟨g3, g4, g5, g7⟩ := hE.obj id _ ho
          have hcz : (E.bd id).cap ≠ 0 := by omega
          have hrow := ORel.rowIn hE ho row
          have fnx : ∀ j, ∃ y, ∀ c, ((rows.getD row []).map (C.viewN H' k))[j]? = some c → E1.w.cell? ⟨(E.bd id).blk, (E.bd id).off + row * sz + j, none⟩ = some y ∧ CRel E1 c y := by
            intro j
            cases hc : ((rows.getD row []).map (C.viewN H' k))[j]? with
            | none => exact ⟨undef, by simp⟩
            | some c =>
              have hm := List.mem_of_getElem? hc
              simp only [List.getElem?_map, Option.map_eq_some_iff] at hc
              obtain ⟨c0, hc0, rfl⟩ := hc
              obtain ⟨y, hy, hr⟩ := hrow j c0 hc0
              exact ⟨y, fun c' e => by cases e; exact ⟨by rw [hw]; exact hy, viewN_gen hE hw hf hH k hr (ltRow_iff.1 (show ltRow 0 _ = true from hl) _ hm)⟩⟩
          refine .iptr (b := (E.bd id).blk) (o := (E.bd id).off + row * sz) (fun j => Classical.choose (fnx j)) (by rw [hv, Nat.add_assoc]) (hfb hcz) (fun j c hj => ?_) (fun j c hj => ?_)
          · exact (Classical.choose_spec (fnx j) c hj).1
          · exact (Classical.choose_spec (fnx j) c hj).2
        · simp [C.lt] at hl
      · simp [C.lt] at hl
    | fn f cap =>
      simp only [C.viewN] at hl ⊢
      cases h with
      | @fn _ _ vs hn hv =>
        refine .fn (by simpa using hn) fun j c hj => ?_
        have hm := List.mem_of_getElem? hj
        simp only [List.getElem?_map, Option.map_eq_some_iff] at hj
        obtain ⟨c0, hc0, rfl⟩ := hj
        exact viewN_gen hE hw hf hH k (hv j c0 hc0) (ltRow_iff.1 (show ltRow 0 _ = true from hl) _ hm)
    | ifc t cs =>
      simp only [C.viewN] at hl ⊢
      cases h with
      | @ifc _ _ vs hn hv =>
        refine .ifc (by simpa using hn) fun j c hj => ?_
        have hm := List.mem_of_getElem? hj
        simp only [List.getElem?_map, Option.map_eq_some_iff] at hj
        obtain ⟨c0, hc0, rfl⟩ := hj
        exact viewN_gen hE hw hf hH k (hv j c0 hc0) (ltRow_iff.1 (show ltRow 0 _ = true from hl) _ hm)
    | slf rows => exact (slf_inv h).1.into (m := 0) hf (fun _ _ _ => by rw [hw]) (fun id h => by omega) hl
    | _ => exact h.into (m := 0) hf (fun _ _ _ => by rw [hw]) (fun id h => by omega) hl
theorem viewN_ok {E : Env} (hE : HRel E) (k : Nat) {c : C} {v : Value} (h : CRel E c v) (hl : (C.viewN E.H k c).lt 0 = true) : CRel E.shut (C.viewN E.H k c) v :=
  viewN_gen (E1 := E.shut) hE rfl shut_free (fun id _ _ _ ho => ⟨ho, fun hc => ⟨hE.lt ho hc, hE.nofr id _ ho hc, by rintro ⟨i, o, hi, _⟩; simp [Env.shut] at hi⟩⟩) k h hl
theorem view_ok {E : Env} (hE : HRel E) {c : C} {v : Value} (h : CRel E c v) (hl : (c.view E.H).lt 0 = true) : CRel E.shut (c.view E.H) v := viewN_ok hE 4 h hl

theorem vview_ok {E : Env} (hE : HRel E) {x : V} {v : Value} (h : VRel E x v) : (x.view E.H).lt 0 = true → VRel E.shut (x.view E.H) v := by
  induction h with
  | one h => intro hl; exact .one (view_ok hE h hl)
  | agg hn h =>
    intro hl
    refine .agg (by simpa using hn) fun j c hj => ?_
    have hm := ltRow_iff.1 (show ltRow 0 _ = true from hl) c (List.mem_of_getElem? hj)
    simp only [List.getElem?_map, Option.map_eq_some_iff] at hj
    obtain ⟨c0, hc0, rfl⟩ := hj
    exact view_ok hE (h j c0 hc0) hm
  | tup hn h ih =>
    intro hl
    simp only [V.view, V.lt, viewVs_eq] at hl ⊢
    refine .tup (by simpa using hn) fun j x hj => ?_
    have hm := List.mem_of_getElem? hj
    have hx := ltVs_iff.1 hl x hm
    simp only [List.getElem?_map, Option.map_eq_some_iff] at hj
    obtain ⟨x0, hx0, rfl⟩ := hj
    exact ih j x0 hx0 hx
  | un => intro _; exact .un

/-- A function's pure contract out of its text. -/
theorem pu_of_awp {P : Program} {f : FuncId} {fn : Func} {c : Code} (hf : P.funcs[f]? = some fn) (hb : fn.body = some c) (hname : (fn.name == "runtime.NumGoroutine") = false) (hok : okC fn.ntmps c = true)
    {args : List V} {x : V} (h : awp P ⟨fn.ntmps, 0⟩ c ⟨argsT 0 args, []⟩ (endK P fn.results.toList fun v H => v.view H = x ∧ x.lt 0 = true)) : Pu P f args x := by
  have := ct_of_awp (H := []) hf hb hname hok h
  refine ⟨this.1, fun E vs h1 h2 h3 h4 => Calls.mono (this.2 E vs h1 h2 h3 h4) ?_⟩
  rintro e w' ⟨v, y, E', rfl, rfl, ⟨rfl, hl⟩, hv, hh, tr⟩
  refine ⟨v, _, E'.shut, rfl, rfl, ⟨rfl, rfl⟩, vview_ok hh hv hl, shut_rel hh, ?_⟩
  have e0 : ∀ b, ¬ E.own b := by rintro b ⟨id, o, ho, _⟩; simp [h2] at ho
  refine ⟨tr.fr, tr.size, tr.os, tr.tape, tr.output, fun b hb _ => tr.keep b hb (e0 b), ?_, by simp [h2], by simp [Env.shut], by simp [Env.shut]⟩
  rintro b hb ⟨id, o, ho, _⟩
  simp [Env.shut] at ho

/-! ### Calls of such functions. -/

def C.own : C → Bool
  | .msl .. => true
  | .ref .. => true
  | .fn _ cap => !cap.isEmpty
  | .ifc _ cs => !cs.isEmpty
  | _ => false
def V.own : V → Bool
  | .agg cs => cs.any C.own
  | .one c => c.own
  | .tup _ => true
  | .un => false
def C.scalar : C → Bool
  | .int .. | .bool _ | .str _ | .nilp | .nilif | .nilfn | .nilm => true
  | _ => false
mutual
def V.scalar : V → Bool
  | .one c => c.scalar
  | .agg cs => cs.all C.scalar
  | .tup vs => scalars vs
  | .un => true
def scalars : List V → Bool
  | [] => true
  | v :: vs => v.scalar && scalars vs
end
theorem scalars_iff : ∀ {l : List V}, scalars l = true ↔ ∀ c ∈ l, c.scalar = true
  | [] => by simp [scalars]
  | c :: r => by simp [scalars, scalars_iff (l := r)]

theorem scalar_any {E E' : Env} {c : C} {v : Value} (h : CRel E c v) (hs : c.scalar = true) : CRel E' c v := by
  cases h with
  | int h => exact .int h
  | bool => exact .bool
  | str h hl => exact .str h hl
  | nilfn => exact .nilfn
  | nilif => exact .nilif
  | nilp => exact .nilp
  | nilm => exact .nilm
  | _ => simp [C.scalar] at hs

theorem vscalar_any {E E' : Env} {x : V} {v : Value} (h : VRel E x v) : x.scalar = true → VRel E' x v := by
  induction h with
  | one h => intro hs; exact .one (scalar_any h hs)
  | agg hn h =>
    intro hs
    exact .agg hn fun j c hj => scalar_any (h j c hj) (List.all_eq_true.1 (show _ = true from hs) c (List.mem_of_getElem? hj))
  | tup hn h ih =>
    intro hs
    exact .tup hn fun j x hj => ih j x hj (scalars_iff.1 hs x (List.mem_of_getElem? hj))
  | un => intro _; exact .un

theorem call_pure {P : Program} {f : FuncId} {args args' : List V} {H : List O} {x : V} {K : V → List O → Prop} (h : Pu P f args' x) (ha : args.map (V.view H) = args') (hl : ltVs 0 args' = true) (hx : x.lt 0 = true)
    (hb : args.all (fun a => !a.own) = true ∨ x.scalar = true) (hk : K x H) : Ct P f args H K := by
  refine ⟨h.1, fun E vs hE hH hn hv => ?_⟩
  subst hH
  subst ha
  -- the callee's own view of memory
  have main : ∀ (Fr : Nat → Prop), (∀ b, Fr b → b < E.w.heap.size) → (∀ b, E.free b → ¬ Fr b) → (∀ (j : Nat) (y : V), args[j]? = some y → VRel ⟨E.w, Fr, E.bd, []⟩ (y.view E.H) (vs.getD j undef)) →
      (∀ (E' : Env) (v : Value), E'.H = [] → E'.Fr = Fr → Trans ⟨E.w, Fr, E.bd, []⟩ E' → VRel E' x v → VRel ⟨E'.w, E.Fr, E.bd, E.H⟩ x v) →
      Calls P f vs E.w fun e w' => ∃ v x E', e = .returned v ∧ E'.w = w' ∧ K x E'.H ∧ VRel E' x v ∧ HRel E' ∧ Trans E E' := by
    intro Fr hfr hff hargs hback
    refine Calls.mono (h.2 ⟨E.w, Fr, E.bd, []⟩ vs ⟨by simp, by simp, by simp, hfr, hE.glob.of (fun b hb => ⟨hb.1, hff b hb, by rintro ⟨id, o, ho, _⟩; simp at ho⟩) (fun _ _ _ => rfl)⟩ rfl (by simpa using hn) (fun j y hj => ?_)) ?_
    · simp only [List.getElem?_map, Option.map_eq_some_iff] at hj
      obtain ⟨z, hz, rfl⟩ := hj
      exact hargs j z hz
    · rintro e w' ⟨v, y, E', rfl, rfl, ⟨rfl, hH'⟩, hyv, hh, tr⟩
      obtain ⟨t2, hh2⟩ := grow_world hE E'.w tr.size tr.os tr.tape tr.output (fun b hb => tr.keep b hb (by rintro ⟨id, o, ho, _⟩; simp at ho))
      exact ⟨v, y, ⟨E'.w, E.Fr, E.bd, E.H⟩, rfl, rfl, hk, hback E' v hH' tr.fr tr hyv, hh2, t2⟩
  have hlt : ∀ (j : Nat) (y : V), args[j]? = some y → (y.view E.H).lt 0 = true := fun j y hj => ltVs_iff.1 hl _ (List.mem_map.2 ⟨y, List.mem_of_getElem? hj, rfl⟩)
  rcases hb with hb | hb
  · -- nothing is lent
    refine main (fun b => E.Fr b ∨ E.own b) (fun b hb => hb.elim (hE.frlt b) hE.own_lt) (fun b hb h => h.elim hb.2.1 hb.2.2) (fun j y hj => ?_) (fun E' v hH' hfr tr hv => ?_)
    · have hown : y.own = false := by
        have := List.all_eq_true.1 hb y (List.mem_of_getElem? hj); simpa using this
      have hr := hv j y hj
      have hl' := hlt j y hj
      have hfree : ∀ b, E.free b → (⟨E.w, fun b => E.Fr b ∨ E.own b, E.bd, []⟩ : Env).free b := fun b hb => ⟨hb.1, fun h => h.elim hb.2.1 hb.2.2, by rintro ⟨id, o, ho, _⟩; simp at ho⟩
      have cell : ∀ {c : C} {u : Value}, CRel E c u → c.own = false → (c.view E.H).lt 0 = true → CRel ⟨E.w, fun b => E.Fr b ∨ E.own b, E.bd, []⟩ (c.view E.H) u := by
        intro c u hc ho hcl
        cases c with
        | msl id ver lo hi => simp [C.own] at ho
        | ref id ver r off => simp [C.own] at ho
        | fn f cap =>
          have : cap = [] := by simpa [C.own] using ho
          subst this
          exact hc.into (m := 0) hfree (fun _ _ _ => rfl) (fun id h => by omega) hcl
        | ifc t cap =>
          have : cap = [] := by simpa [C.own] using ho
          subst this
          exact hc.into (m := 0) hfree (fun _ _ _ => rfl) (fun id h => by omega) hcl
        | slf rows => exact (slf_inv hc).1.into (m := 0) hfree (fun _ _ _ => rfl) (fun id h => by omega) hcl
        | _ => exact hc.into (m := 0) hfree (fun _ _ _ => rfl) (fun id h => by omega) hcl
      generalize vs.getD j undef = u at hr
      cases hr with
      | one hc => exact .one (cell hc hown hl')
      | agg hn h =>
        refine .agg (by simpa using hn) fun k c hk => ?_
        have hm := ltRow_iff.1 (show ltRow 0 _ = true from hl') c (List.mem_of_getElem? hk)
        simp only [List.getElem?_map, Option.map_eq_some_iff] at hk
        obtain ⟨c0, hc0, rfl⟩ := hk
        refine cell (h k c0 hc0) ?_ hm
        have := List.any_eq_false.1 (show List.any _ C.own = false from hown) c0 (List.mem_of_getElem? hc0)
        simpa using this
      | tup hn h => simp [V.own] at hown
      | un => exact .un
    · have hfree : ∀ b, E'.free b → (⟨E'.w, E.Fr, E.bd, E.H⟩ : Env).free b := fun b hb => by
        have h1 := hb.2.1
        rw [hfr] at h1
        exact ⟨hb.1, fun h => h1 (.inl h), fun h => h1 (.inr h)⟩
      exact VRel.into (E := E') (m := 0) hfree (fun _ _ _ => rfl) (fun id h => by omega) hv hx
  · -- what is lent does not come back
    refine main E.Fr hE.frlt (fun b hb => hb.2.1) (fun j y hj => ?_) (fun E' v hH' hfr tr hv => vscalar_any hv hb)
    exact vview_ok hE (hv j y hj) (hlt j y hj)

end Go.Lz

end
