/- LzL: calls to which own objects are lent: the callee reckons on these objects alone, under numbers of its own. -/
import Derived.Test.YtakkdadfikcpoaaDoorLz16
namespace Go.Lz
set_option linter.unusedVariables false
set_option linter.unusedSimpArgs false

mutual
/-- References under other numbers. -/
def C.ren (f : Nat → Nat) : C → C
  | .sl rows => .sl (renRows f rows)
  | .slf rows => .slf (renRows f rows)
  | .iptr row off => .iptr (renRow f row) off
  | .fn g cap => .fn g (renRow f cap)
  | .ifc t cs => .ifc t (renRow f cs)
  | .ref id ver row off => .ref (f id) ver row off
  | .msl id ver lo hi => .msl (f id) ver lo hi
  | .mp id => .mp (f id)
  | .int k n => .int k n
  | .bool b => .bool b
  | .str s => .str s
  | .nilfn => .nilfn
  | .nilif => .nilif
  | .nilp => .nilp
  | .nilm => .nilm
def renRow (f : Nat → Nat) : List C → List C
  | [] => []
  | c :: r => c.ren f :: renRow f r
def renRows (f : Nat → Nat) : List (List C) → List (List C)
  | [] => []
  | r :: rs => renRow f r :: renRows f rs
end
mutual
/-- All references are to such objects. -/
def C.refs (p : Nat → Bool) : C → Bool
  | .sl rows => refsRows p rows
  | .slf rows => refsRows p rows
  | .iptr row _ => refsRow p row
  | .fn _ cap => refsRow p cap
  | .ifc _ cs => refsRow p cs
  | .ref id _ _ _ => p id
  | .msl id _ _ _ => p id
  | .mp id => p id
  | _ => true
def refsRow (p : Nat → Bool) : List C → Bool
  | [] => true
  | c :: r => c.refs p && refsRow p r
def refsRows (p : Nat → Bool) : List (List C) → Bool
  | [] => true
  | r :: rs => refsRow p r && refsRows p rs
end
theorem renRow_eq {f : Nat → Nat} : ∀ {l : List C}, renRow f l = l.map (C.ren f)
  | [] => rfl
  | c :: r => by rw [renRow, renRow_eq (l := r)]; rfl
theorem renRows_eq {f : Nat → Nat} : ∀ {l : List (List C)}, renRows f l = l.map (List.map (C.ren f))
  | [] => rfl
  | c :: r => by rw [renRows, renRows_eq (l := r), renRow_eq]; rfl
theorem refsRow_iff {p : Nat → Bool} : ∀ {l : List C}, refsRow p l = true ↔ ∀ c ∈ l, c.refs p = true
  | [] => by simp [refsRow]
  | c :: r => by simp [refsRow, refsRow_iff (l := r)]
theorem refsRows_iff {p : Nat → Bool} : ∀ {l : List (List C)}, refsRows p l = true ↔ ∀ r ∈ l, refsRow p r = true
  | [] => by simp [refsRows]
  | c :: r => by simp [refsRows, refsRows_iff (l := r)]
theorem refs_at2 {p : Nat → Bool} {rows : List (List C)} (h : refsRows p rows = true) {i j : Nat} {c : C} (hij : at2 rows i j = some c) : c.refs p = true := by
  obtain ⟨r, hr, hj⟩ := at2_some.1 hij
  exact refsRow_iff.1 (refsRows_iff.1 h r (List.mem_of_getElem? hr)) c (List.mem_of_getElem? hj)
theorem ren_at2 {f : Nat → Nat} {rows : List (List C)} {i j : Nat} : at2 (renRows f rows) i j = (at2 rows i j).map (C.ren f) := by
  rw [renRows_eq]
  simp only [at2, List.getElem?_map]
  cases rows[i]? with
  | none => rfl
  | some r => simp
theorem ren_at2' {f : Nat → Nat} {rows : List (List C)} {i j : Nat} {c : C} (h : at2 (renRows f rows) i j = some c) : ∃ c0, at2 rows i j = some c0 ∧ c = c0.ren f := by
  rw [ren_at2, Option.map_eq_some_iff] at h
  obtain ⟨c0, h1, h2⟩ := h
  exact ⟨c0, h1, h2.symm⟩
def V.ren (f : Nat → Nat) : V → V
  | .one c => .one (c.ren f)
  | .agg cs => .agg (renRow f cs)
  | .tup vs => .tup (renVs f vs)
  | .un => .un
where renVs (f : Nat → Nat) : List V → List V
  | [] => []
  | v :: vs => v.ren f :: renVs f vs
def V.refs (p : Nat → Bool) : V → Bool
  | .one c => c.refs p
  | .agg cs => refsRow p cs
  | .tup vs => refsVs p vs
  | .un => true
where refsVs (p : Nat → Bool) : List V → Bool
  | [] => true
  | v :: vs => v.refs p && refsVs p vs
theorem renVs_eq {f : Nat → Nat} : ∀ {l : List V}, V.ren.renVs f l = l.map (V.ren f)
  | [] => by rw [V.ren.renVs]; rfl
  | c :: r => by rw [V.ren.renVs, renVs_eq (l := r)]; rfl
theorem refsVs_iff {p : Nat → Bool} : ∀ {l : List V}, V.refs.refsVs p l = true ↔ ∀ c ∈ l, c.refs p = true
  | [] => by rw [V.refs.refsVs]; simp
  | c :: r => by rw [V.refs.refsVs]; simp [refsVs_iff (l := r)]
def O.ren (f : Nat → Nat) : O → O
  | .cells ver sz rows => .cells ver sz (renRows f rows)
  | .map es => .map (es.map fun e => (e.1.ren f, e.2.ren f))
  | .dead => .dead
def O.refs (p : Nat → Bool) : O → Bool
  | .cells _ _ rows => refsRows p rows
  | .map es => es.all fun e => e.1.refs p && e.2.refs p
  | .dead => true

/-- What stands for a value in one environment stands for it in another, under other numbers. -/
theorem CRel.ren {E E' : Env} {p : Nat → Bool} {f : Nat → Nat} (hfree : ∀ b, E.free b → E'.free b) (hcell : ∀ b o, E.free b → E'.w.cell? ⟨b, o, none⟩ = E.w.cell? ⟨b, o, none⟩)
    (hid : ∀ id, p id = true → id < E.H.length → f id < E'.H.length ∧ E'.bd (f id) = E.bd id ∧
      (∀ cur sz rows, E'.H[f id]? = some (.cells cur sz rows) → ∃ rows0, E.H[id]? = some (.cells cur sz rows0) ∧ rows0.length = rows.length) ∧ (∀ es, E'.H[f id]? = some (.map es) → ∃ es0, E.H[id]? = some (.map es0)))
    {c : C} {v : Value} (h : CRel E c v) : c.refs p = true → CRel E' (c.ren f) v := by
  induction h with
  | int h => intro _; exact .int h
  | bool => intro _; exact .bool
  | str h hl => intro _; exact .str h hl
  | @sl rows a n cap vals sz hn hcap hlim hsz hb hv ih =>
    intro hl
    have hlen : (renRows f rows).length = rows.length := by rw [renRows_eq]; simp
    refine .sl vals sz (by rw [hlen]; exact hn) (by rw [hlen]; exact hcap) (by rw [hlen]; exact hlim) (fun r hr => ?_) (fun hne => ?_) (fun i j c hij => ?_)
    · rw [renRows_eq] at hr
      obtain ⟨r0, hr0, rfl⟩ := List.mem_map.1 hr
      rw [List.length_map]; exact hsz r0 hr0
    · obtain ⟨b, off, ha, hf, hc⟩ := hb (fun e => hne (by rw [e]; rfl))
      refine ⟨b, off, ha, hfree b hf, fun i j c hij => ?_⟩
      obtain ⟨c0, h1, rfl⟩ := ren_at2' hij
      rw [hcell b _ hf]; exact hc i j c0 h1
    · obtain ⟨c0, h1, rfl⟩ := ren_at2' hij
      exact ih i j c0 h1 (refs_at2 hl h1)
  | @slf rows v h hf ih =>
    intro hl
    obtain ⟨a, ha⟩ := hf
    exact .slf (ih hl) ⟨a, by rw [ha, renRows_eq]; simp⟩
  | @iptr row off b o v vals he hb hc hv ih =>
    intro hl
    have get : ∀ (j : Nat) (c : C), (renRow f row)[j]? = some c → ∃ c0, row[j]? = some c0 ∧ c0.ren f = c := fun j c hj => by
      rw [renRow_eq, List.getElem?_map, Option.map_eq_some_iff] at hj
      exact hj
    refine .iptr vals he (hfree _ hb) (fun j c hj => ?_) (fun j c hj => ?_)
    · obtain ⟨c0, h1, rfl⟩ := get j c hj
      rw [hcell _ _ hb]; exact hc j c0 h1
    · obtain ⟨c0, h1, rfl⟩ := get j c hj
      exact ih j c0 h1 (refsRow_iff.1 hl c0 (List.mem_of_getElem? h1))
  | fn hn hv ih =>
    intro hl
    refine .fn (by rw [renRow_eq, List.length_map]; exact hn) (fun j c hj => ?_)
    rw [renRow_eq, List.getElem?_map, Option.map_eq_some_iff] at hj
    obtain ⟨c0, h1, rfl⟩ := hj
    exact ih j c0 h1 (refsRow_iff.1 hl c0 (List.mem_of_getElem? h1))
  | ifc hn hv ih =>
    intro hl
    refine .ifc (by rw [renRow_eq, List.length_map]; exact hn) (fun j c hj => ?_)
    rw [renRow_eq, List.getElem?_map, Option.map_eq_some_iff] at hj
    obtain ⟨c0, h1, rfl⟩ := hj
    exact ih j c0 h1 (refsRow_iff.1 hl c0 (List.mem_of_getElem? h1))
  | nilfn => intro _; exact .nilfn
  | nilif => intro _; exact .nilif
  | nilp => intro _; exact .nilp
  | nilm => intro _; exact .nilm
  | ref hlt hc h =>
    intro hl
    obtain ⟨h1, h2, h3, _⟩ := hid _ hl hlt
    refine .ref h1 hc fun cur sz rows ho => ?_
    obtain ⟨rows0, h4, _⟩ := h3 cur sz rows ho
    rw [h2]; exact h cur sz rows0 h4
  | msl hlt hc h =>
    intro hl
    obtain ⟨h1, h2, h3, _⟩ := hid _ hl hlt
    refine .msl h1 hc fun cur sz rows ho => ?_
    obtain ⟨rows0, h4, h5⟩ := h3 cur sz rows ho
    obtain ⟨k1, k2⟩ := h cur sz rows0 h4
    refine ⟨k1, fun e => ?_⟩
    rw [h2, ← h5]; exact k2 e
  | mp hlt hc h =>
    intro hl
    obtain ⟨h1, h2, _, h3⟩ := hid _ hl hlt
    refine .mp h1 hc fun es ho => ?_
    obtain ⟨es0, h4⟩ := h3 es ho
    rw [h2]; exact h es0 h4
theorem VRel.ren {E E' : Env} {p : Nat → Bool} {f : Nat → Nat} (hc : ∀ (c : C) (v : Value), CRel E c v → c.refs p = true → CRel E' (c.ren f) v) {x : V} {v : Value} (h : VRel E x v) : x.refs p = true → VRel E' (x.ren f) v := by
  induction h with
  | one h => intro hl; rw [V.refs] at hl; rw [V.ren]; exact .one (hc _ _ h hl)
  | agg hn h =>
    intro hl
    rw [V.refs] at hl
    rw [V.ren]
    refine .agg (by rw [renRow_eq, List.length_map]; exact hn) fun j c hj => ?_
    rw [renRow_eq, List.getElem?_map, Option.map_eq_some_iff] at hj
    obtain ⟨c0, h1, rfl⟩ := hj
    exact hc _ _ (h j c0 h1) (refsRow_iff.1 hl c0 (List.mem_of_getElem? h1))
  | tup hn h ih =>
    intro hl
    rw [V.refs] at hl
    rw [V.ren]
    refine .tup (by rw [renVs_eq, List.length_map]; exact hn) fun j x hj => ?_
    rw [renVs_eq, List.getElem?_map, Option.map_eq_some_iff] at hj
    obtain ⟨c0, h1, rfl⟩ := hj
    exact ih j c0 h1 (refsVs_iff.1 hl c0 (List.mem_of_getElem? h1))
  | un => intro _; rw [V.ren]; exact .un
/-- The same of objects. -/
theorem ORel.ren {E E' : Env} {p : Nat → Bool} {f : Nat → Nat} (hc : ∀ (c : C) (v : Value), CRel E c v → c.refs p = true → CRel E' (c.ren f) v) {id id' : Nat} (hbd : E'.bd id' = E.bd id) {o : O} (hw : E.live id o → E'.w.heap[(E.bd id).blk]? = E.w.heap[(E.bd id).blk]?)
    (h : ORel E id o) (hr : o.refs p = true) : ORel E' id' (o.ren f) := by
  cases o with
  | cells ver sz rows =>
    obtain ⟨h3, h4, h5, h6⟩ := h
    have hlen : (renRows f rows).length = rows.length := by rw [renRows_eq]; simp
    refine ⟨by rw [hbd, hlen]; exact h3, by rw [hlen]; exact h4, fun r hr' => ?_, fun hcap => ?_⟩
    · rw [renRows_eq] at hr'
      obtain ⟨r0, hr0, rfl⟩ := List.mem_map.1 hr'
      rw [List.length_map]; exact h5 r0 hr0
    · rw [hbd] at hcap
      obtain ⟨arr, ty, h1, h2, h6⟩ := h6 hcap
      refine ⟨arr, ty, by rw [hbd]; exact h1.congr (hw hcap), by rw [hbd]; exact h2, fun i j c hij => ?_⟩
      obtain ⟨c0, k1, rfl⟩ := ren_at2' hij
      obtain ⟨v, hv, hrel⟩ := h6 i j c0 k1
      exact ⟨v, by rw [hbd]; exact hv, hc _ _ hrel (refs_at2 hr k1)⟩
  | map es =>
    obtain ⟨ents, clock, h1, h2, h3⟩ := h
    refine ⟨ents, clock, by rw [hbd, hw trivial]; exact h1, by rw [List.length_map]; exact h2, fun i k x hi => ?_⟩
    rw [List.getElem?_map, Option.map_eq_some_iff] at hi
    obtain ⟨e0, k1, k2⟩ := hi
    obtain ⟨e, q1, q2, q3⟩ := h3 i e0.1 e0.2 k1
    have hr2 := List.all_eq_true.1 hr e0 (List.mem_of_getElem? k1)
    rw [Bool.and_eq_true] at hr2
    cases k2
    exact ⟨e, q1, hc _ _ q2 hr2.1, hc _ _ q3 hr2.2⟩
  | dead => trivial

/-- The objects that are lent, under the callee's numbers; and back. -/
def lendO (ids : List Nat) (H : List O) : List O := ids.map fun i => (H.getD i .dead).ren (fun j => ids.idxOf j)
def backO (ids : List Nat) (H H1 : List O) : List O := H.mapIdx fun i o => if ids.contains i then (H1.getD (ids.idxOf i) .dead).ren (fun k => ids.getD k 0) else o

theorem ct_lend {P : Program} {f : FuncId} {args0 args : List V} {H H0 : List O} {K0 K : V → List O → Prop} (ids : List Nat) (h : Ct P f args0 H0 K0)
    (hnd : ids.Nodup) (hlt : ∀ i ∈ ids, i < H.length) (hH0 : lendO ids H = H0) (hcl : (ids.all fun i => (H.getD i .dead).refs (fun j => ids.contains j)) = true)
    (ha : args.map (V.ren fun j => ids.idxOf j) = args0) (har : (args.all fun x => x.refs (fun j => ids.contains j)) = true)
    (hk : ∀ x H1, K0 x H1 → H1.length = ids.length ∧ x.refs (fun k => decide (k < ids.length)) = true ∧ (H1.all fun o => o.refs (fun k => decide (k < ids.length))) = true ∧ K (x.ren fun k => ids.getD k 0) (backO ids H H1)) : Ct P f args H K := by
  refine ⟨h.1, fun E vs hE hH hn hv => ?_⟩
  subst hH
  have hc1 : ∀ {i : Nat}, i ∈ ids → ids.contains i = true := fun hi => by simpa using hi
  have hix : ∀ {i : Nat}, i ∈ ids → ids.idxOf i < ids.length := fun hi => List.idxOf_lt_length_iff.2 hi
  have hgi : ∀ {i : Nat} (hi : i ∈ ids), ids.getD (ids.idxOf i) 0 = i := fun {i} hi => by
    rw [List.getD_eq_getElem?_getD, List.getElem?_eq_getElem (hix hi)]
    simp [List.getElem_idxOf]
  have hgm : ∀ {k : Nat}, k < ids.length → ids.getD k 0 ∈ ids := fun {k} hk => by
    rw [List.getD_eq_getElem?_getD, List.getElem?_eq_getElem hk]
    exact List.getElem_mem hk
  have hig : ∀ {k : Nat}, k < ids.length → ids.idxOf (ids.getD k 0) = k := fun {k} hk => by
    rw [List.getD_eq_getElem?_getD, List.getElem?_eq_getElem hk]
    simp only [Option.getD_some]
    exact hnd.idxOf_getElem k hk
  have hg0 : ∀ {k : Nat}, k < ids.length → ∀ {o : O}, E.H[ids.getD k 0]? = some o → H0[k]? = some (o.ren fun j => ids.idxOf j) := fun {k} hk {o} ho => by
    rw [← hH0, lendO, List.getElem?_map, List.getElem?_eq_getElem hk]
    have : ids.getD k 0 = ids[k] := by rw [List.getD_eq_getElem?_getD, List.getElem?_eq_getElem hk]; rfl
    rw [this] at ho
    simp [List.getD_eq_getElem?_getD, ho]
  have hsome : ∀ {i : Nat}, i ∈ ids → ∃ o, E.H[i]? = some o ∧ o.refs (fun j => ids.contains j) = true := fun {i} hi => by
    refine ⟨E.H[i]'(hlt i hi), by simp [hlt i hi], ?_⟩
    have := List.all_eq_true.1 hcl i hi
    rwa [List.getD_eq_getElem?_getD, List.getElem?_eq_getElem (hlt i hi)] at this
  have hl0 : H0.length = ids.length := by rw [← hH0, lendO, List.length_map]
  -- the callee's environment
  let other : Nat → Prop := fun b => ∃ (j : Nat) (o : O), E.H[j]? = some o ∧ j ∉ ids ∧ E.live j o ∧ (E.bd j).blk = b
  let E0 : Env := ⟨E.w, fun b => E.Fr b ∨ other b, fun k => E.bd (ids.getD k 0), H0⟩
  have live_ren : ∀ {A B : Env} {i j : Nat} {o : O} {g : Nat → Nat}, A.bd i = B.bd j → (A.live i (o.ren g) ↔ B.live j o) := fun {A B i j o g} e => by
    cases o <;> simp [O.ren, Env.live, e]
  have own0 : ∀ b, E0.own b → ∃ (i : Nat) (o : O), i ∈ ids ∧ E.H[i]? = some o ∧ E.live i o ∧ (E.bd i).blk = b := by
    rintro b ⟨k, o, h1, h2, h3⟩
    have hk : k < ids.length := by rw [← hl0]; exact (List.getElem?_eq_some_iff.1 h1).1
    obtain ⟨o0, ho0, _⟩ := hsome (hgm hk)
    have := hg0 hk ho0
    rw [show E0.H[k]? = H0[k]? from rfl, this] at h1
    cases h1
    exact ⟨ids.getD k 0, o0, hgm hk, ho0, (live_ren (A := E0) (B := E) (i := k) (j := ids.getD k 0) rfl).1 h2, h3⟩
  have hfree0 : ∀ b, E.free b → E0.free b := fun b hb => ⟨hb.1, fun h => h.elim hb.2.1 (fun ⟨j, o, q1, _, q2, q3⟩ => hb.2.2 ⟨j, o, q1, q2, q3⟩), fun h => by
    obtain ⟨i, o, _, q1, q2, q3⟩ := own0 b h
    exact hb.2.2 ⟨i, o, q1, q2, q3⟩⟩
  have hrel0 : ∀ (c : C) (v : Value), CRel E c v → c.refs (fun j => ids.contains j) = true → CRel E0 (c.ren fun j => ids.idxOf j) v := fun c v hcv hr =>
    hcv.ren hfree0 (fun _ _ _ => rfl) (fun id hp hid => by
      have hm : id ∈ ids := by simpa using hp
      refine ⟨by show ids.idxOf id < H0.length; rw [hl0]; exact hix hm, by show E.bd _ = _; rw [hgi hm], ?_, ?_⟩
      · intro cur sz rows ho
        obtain ⟨o0, ho0, _⟩ := hsome hm
        have := hg0 (hix hm) (by rw [hgi hm]; exact ho0)
        rw [show E0.H[ids.idxOf id]? = H0[ids.idxOf id]? from rfl, this] at ho
        cases o0 with
        | cells ver sz' rows' =>
          simp only [O.ren, Option.some.injEq, O.cells.injEq] at ho
          obtain ⟨rfl, rfl, rfl⟩ := ho
          exact ⟨rows', ho0, by rw [renRows_eq]; simp⟩
        | map es => simp [O.ren] at ho
        | dead => simp [O.ren] at ho
      · intro es ho
        obtain ⟨o0, ho0, _⟩ := hsome hm
        have := hg0 (hix hm) (by rw [hgi hm]; exact ho0)
        rw [show E0.H[ids.idxOf id]? = H0[ids.idxOf id]? from rfl, this] at ho
        cases o0 with
        | cells ver sz' rows' => simp [O.ren] at ho
        | map es => exact ⟨es, ho0⟩
        | dead => simp [O.ren] at ho) hr
  have hE0 : HRel E0 := by
    have get0 : ∀ {k : Nat} {o : O}, E0.H[k]? = some o → k < ids.length ∧ ∃ o0, E.H[ids.getD k 0]? = some o0 ∧ o0.refs (fun j => ids.contains j) = true ∧ o = o0.ren fun j => ids.idxOf j := fun {k o} hk => by
      have hlt' : k < ids.length := by rw [← hl0]; exact (List.getElem?_eq_some_iff.1 hk).1
      obtain ⟨o0, ho0, hr0⟩ := hsome (hgm hlt')
      have := hg0 hlt' ho0
      rw [show E0.H[k]? = H0[k]? from rfl, this] at hk
      cases hk
      exact ⟨hlt', o0, ho0, hr0, rfl⟩
    refine ⟨fun k o hk => ?_, fun i j x y hx hy lx ly hij => ?_, fun k o hk hl => ?_, fun b hb => ?_, hE.glob.of hfree0 (fun _ _ _ => rfl)⟩
    · obtain ⟨hlt', o0, ho0, hr0, rfl⟩ := get0 hk
      exact (hE.obj _ o0 ho0).ren (E' := E0) hrel0 rfl (fun _ => rfl) hr0
    · obtain ⟨h1, x0, hx0, _, rfl⟩ := get0 hx
      obtain ⟨h2, y0, hy0, _, rfl⟩ := get0 hy
      refine hE.dist _ _ x0 y0 hx0 hy0 ((live_ren (A := E0) (B := E) rfl).1 lx) ((live_ren (A := E0) (B := E) rfl).1 ly) (fun e => hij ?_)
      rw [← hig h1, ← hig h2, e]
    · obtain ⟨h1, x0, hx0, _, rfl⟩ := get0 hk
      have hl' := (live_ren (A := E0) (B := E) (i := k) (j := ids.getD k 0) rfl).1 hl
      rintro (hf | ⟨j, o, q1, q2, q3, q4⟩)
      · exact hE.nofr _ x0 hx0 hl' hf
      · refine hE.dist _ _ o x0 q1 hx0 q3 hl' (fun e => q2 (e ▸ hgm h1)) q4
    · rcases hb with hb | ⟨j, o, q1, _, q2, q3⟩
      · exact hE.frlt b hb
      · exact hE.own_lt ⟨j, o, q1, q2, q3⟩
  subst ha
  refine Calls.mono (h.2 E0 vs hE0 rfl (by simpa using hn) (fun j y hj => ?_)) ?_
  · simp only [List.getElem?_map, Option.map_eq_some_iff] at hj
    obtain ⟨z, hz, rfl⟩ := hj
    exact (hv j z hz).ren hrel0 (List.all_eq_true.1 har z (List.mem_of_getElem? hz))
  · rintro e w' ⟨v, y, E1, rfl, rfl, hK, hyv, hh, tr⟩
    obtain ⟨hlen, hyr, hor, hKK⟩ := hk y E1.H hK
    let bd' : Nat → Bd := fun i => if ids.contains i then E1.bd (ids.idxOf i) else E.bd i
    let E' : Env := ⟨E1.w, E.Fr, bd', backO ids E.H E1.H⟩
    have bdi : ∀ {i : Nat}, i ∈ ids → E'.bd i = E1.bd (ids.idxOf i) := fun {i} hi => if_pos (hc1 hi)
    have bdn : ∀ {i : Nat}, i ∉ ids → E'.bd i = E.bd i := fun {i} hi => if_neg (by simpa using hi)
    have getB : ∀ {i : Nat} {o : O}, E'.H[i]? = some o → (i ∈ ids ∧ ∃ o1, E1.H[ids.idxOf i]? = some o1 ∧ o = o1.ren fun k => ids.getD k 0) ∨ (i ∉ ids ∧ E.H[i]? = some o) := fun {i o} hi => by
      show (_ ∨ _)
      simp only [E', backO, List.getElem?_mapIdx, Option.map_eq_some_iff] at hi
      obtain ⟨o0, h0, hi⟩ := hi
      by_cases hm : i ∈ ids
      · rw [if_pos (hc1 hm)] at hi
        have hlt1 : ids.idxOf i < E1.H.length := by rw [hlen]; exact hix hm
        refine .inl ⟨hm, E1.H[ids.idxOf i], by simp [hlt1], ?_⟩
        rw [← hi, List.getD_eq_getElem?_getD, List.getElem?_eq_getElem hlt1]; rfl
      · rw [if_neg (by simpa using hm)] at hi
        exact .inr ⟨hm, by rw [h0, hi]⟩
    have sizeLe : E.w.heap.size ≤ E1.w.heap.size := tr.size
    have own1 : ∀ b, E'.own b → E1.own b ∨ other b := by
      rintro b ⟨i, o, h1, h2, h3⟩
      rcases getB h1 with ⟨hm, o1, ho1, rfl⟩ | ⟨hm, ho⟩
      · refine .inl ⟨ids.idxOf i, o1, ho1, (live_ren (A := E') (B := E1) (bdi hm)).1 h2, by rw [← bdi hm]; exact h3⟩
      · exact .inr ⟨i, o, ho, hm, (live_bd (bdn hm)).1 h2, by rw [← bdn hm]; exact h3⟩
    have hfree1 : ∀ b, E1.free b → E'.free b := fun b hb => by
      have hfr := hb.2.1
      rw [tr.fr] at hfr
      refine ⟨hb.1, fun h => hfr (.inl h), fun h => ?_⟩
      rcases own1 b h with h | h
      · exact hb.2.2 h
      · exact hfr (.inr h)
    have hid1 : ∀ (c : C) (v : Value), CRel E1 c v → c.refs (fun k => decide (k < ids.length)) = true → CRel E' (c.ren fun k => ids.getD k 0) v := fun c v hcv hr =>
      hcv.ren hfree1 (fun _ _ _ => rfl) (fun k hp hk => by
        have hkl : k < ids.length := by simpa using hp
        have hm := hgm hkl
        refine ⟨?_, by rw [bdi hm, hig hkl], ?_, ?_⟩
        · show _ < (backO ids E.H E1.H).length
          simp only [backO, List.length_mapIdx]
          exact hlt _ hm
        · intro cur sz rows ho
          rcases getB ho with ⟨_, o1, ho1, e⟩ | ⟨hn', _⟩
          · rw [hig hkl] at ho1
            cases o1 with
            | cells ver sz' rows' =>
              simp only [O.ren, O.cells.injEq] at e
              obtain ⟨rfl, rfl, rfl⟩ := e
              exact ⟨rows', ho1, by rw [renRows_eq]; simp⟩
            | map es => simp [O.ren] at e
            | dead => simp [O.ren] at e
          · exact (hn' hm).elim
        · intro es ho
          rcases getB ho with ⟨_, o1, ho1, e⟩ | ⟨hn', _⟩
          · rw [hig hkl] at ho1
            cases o1 with
            | cells ver sz' rows' => simp [O.ren] at e
            | map es => exact ⟨es, ho1⟩
            | dead => simp [O.ren] at e
          · exact (hn' hm).elim) hr
    have notown0 : ∀ b, ¬ E.own b → ¬ E0.own b := fun b hb h => by
      obtain ⟨i, o, _, q1, q2, q3⟩ := own0 b h
      exact hb ⟨i, o, q1, q2, q3⟩
    have t : Trans E E' := by
      refine ⟨rfl, tr.size, tr.os, tr.tape, tr.output, fun b hb ho => tr.keep b hb (notown0 b ho), fun b hb ho => ?_, by simp [E', backO], ?_, ?_⟩
      · rcases own1 b ho with h | ⟨j, o, q1, _, q2, q3⟩
        · obtain ⟨i, o, _, q1, q2, q3⟩ := own0 b (tr.own b hb h)
          exact ⟨i, o, q1, q2, q3⟩
        · exact ⟨j, o, q1, q2, q3⟩
      · intro id ver' sz' rows' hid ho
        rcases getB ho with ⟨hm, o1, ho1, e⟩ | ⟨hm, ho'⟩
        · cases o1 with
          | cells ver1 sz1 rows1 =>
            simp only [O.ren, O.cells.injEq] at e
            obtain ⟨rfl, rfl, rfl⟩ := e
            obtain ⟨ver, sz, rows, k1, k2, k3⟩ := tr.objC (ids.idxOf id) _ _ _ (by show _ < H0.length; rw [hl0]; exact hix hm) ho1
            obtain ⟨o0, ho0, _⟩ := hsome hm
            have hz := hg0 (hix hm) (by rw [hgi hm]; exact ho0)
            rw [show E0.H[ids.idxOf id]? = H0[ids.idxOf id]? from rfl, hz] at k1
            cases o0 with
            | cells ver0 sz0 rows0 =>
              simp only [O.ren, Option.some.injEq, O.cells.injEq] at k1
              obtain ⟨rfl, rfl, rfl⟩ := k1
              refine ⟨ver0, sz0, rows0, ho0, k2, fun e => ?_⟩
              obtain ⟨q1, q2, q3⟩ := k3 e
              refine ⟨q1, ?_, ?_⟩
              · rw [renRows_eq, List.length_map] at q2
                rw [renRows_eq, List.length_map]; exact q2
              · rw [bdi hm, q3]
                show E.bd _ = _
                rw [hgi hm]
            | map es => simp [O.ren] at k1
            | dead => simp [O.ren] at k1
          | map es => simp [O.ren] at e
          | dead => simp [O.ren] at e
        · exact ⟨ver', sz', rows', ho', Nat.le_refl _, fun _ => ⟨rfl, rfl, bdn hm⟩⟩
      · intro id es' hid ho
        rcases getB ho with ⟨hm, o1, ho1, e⟩ | ⟨hm, ho'⟩
        · cases o1 with
          | cells ver1 sz1 rows1 => simp [O.ren] at e
          | map es1 =>
            obtain ⟨es, k1, k2⟩ := tr.objM (ids.idxOf id) es1 (by show _ < H0.length; rw [hl0]; exact hix hm) ho1
            obtain ⟨o0, ho0, _⟩ := hsome hm
            have hz := hg0 (hix hm) (by rw [hgi hm]; exact ho0)
            rw [show E0.H[ids.idxOf id]? = H0[ids.idxOf id]? from rfl, hz] at k1
            cases o0 with
            | cells ver0 sz0 rows0 => simp [O.ren] at k1
            | map es0 =>
              refine ⟨es0, ho0, ?_⟩
              rw [bdi hm, k2]
              show (E.bd _).blk = _
              rw [hgi hm]
            | dead => simp [O.ren] at k1
          | dead => simp [O.ren] at e
        · exact ⟨es', ho', by rw [bdn hm]⟩
    have hE' : HRel E' := by
      refine ⟨fun i o hi => ?_, fun i j x y hx hy lx ly hij hb => ?_, fun i o hi hl hf => ?_, fun b hb => Nat.lt_of_lt_of_le (hE.frlt b hb) sizeLe, hE.gl t⟩
      · rcases getB hi with ⟨hm, o1, ho1, rfl⟩ | ⟨hm, ho⟩
        · exact (hh.obj _ o1 ho1).ren (E' := E') hid1 (bdi hm) (fun _ => rfl) (List.all_eq_true.1 hor o1 (List.mem_of_getElem? ho1))
        · exact (hE.obj i o ho).keep t (bdn hm) (fun hl => tr.keep _ (hE.own_lt ⟨i, o, ho, hl, rfl⟩) (fun h0 => by
            obtain ⟨i', o', q0, q1, q2, q3⟩ := own0 _ h0
            exact hE.dist i' i o' o q1 ho q2 hl (fun e => hm (e ▸ q0)) q3))
      · -- two objects lie apart
        have apart : ∀ {i j : Nat} {x y : O}, i ∈ ids → j ∉ ids → E'.H[i]? = some x → E'.H[j]? = some y → E'.live i x → E'.live j y → (E'.bd i).blk ≠ (E'.bd j).blk := by
          intro i j x y hi hj hx hy lx ly e
          rcases getB hx with ⟨_, x1, hx1, rfl⟩ | ⟨hn', _⟩
          · rcases getB hy with ⟨hj', _⟩ | ⟨_, hy0⟩
            · exact hj hj'
            · have ly0 := (live_bd (bdn hj)).1 ly
              have lx1 := (live_ren (A := E') (B := E1) (bdi hi)).1 lx
              rw [bdi hi, bdn hj] at e
              refine hh.nofr _ x1 hx1 lx1 ?_
              rw [tr.fr, e]
              exact .inr ⟨j, y, hy0, hj, ly0, rfl⟩
          · exact hn' hi
        by_cases hi : i ∈ ids <;> by_cases hj : j ∈ ids
        · rcases getB hx with ⟨_, x1, hx1, rfl⟩ | ⟨hn', _⟩
          · rcases getB hy with ⟨_, y1, hy1, rfl⟩ | ⟨hn', _⟩
            · rw [bdi hi, bdi hj] at hb
              refine hh.dist _ _ x1 y1 hx1 hy1 ((live_ren (A := E') (B := E1) (bdi hi)).1 lx) ((live_ren (A := E') (B := E1) (bdi hj)).1 ly) (fun e => hij ?_) hb
              rw [← hgi hi, ← hgi hj, e]
            · exact hn' hj
          · exact hn' hi
        · exact apart hi hj hx hy lx ly hb
        · exact apart hj hi hy hx ly lx hb.symm
        · rcases getB hx with ⟨hm, _⟩ | ⟨_, hx0⟩
          · exact hi hm
          · rcases getB hy with ⟨hm, _⟩ | ⟨_, hy0⟩
            · exact hj hm
            · rw [bdn hi, bdn hj] at hb
              exact hE.dist i j x y hx0 hy0 ((live_bd (bdn hi)).1 lx) ((live_bd (bdn hj)).1 ly) hij hb
      · rcases getB hi with ⟨hm, o1, ho1, rfl⟩ | ⟨hm, ho⟩
        · have l1 := (live_ren (A := E') (B := E1) (bdi hm)).1 hl
          refine hh.nofr _ o1 ho1 l1 ?_
          rw [tr.fr, ← bdi hm]
          exact .inl hf
        · have l1 := (live_bd (bdn hm)).1 hl
          rw [bdn hm] at hf
          exact hE.nofr i o ho l1 hf
    exact ⟨v, _, E', rfl, rfl, hKK, hyv.ren hid1 hyr, hE', t⟩

/-- A function's contract out of its text, where what it made for itself is forgotten at its end. -/
theorem ct_of_awpL {P : Program} {f : FuncId} {fn : Func} {c : Code} (hf : P.funcs[f]? = some fn) (hb : fn.body = some c) (hname : (fn.name == "runtime.NumGoroutine") = false) (hok : okC fn.ntmps c = true)
    {args : List V} {H : List O} {K : V → List O → Prop} (h : awp P ⟨fn.ntmps, H.length⟩ c ⟨argsT 0 args, H⟩ (endK P fn.results.toList fun v H' => H.length ≤ H'.length ∧ v.lt H.length = true ∧ ((H'.take H.length).all (O.lt H.length)) = true ∧ K v (H'.take H.length))) : Ct P f args H K := by
  have := ct_of_awp hf hb hname hok h
  refine ⟨this.1, fun E vs h1 h2 h3 h4 => Calls.mono (this.2 E vs h1 h2 h3 h4) ?_⟩
  rintro e w' ⟨v, x, E', rfl, rfl, ⟨hl, hx, ho, hK⟩, hv, hh, tr⟩
  have hs : SR E ⟨0, H.length⟩ ⟨[(0, x)], E'.H⟩ { tmps := #[v], defers := [] } E' := by
    refine ⟨Nat.zero_le _, by rw [h2]; exact Nat.le_refl _, rfl, fun i => ?_, rfl, hh, tr⟩
    cases i with
    | zero => simpa [look] using hv
    | succ i => simp only [look]; exact .un
  obtain ⟨E2, hw, hs2⟩ := hs.purge [0] H.length (Nat.le_refl _) (by simp [keepLt, look, hx]) ho
  refine ⟨v, x, E2, rfl, hw, by rw [hs2.H]; exact hK, ?_, hs2.rel, hs2.tr⟩
  have := hs2.tm 0
  rw [look_keepT] at this
  simpa [look] using this
end Go.Lz
