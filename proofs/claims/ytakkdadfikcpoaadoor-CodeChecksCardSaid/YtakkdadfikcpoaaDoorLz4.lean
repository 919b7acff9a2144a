/- Lz4: the reckoning of each operation is what the model does (first part). -/
import Derived.Test.YtakkdadfikcpoaaDoorLz3
namespace Go.Lz
set_option linter.unusedVariables false
set_option linter.unusedSimpArgs false

theorem loK_eq (k : IntKind) : k.min = loK k := by cases k <;> rfl
theorem hiK_eq (k : IntKind) : k.max = hiK k := by cases k <;> rfl
theorem wrap_in (k : IntKind) (n : Int) : k.min ≤ k.wrap n ∧ k.wrap n ≤ k.max := by
  cases k <;> simp [IntKind.wrap, IntKind.min, IntKind.max, IntKind.signed, IntKind.bits] <;> omega
theorem wrap_of (k : IntKind) (n : Int) (h1 : loK k ≤ n) (h2 : n ≤ hiK k) : k.wrap n = n := by
  cases k <;> simp [loK, hiK] at h1 h2 <;> simp [IntKind.wrap, IntKind.signed, IntKind.bits] <;> omega

theorem C.ofV_rel (E : Env) {v : Value} {c : C} (h : C.ofV v = some c) : CRel E c v := by
  unfold C.ofV at h
  split at h
  · split at h
    · simp at h; subst h; rename_i hh; exact .int (by rw [loK_eq, hiK_eq]; exact hh)
    · simp at h
  · simp at h; subst h; exact .bool
  · split at h
    · simp at h; subst h; rename_i hh; exact .str rfl hh
    · simp at h
  · simp at h; subst h
    exact .slf (.sl (fun _ _ => undef) 0 rfl (Nat.le_refl _) (Nat.zero_le _) (by simp) (by simp) (by simp [at2])) ⟨_, rfl⟩
  · simp at h; subst h; exact .nilp
  · simp at h; subst h; exact .nilm
  · simp at h; subst h; exact .nilfn
  · simp at h; subst h; exact .nilif
  · simp at h

theorem mapM_ofV {vs : List Value} {l : List C} (h : vs.mapM C.ofV = some l) : vs.length = l.length ∧ ∀ (j : Nat) (c : C), l[j]? = some c → ∃ v, vs[j]? = some v ∧ C.ofV v = some c := by
  induction vs generalizing l with
  | nil => simp at h; subst h; simp
  | cons v vs ih =>
    simp only [List.mapM_cons, Option.pure_def, Option.bind_eq_bind] at h
    cases hv : C.ofV v with
    | none => simp [hv] at h
    | some c =>
      cases hr : vs.mapM C.ofV with
      | none => simp [hv, hr] at h
      | some r =>
        simp [hv, hr] at h
        subst h
        obtain ⟨h1, h2⟩ := ih hr
        refine ⟨by simp [h1], fun j c' hj => ?_⟩
        cases j with
        | zero => simp at hj; subst hj; exact ⟨v, rfl, hv⟩
        | succ j => simp at hj; simpa using h2 j c' hj

theorem V.ofV_rel (E : Env) (v : Value) : VRel E (V.ofV v) v := by
  unfold V.ofV
  split
  · rename_i cs
    split
    · rename_i l hl
      obtain ⟨h1, h2⟩ := mapM_ofV hl
      refine .agg (by simpa using h1) fun j c hj => ?_
      obtain ⟨v, hv, hc⟩ := h2 j c hj
      have : cs[j]? = some v := by simpa using hv
      simp only [Array.getD_eq_getD_getElem?, this, Option.getD_some]
      exact C.ofV_rel E hc
    · exact .un
  · split
    · rename_i c hc; exact .one (C.ofV_rel E hc)
    · exact .un

/-- An operation's run, and what was reckoned. -/
def Good (P : Program) (E : Env) (s : Sem Value) (r : R) : Prop :=
  r.pre → r.fact ∧ ∃ v E', s.run P E.w = .ok v E'.w ∧ E'.H = r.h ∧ VRel E' r.v v ∧ HRel E' ∧ Trans E E'

theorem Good.bad {P : Program} {E : Env} {s : Sem Value} : Good P E s .bad := fun h => h.elim

theorem Good.same {P : Program} {E : Env} {s : Sem Value} {r : R} (hE : HRel E) (h : r.pre → r.fact ∧ ∃ v, s.run P E.w = .ok v E.w ∧ r.h = E.H ∧ VRel E r.v v) : Good P E s r := fun hp =>
  let ⟨hf, v, h1, h2, h3⟩ := h hp
  ⟨hf, v, E, h1, h2.symm, h3, hE, Trans.refl E⟩

theorem Good.ok {P : Program} {E : Env} {s : Sem Value} {x : V} (hE : HRel E) (h : ∃ v, s.run P E.w = .ok v E.w ∧ VRel E x v) : Good P E s (.ok x E.H) :=
  .same hE fun _ => ⟨trivial, by obtain ⟨v, h1, h2⟩ := h; exact ⟨v, h1, rfl, h2⟩⟩

theorem add_off (b o n : Nat) : (⟨b, o, none⟩ : Addr).add n = ⟨b, o + n, none⟩ := by
  unfold Addr.add; split <;> simp_all

/-! Rows in memory. -/
def rowIn (E : Env) (row : List C) (b o : Nat) : Prop := ∀ (j : Nat) (c : C), row[j]? = some c → ∃ v, E.w.cell? ⟨b, o + j, none⟩ = some v ∧ CRel E c v

theorem underlying_run {P : Program} {t : TypeId} {d : TypeDesc} (h : P.underlying t = some d) (w : World) : (underlying t).run P w = .ok d w := run_underlying h w

theorem tAg_spec {P : Program} {t : TypeId} {g : Bool} {n : Nat} (h : tAg P t = some (g, n)) :
    ∃ d i, P.underlying t = some d ∧ P.info? t = some i ∧ i.size = n ∧ ∀ (w : World), (isAgg t).run P w = .ok g w := by
  unfold tAg at h
  split at h
  · rename_i fs i hu hi
    simp at h
    exact ⟨_, i, hu, hi, h.2, fun w => by simp [isAgg, run_underlying hu, ← h.1]⟩
  · rename_i n' e i hu hi
    simp at h
    exact ⟨_, i, hu, hi, h.2, fun w => by simp [isAgg, run_underlying hu, ← h.1]⟩
  · rename_i d i h1 h2 hu hi
    simp at h
    refine ⟨_, i, hu, hi, h.2, fun w => ?_⟩
    cases d <;> first
      | exact (h1 _ rfl).elim
      | exact (h2 _ _ rfl).elim
      | simp [isAgg, run_underlying hu, ← h.1]
  · simp at h

theorem sizeOf_run {P : Program} {t : TypeId} {i : TypeInfo} (h : P.info? t = some i) (w : World) : (sizeOf t).run P w = .ok i.size w := by simp [sizeOf, typeInfo, h]

theorem load_ok {P : Program} {E : Env} {t : TypeId} {g : Bool} {n : Nat} (hg : tAg P t = some (g, n)) {row : List C} {b o off : Nat} (hr : rowIn E row b o) (hn : off + wd g n ≤ row.length) :
    ∃ v, (loadVar t ⟨b, o + off, none⟩).run P E.w = .ok v E.w ∧ VRel E (ldV g n row off) v := by
  obtain ⟨d, i, hu, hi, hin, ha⟩ := tAg_spec hg
  have pick : ∀ j, j < row.length → ∃ v, E.w.cell? ⟨b, o + j, none⟩ = some v ∧ ∀ c, row[j]? = some c → CRel E c v := by
    intro j hj
    obtain ⟨v, h1, h2⟩ := hr j row[j] (by simp [hj])
    exact ⟨v, h1, fun c hc => by simp [hj] at hc; exact hc ▸ h2⟩
  cases g with
  | false =>
    simp only [wd] at hn
    have hlt : off < row.length := by simp at hn; omega
    obtain ⟨v, h1, h2⟩ := pick off hlt
    refine ⟨v, by simp [loadVar, ha, h1], ?_⟩
    simp only [ldV, Bool.false_eq_true, if_false]
    exact .one (h2 _ (by simp [List.getD_eq_getElem?_getD, hlt]))
  | true =>
    simp only [wd, if_true] at hn
    have : ∀ j, ∃ v, j < n → (E.w.cell? ⟨b, o + off + j, none⟩ = some v ∧ ∀ c, row[off + j]? = some c → CRel E c v) := by
      intro j
      by_cases hj : j < n
      · obtain ⟨v, h1, h2⟩ := pick (off + j) (by omega)
        exact ⟨v, fun _ => ⟨by rw [Nat.add_assoc]; exact h1, h2⟩⟩
      · exact ⟨undef, fun h => (hj h).elim⟩
    let f : Nat → Value := fun j => Classical.choose (this j)
    have hf : ∀ j, j < n → (E.w.cell? ⟨b, o + off + j, none⟩ = some (f j) ∧ ∀ c, row[off + j]? = some c → CRel E c (f j)) := fun j => Classical.choose_spec (this j)
    have hl := run_loadCells (P := P) E.w ⟨b, o + off, none⟩ n f (fun j hj => by rw [add_off]; exact (hf j hj).1)
    refine ⟨.agg ((List.range n).map f).toArray, ?_, ?_⟩
    · simp [loadVar, ha, sizeOf_run hi, hin, hl]
    · simp only [ldV, if_true]
      refine .agg (by simp; omega) fun j c hj => ?_
      have hlt : j < n := by
        have := (List.getElem?_eq_some_iff.1 hj).1
        simp at this; omega
      have hc : row[off + j]? = some c := by
        rw [List.getElem?_take] at hj
        simp [hlt] at hj
        exact hj
      simp [Array.getD_eq_getD_getElem?, hlt]
      exact (hf j hlt).2 c hc

theorem rowIn_of_iptr {E : Env} {row : List C} {off : Nat} {v : Value} (h : CRel E (.iptr row off) v) : ∃ b o, v = .pointer (some ⟨b, o + off, none⟩) ∧ rowIn E row b o := by
  cases h with
  | iptr vals he hb hc hv => exact ⟨_, _, he, fun j c hj => ⟨vals j, hc j c hj, hv j c hj⟩⟩

theorem at2_row {rows : List (List C)} {r j : Nat} {c : C} (h : (rows.getD r [])[j]? = some c) : at2 rows r j = some c := by
  simp only [List.getD_eq_getElem?_getD] at h
  cases hr : rows[r]? with
  | none => simp [hr] at h
  | some x => simp [hr] at h; simp [at2, hr, h]

theorem ORel.rowIn {E : Env} (hE : HRel E) {id cur sz : Nat} {rows : List (List C)} (ho : E.H[id]? = some (.cells cur sz rows)) (r : Nat) :
    rowIn E (rows.getD r []) (E.bd id).blk ((E.bd id).off + r * sz) := by
  obtain ⟨h3, h4, h5, h6⟩ := hE.obj id _ ho
  intro j c hj
  have hlt : r < rows.length := by
    have := at2_row hj
    simp only [at2, Option.bind_eq_some_iff] at this
    obtain ⟨x, hx, _⟩ := this
    exact (List.getElem?_eq_some_iff.1 hx).1
  obtain ⟨arr, ty, h1, h2, h6⟩ := h6 (by omega)
  obtain ⟨v, hv, hr⟩ := h6 r j c (at2_row hj)
  refine ⟨v, ?_, hr⟩
  rw [h1.cell?]
  simpa [Nat.add_assoc] using hv

theorem rowOf_ok {E : Env} (hE : HRel E) {c : C} {v : Value} {row : List C} {off : Nat} {p : Prop} (hc : CRel E c v) (h : rowOf E.H c = some (row, off, p)) (hp : p) :
    ∃ b o, v = .pointer (some ⟨b, o + off, none⟩) ∧ rowIn E row b o := by
  cases c <;> simp only [rowOf] at h <;> try (cases h; done)
  case iptr r o =>
    cases h
    exact rowIn_of_iptr hc
  case ref id ver r o =>
    split at h
    · rename_i cur sz rows ho
      cases h
      cases hc with
      | ref hid hcell hh =>
        obtain ⟨_, h2⟩ := hh cur sz rows ho
        refine ⟨(E.bd id).blk, (E.bd id).off + r * sz, ?_, ORel.rowIn hE ho r⟩
        rw [h2 hp.1, Nat.add_assoc]
    · cases h

theorem loadF_ok {P : Program} {E : Env} (hE : HRel E) {t : TypeId} {x : V} {v : Value} (hx : VRel E x v) : Good P E (Instr.loadAt t v) (loadF P t x E.H) := by
  unfold loadF
  split
  · rename_i c
    split
    · rename_i g n row off p hg hr
      refine .same hE fun ⟨hp, hn⟩ => ⟨trivial, ?_⟩
      cases hx with
      | one hc =>
        obtain ⟨b, o, rfl, hrow⟩ := rowOf_ok hE hc hr hp
        obtain ⟨u, h1, h2⟩ := load_ok hg hrow hn
        exact ⟨u, by simpa [Instr.loadAt, Instr.sureAddr] using h1, rfl, h2⟩
    · exact .bad
  · exact .bad

end Go.Lz
