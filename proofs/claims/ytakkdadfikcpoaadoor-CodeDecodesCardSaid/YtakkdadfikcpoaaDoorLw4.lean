/- Lw4: own rows that are given up where a round of a loop ends. -/
import Derived.Test.YtakkdadfikcpoaaDoorLw3
namespace Go.Lz
set_option linter.unusedVariables false
set_option linter.unusedSimpArgs false
section
variable {P : Program} {n : Cf} {F : List Fr} {Q : Ex → St → Prop}
theorem LoopP.weak {body : Code} {st st' : St} (hw : ∀ ctx a E, SR ctx n st a E → ∃ E', E'.w = E.w ∧ SR ctx n st' a E') (h : LoopP P n body F st' Q) : LoopP P n body F st Q := by
  intro hok ctx a E hs b k cs
  obtain ⟨E', e, hs'⟩ := hw ctx a E hs
  rw [← e]
  exact h hok ctx a E' hs' b k cs
theorem SR.fz {ctx : Env} {t : List (Nat × V)} {H : List O} {a : Act} {E : Env} (h : SR ctx n ⟨t, H⟩ a E) (k id : Nat) {ver sz hi : Nat} {rows : List (List C)} (hk : look t k = .one (.msl id ver 0 hi)) (ho : H[id]? = some (.cells ver sz rows)) (hh : hi = rows.length) :
    ∃ E', E'.w = E.w ∧ SR ctx n ⟨(k, .one (.sl rows)) :: t, H.set id .dead⟩ a E' := by
  subst hh
  have hH : E.H = H := h.H
  subst hH
  obtain ⟨tr, hr⟩ := kill_obj h.rel id _ rfl
  refine ⟨{ E with H := E.H.set id .dead }, rfl, ⟨h.len, h.hm, h.defers, fun i => ?_, rfl, hr, h.tr.trans tr⟩⟩
  simp only [look_cons]
  split
  · rename_i e
    subst e
    have hc := one_inv (hk ▸ h.tm k)
    have := fz_rel h.rel tr rfl hc (show fzPc E.H (.msl id ver 0 rows.length) by simp [fzPc, ho]) (fun id' ver' lo hi cur sz' rows' e ho' hcap => by
      obtain ⟨rfl, -, -, -⟩ := C.msl.inj e
      refine ⟨h.rel.lt ho' hcap, h.rel.nofr _ _ ho' hcap, ?_⟩
      rintro ⟨j, o, hj, hl, hb⟩
      have hl' : E.live j o := (live_bd (E := E) (E' := { E with H := E.H.set id .dead }) rfl).1 hl
      simp only [List.getElem?_set] at hj
      split at hj
      · split at hj
        · simp at hj; subst hj; exact hl'.elim
        · simp at hj
      · rename_i hne
        exact h.rel.dist id j _ _ ho' hj hcap hl' hne hb.symm)
    simp only [fzC, ho, List.take_length, List.drop_zero] at this
    exact .one this
  · exact (h.tm i).trans tr
theorem fz_P {body : Code} {t : List (Nat × V)} {H : List O} (k id : Nat) {ver sz hi : Nat} {rows : List (List C)} (h : LoopP P n body F ⟨(k, .one (.sl rows)) :: t, H.set id .dead⟩ Q)
    (hk : look t k = .one (.msl id ver 0 hi) := by rfl) (ho : H[id]? = some (.cells ver sz rows) := by rfl) (hh : hi = rows.length := by simp <;> omega) : LoopP P n body F ⟨t, H⟩ Q :=
  LoopP.weak (fun _ _ _ hs => hs.fz k id hk ho hh) h
theorem plain_P {body : Code} {st : St} (k : Nat) (rows : List (List C)) (hk : look st.t k = .one (.slf rows)) (h : LoopP P n body F ⟨(k, .one (.sl rows)) :: st.t, st.H⟩ Q) : LoopP P n body F st Q :=
  LoopP.weak (st' := ⟨(k, .one (.sl rows)) :: st.t, st.H⟩) (fun _ a E hs => ⟨E, rfl, ⟨hs.len, hs.hm, hs.defers, fun i => by
    simp only [look_cons]
    split
    · rename_i e; subst e
      have := hs.tm k
      rw [hk] at this
      exact .one (slf_inv (one_inv this)).1
    · exact hs.tm i, hs.H, hs.rel, hs.tr⟩⟩) h
end
end Go.Lz
