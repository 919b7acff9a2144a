/- Lz13: soundness of the weakest precondition; functions; calls of functions that only compute. -/
import Derived.Test.YtefnllpnodnimaaLz12
namespace Go.Lz
set_option linter.unusedVariables false
set_option linter.unusedSimpArgs false

theorem HRel.lt_objs {E : Env} (hE : HRel E) : ∀ o ∈ E.H, o.lt E.H.length = true := by
  intro o ho
  obtain ⟨i, hi, hio⟩ := List.mem_iff_getElem.1 ho
  have hob := hE.obj i o (by rw [List.getElem?_eq_getElem hi, hio])
  cases o with
  | cells cur sz rows =>
    obtain ⟨h3, h4, h5, h6⟩ := hob
    show ltRows _ rows = true
    rw [ltRows_iff]
    intro r hr
    rw [ltRow_iff]
    intro c hc
    obtain ⟨q, hq, hqr⟩ := List.mem_iff_getElem.1 hr
    obtain ⟨j, hj, hjc⟩ := List.mem_iff_getElem.1 hc
    obtain ⟨arr, ty, _, _, h6⟩ := h6 (by omega)
    obtain ⟨v, _, hv⟩ := h6 q j c (at2_some.2 ⟨r, by rw [List.getElem?_eq_getElem hq, hqr], by rw [List.getElem?_eq_getElem hj, hjc]⟩)
    exact hv.lt_len
  | map es =>
    obtain ⟨ents, clock, h1, h2, h3⟩ := hob
    simp only [O.lt, List.all_eq_true, Bool.and_eq_true]
    intro p hp
    obtain ⟨q, hq, hqp⟩ := List.mem_iff_getElem.1 hp
    obtain ⟨e, _, hk, hx⟩ := h3 q p.1 p.2 (by rw [List.getElem?_eq_getElem hq, hqp])
    exact ⟨hk.lt_len, hx.lt_len⟩
  | dead => rfl

theorem seeds {E : Env} (hE : HRel E) : ∀ (M : Nat), ∃ E', E'.w = E.w ∧ E'.H = E.H ++ List.replicate M (.cells 0 0 []) ∧ HRel E' ∧ Trans E E'
  | 0 => ⟨E, rfl, by simp, hE, Trans.refl E⟩
  | M + 1 => by
    obtain ⟨E1, h1, h2, h3, h4⟩ := seeds hE M
    obtain ⟨t, hh, _⟩ := seed_obj h3 0 _ rfl
    refine ⟨⟨E1.w, E1.Fr, fun i => if i = E1.H.length then ⟨0, 0, 0⟩ else E1.bd i, E1.H ++ [.cells 0 0 []]⟩, h1, ?_, hh, h4.trans t⟩
    show E1.H ++ [_] = _
    rw [h2, List.append_assoc, List.replicate_succ']

theorem draw_ok {P : Program} {ctx : Env} {n : Cf} {id : Nat} {ops : Array Oper} {st : St} {a : Act} {E : Env} {K : St → Prop} {Q : Exit → Act → World → Prop} (hm : P.follows .mixedOrders = true) (hd : drawB ops = true)
    (hok : ∀ o ∈ ops.toList, ∀ d, o.dst = some d → d < n.n) (hw : awpDraw P ops ops.toList [] st K) (h : SR ctx n st a E) (hQ : ∀ st' a' E', K st' → SR ctx n st' a' E' → Q .normal a' E'.w) :
    (Code.region id ops true).wp P Q a E.w := by
  obtain ⟨T, role, z, f, kt, stE, N', g1, g2, g3, g4, g5, g6, g7, X, g9⟩ := draw_extract (P := P) (all := ops) (n := n.n) hok ops.toList 0 [] st (fun m => by simp) (by simp) ⟨a, E, h.len, h.rel, h.H, fun t _ => h.tm t⟩ hw
  refine wp_region_any hm ?_
  obtain ⟨t0, hh0⟩ := grow_world h.rel { E.w with drawn := E.w.drawn + 1 } (Nat.le_refl _) rfl rfl rfl (fun _ _ => rfl)
  obtain ⟨E1, w1, H1, hh1, t1⟩ := seeds hh0 N'.length
  have hHl : ∀ o ∈ st.H, o.lt st.H.length = true := by have := h.rel.lt_objs; rwa [h.H] at this
  have hheap : stE.H ++ N'.map Fo.o = st.H ++ (List.range N'.length).map (gS z f (baseN []) role (fun i => 0 ≤ i ∧ i < kt)) := by
    rw [g5]
    congr 1
    apply List.ext_getElem?
    intro p
    simp only [List.getElem?_map]
    rcases Nat.lt_or_ge p N'.length with hp | hp
    · have e := g7 p N'[p] (by simp [hp])
      simp [hp, e]
    · rw [List.getElem?_eq_none hp, List.getElem?_eq_none (by simpa using hp)]; rfl
  refine draw_any (P := P) (ctx := ctx) (n := n.n) (ops := ops) (T := T) (l0 := look st.t) (H := st.H) (M := N'.length) (kt := kt) (z := z) (f := f) (role := role) (drawB_spec hd) hok hHl X g2 g4
    (fun fuel listed a' E' hu hls hl h1 h2 h3 h4 h5 h6 => ?_) ops.size (Array.replicate ops.size false) a E1 ?_ ?_ |> fun hh => by rw [w1] at hh; exact hh
  · refine tail_any (P := P) (ctx := ctx) (n := n) (K := K) (k0 := kt) (drawB_spec hd) hok (fun j hj hjs i hij => tailB_spec (g4 (by omega)) j hj hjs i hij) hQ fuel kt listed a' E' ⟨stE.t, stE.H ++ N'.map Fo.o⟩ (Nat.le_refl _) g2 hls hu hl ?_ (by simpa using g6)
    refine ⟨h1, h.hm, h2, fun t => ?_, by rw [h4, hheap], h3, h5⟩
    rw [g9 t, Nat.sub_zero, tvF_zero]
    exact h6 t
  · simp [unl]
    exact Nat.le_trans (List.countP_le_length) (by simp)
  · have none : ∀ j, (Array.replicate ops.size false).getD j false = true → False := by
      intro j hl
      simp only [Array.getD_eq_getD_getElem?, Array.getElem?_replicate] at hl
      split at hl <;> simp at hl
    refine ⟨by simp, fun j o _ hl => (none j hl).elim, fun j hl => (none j hl).elim, h.len, h.defers, hh1, ?_, (h.tr.trans t0).trans t1, fun t => ?_⟩
    · have e : (List.range N'.length).map (gS z f (baseN []) role (fun j => (Array.replicate ops.size false).getD j false = true)) = (List.range N'.length).map (fun _ => (.cells 0 0 [] : O)) := by
        congr 1
        funext p
        rw [gS_b (fun ⟨j, hj, _⟩ => none j hj) (fun ⟨j, hj, _⟩ => none j hj)]; rfl
      rw [e, H1, List.map_const', List.length_range, ← h.H]
    · have : tv ops T (look st.t) (fun j => (Array.replicate ops.size false).getD j false = true) t ops.size = look st.t t := by
        rw [tv_skip (i := 0) (Nat.zero_le _) (fun j _ _ _ hl => (none j hl).elim)]
        rfl
      rw [this]
      exact ((h.tm t).trans t0).trans t1


theorem awp_sound {P : Program} {n : Cf} : ∀ (c : Code) (st : St) (Q : Ex → St → Prop), awp P n c st Q → Sem' P n c st Q
  | .skip, st, Q, h => fun _ ctx a E hs => wp_skip ⟨.normal, st, E, rfl, rfl, h, hs⟩
  | .label l, st, Q, h => fun _ ctx a E hs => wp_label ⟨.normal, st, E, rfl, rfl, h, hs⟩
  | .region id ops draw, st, Q, h => fun hok ctx a E hs => by
    have hok' : ∀ o ∈ ops.toList, ∀ d, o.dst = some d → d < n.n := by
      intro o ho d hd
      simp only [okC, List.all_eq_true] at hok
      have := hok o ho
      simpa [hd] using this
    cases draw with
    | true =>
      obtain ⟨hm, hd, hw⟩ := h
      exact draw_ok hm hd hok' hw hs fun st' a' E' hK hs' => ⟨.normal, st', E', rfl, rfl, hK, hs'⟩
    | false =>
      refine wp_region (awpOps_ok (K := Q .normal) _ (fun st' a' E' hK hs' => ⟨.normal, st', E', rfl, rfl, hK, hs'⟩) hok' (List.range ops.size) ops.toList (by simp) (fun k i hk => ?_) st a E hs h)
      have hlt := (List.getElem?_eq_some_iff.1 hk).1
      simp at hlt
      simp [hlt] at hk
      subst hk
      simp
  | .seq x y, st, Q, h => fun hok ctx a E hs => by
    simp only [okC, Bool.and_eq_true] at hok
    refine wp_seq (wp_mono (awp_sound x st _ h hok.1 ctx a E hs) ?_)
    rintro e a' w' ⟨k, st', E', rfl, rfl, hq, hs'⟩
    cases k with
    | normal => exact awp_sound y st' Q hq hok.2 ctx a' E' hs'
    | exit id => exact ⟨.exit id, st', E', rfl, rfl, hq, hs'⟩
    | ret => exact ⟨.ret, st', E', rfl, rfl, hq, hs'⟩
    | goto l => exact ⟨.goto l, st', E', rfl, rfl, hq, hs'⟩
  | .cond c x y, st, Q, h => fun hok ctx a E hs => by
    simp only [okC, Bool.and_eq_true] at hok
    simp only [awp, condK] at h
    split at h
    · rename_i b hb
      have hc := hs.ρ c
      rw [hb] at hc
      have hv := bool_inv (one_inv hc)
      refine wp_cond hv ?_
      cases b with
      | true => exact awp_sound x st Q (h.1 rfl) hok.1 ctx a E hs
      | false => exact awp_sound y st Q (h.2 rfl) hok.2 ctx a E hs
    · exact h.elim
  | .block id c, st, Q, h => fun hok ctx a E hs => by
    refine wp_block (wp_mono (awp_sound c st _ h hok ctx a E hs) ?_)
    rintro e a' w' ⟨k, st', E', rfl, rfl, hq, hs'⟩
    cases k with
    | normal => exact ⟨.normal, st', E', rfl, rfl, hq, hs'⟩
    | exit i =>
      simp only [Ex.toExit, Exit.inBlock]
      simp only [blockQ] at hq
      split
      · rename_i e; rw [if_pos e] at hq; exact ⟨.normal, st', E', rfl, rfl, hq, hs'⟩
      · rename_i e; rw [if_neg e] at hq; exact ⟨.exit i, st', E', rfl, rfl, hq, hs'⟩
    | ret => exact ⟨.ret, st', E', rfl, rfl, hq, hs'⟩
    | goto l => exact ⟨.goto l, st', E', rfl, rfl, hq, hs'⟩
  | .loop c, st, Q, h => fun hok ctx a E hs b k cs => by
    obtain ⟨e, a', w', hr, harr⟩ := h hok ctx a E hs b k cs
    exact ⟨e, a', w', hr, .of_steps (.one step_loop) harr⟩
  | .scope c, st, Q, h => fun hok ctx a E hs b k cs => by
    obtain ⟨e, a', w', ⟨x, st', E', rfl, rfl, hq, hs'⟩, harr⟩ := awp_sound c st _ h hok ctx a E hs b (.inScope c :: k) cs
    cases x with
    | normal => exact ⟨.normal, a', E'.w, ⟨.normal, st', E', rfl, rfl, hq, hs'⟩, .head step_scope (Steps.trans harr (.one step_inScope))⟩
    | exit i => exact ⟨.exit i, a', E'.w, ⟨.exit i, st', E', rfl, rfl, hq, hs'⟩, fun k' hk => .head step_scope (harr k' (by simp [exitTo, hk]))⟩
    | ret => exact ⟨.ret, a', E'.w, ⟨.ret, st', E', rfl, rfl, hq, hs'⟩, .of_steps (.one step_scope) harr⟩
    | goto l =>
      obtain ⟨rest, hf, _, hsem⟩ := hq
      obtain ⟨e2, a2, w2, hr, harr2⟩ := hsem ctx a' E' hs' b k cs
      exact ⟨e2, a2, w2, hr, .of_steps (.head step_scope (harr _ (by simp [gotoIn, hf]))) harr2⟩
  | .exit id, st, Q, h => fun _ ctx a E hs => wp_exit ⟨.exit id, st, E, rfl, rfl, h, hs⟩
  | .ret, st, Q, h => fun _ ctx a E hs => wp_ret ⟨.ret, st, E, rfl, rfl, h, hs⟩
  | .goto l, st, Q, h => fun _ ctx a E hs => wp_goto ⟨.goto l, st, E, rfl, rfl, h, hs⟩
  | .refuse _, _, _, h => h.elim
  | .rangeFunc .., _, _, h => h.elim

/-- From a label on, once. -/
theorem scope_unroll {P : Program} {n : Cf} {c rest : Code} {st : St} {Q : Ex → St → Prop} (hok : okC n.n rest = true) (h : awp P n rest st (gotoQ P n c Q)) : ScopeSem P n c rest st Q := by
  intro ctx a E hs b k cs
  obtain ⟨e, a', w', ⟨x, st', E', rfl, rfl, hq, hs'⟩, harr⟩ := awp_sound rest st _ h hok ctx a E hs b (.inScope c :: k) cs
  cases x with
  | normal => exact ⟨.normal, a', E'.w, ⟨.normal, st', E', rfl, rfl, hq, hs'⟩, Steps.trans harr (.one step_inScope)⟩
  | exit i => exact ⟨.exit i, a', E'.w, ⟨.exit i, st', E', rfl, rfl, hq, hs'⟩, fun k' hk => harr k' (by simp [exitTo, hk])⟩
  | ret => exact ⟨.ret, a', E'.w, ⟨.ret, st', E', rfl, rfl, hq, hs'⟩, harr⟩
  | goto l =>
    obtain ⟨rest', hf, _, hsem⟩ := hq
    obtain ⟨e2, a2, w2, hr, harr2⟩ := hsem ctx a' E' hs' b k cs
    exact ⟨e2, a2, w2, hr, .of_steps (harr _ (by simp [gotoIn, hf])) harr2⟩

theorem ScopeSem.mono {P : Program} {n : Cf} {c rest : Code} {st : St} {Q Q' : Ex → St → Prop} (h : ScopeSem P n c rest st Q) (hq : ∀ e st, Q e st → Q' e st) : ScopeSem P n c rest st Q' := by
  intro ctx a E hs b k cs
  obtain ⟨e, a', w', ⟨x, st', E', r1, r2, r3, r4⟩, harr⟩ := h ctx a E hs b k cs
  exact ⟨e, a', w', ⟨x, st', E', r1, r2, hq _ _ r3, r4⟩, harr⟩

/-- One round. -/
theorem loop_unroll {P : Program} {n : Cf} {body : Code} {st : St} {Q : Ex → St → Prop} (h : awp P n body st (thenQ (fun st' => LoopSem P n body st' Q) Q)) : LoopSem P n body st Q := by
  intro hok ctx a E hs b k cs
  obtain ⟨e, a', w', ⟨x, st', E', rfl, rfl, hq, hs'⟩, harr⟩ := awp_sound body st _ h hok ctx a E hs b (.inLoop body :: k) cs
  cases x with
  | normal =>
    obtain ⟨e2, a2, w2, hr, harr2⟩ := hq hok ctx a' E' hs' b k cs
    exact ⟨e2, a2, w2, hr, .of_steps (Steps.trans harr (.one step_inLoop)) harr2⟩
  | exit id => exact ⟨_, a', E'.w, ⟨.exit id, st', E', rfl, rfl, hq, hs'⟩, .pass (x := .inLoop body) rfl (fun _ _ => .inl (by simp [Ex.toExit])) harr⟩
  | ret => exact ⟨_, a', E'.w, ⟨.ret, st', E', rfl, rfl, hq, hs'⟩, .pass (x := .inLoop body) rfl (fun _ _ => .inl (by simp [Ex.toExit])) harr⟩
  | goto l => exact ⟨_, a', E'.w, ⟨.goto l, st', E', rfl, rfl, hq, hs'⟩, .pass (x := .inLoop body) rfl (fun _ _ => .inl (by simp [Ex.toExit])) harr⟩

theorem LoopSem.mono {P : Program} {n : Cf} {body : Code} {st : St} {Q Q' : Ex → St → Prop} (h : LoopSem P n body st Q) (hq : ∀ e st, Q e st → Q' e st) : LoopSem P n body st Q' := by
  intro hok ctx a E hs b k cs
  obtain ⟨e, a', w', ⟨x, st', E', r1, r2, r3, r4⟩, harr⟩ := h hok ctx a E hs b k cs
  exact ⟨e, a', w', ⟨x, st', E', r1, r2, hq _ _ r3, r4⟩, harr⟩

theorem guarded2.mono {all : Array Oper} {o : Oper} {st : St} {X X' Y Y' : St → Prop} (h : guarded2 all o st X Y) (hx : ∀ s, X s → X' s) (hy : ∀ s, Y s → Y' s) : guarded2 all o st X' Y' := by
  unfold guarded2 at *
  split at h
  · exact hx _ h
  · split at h
    · split at h
      · exact ⟨fun e => hx _ (h.1 e), fun e => hy _ (h.2 e)⟩
      · exact hy _ h
      · exact h
    · exact h

theorem guarded.mono {all : Array Oper} {o : Oper} {st : St} {X X' Y Y' : St → Prop} (h : guarded all o st X Y) (hx : ∀ s, X s → X' s) (hy : ∀ s, Y s → Y' s) : guarded all o st X' Y' := by
  unfold guarded at *
  split at h
  · exact hx _ h
  · split at h
    · split at h
      · exact ⟨fun e => hx _ (h.1 e), fun e => hy _ (h.2 e)⟩
      · exact h
    · exact h

theorem awpOp.mono {P : Program} {o : Oper} {st : St} {K K' : St → Prop} (h : awpOp P o st K) (hk : ∀ s, K s → K' s) : awpOp P o st K' := by
  unfold awpOp at *
  split at h
  · split at h
    · exact h.mono fun _ _ => hk _
    · exact h
  · exact ⟨h.1, fun hf => hk _ (h.2 hf)⟩

theorem awpOps.mono {P : Program} {all : Array Oper} {K K' : St → Prop} (hk : ∀ s, K s → K' s) : ∀ {l : List Oper} {st : St}, awpOps P all l st K → awpOps P all l st K'
  | [], _, h => hk _ h
  | _ :: _, _, h => guarded2.mono h (fun _ hx => awpOp.mono hx fun _ => awpOps.mono hk) (fun _ => awpOps.mono hk)

theorem awpQ.mono {P : Program} {o : Oper} {st : St} {K K' : St → Prop} (h : awpQ P o st K) (hk : ∀ s, K s → K' s) : awpQ P o st K' := by
  unfold awpQ at *
  split at h
  · split at h
    · obtain ⟨x, hc, hx⟩ := h; exact ⟨x, hc, hk _ hx⟩
    · exact h
  · exact ⟨h.1, fun hf => ⟨(h.2 hf).1, hk _ (h.2 hf).2⟩⟩

theorem awpDraw.mono {P : Program} {all : Array Oper} {K K' : St → Prop} (hk : ∀ s, K s → K' s) : ∀ {l : List Oper} {N : List Fo} {st : St}, awpDraw P all l N st K → awpDraw P all l N st K'
  | [], _, _, h => hk _ h
  | o :: rest, N, st, h => by
    simp only [awpDraw] at h ⊢
    split at h
    · exact ⟨h.1, awpDraw.mono hk h.2⟩
    · split at h
      · exact ⟨h.1, awpOps.mono hk h.2⟩
      · exact ⟨h.1, guarded2.mono h.2 (fun _ hx => awpQ.mono hx fun _ => awpDraw.mono hk) (fun _ => awpDraw.mono hk)⟩
theorem awp.mono {P : Program} {n : Cf} : ∀ {c : Code} {st : St} {Q Q' : Ex → St → Prop}, awp P n c st Q → (∀ e s, Q e s → Q' e s) → awp P n c st Q'
  | .skip, _, _, _, h, hq => hq _ _ h
  | .label _, _, _, _, h, hq => hq _ _ h
  | .region _ _ true, _, _, _, h, hq => ⟨h.1, h.2.1, awpDraw.mono (hq _) h.2.2⟩
  | .region _ _ false, _, _, _, h, hq => awpOps.mono (hq _) h
  | .seq x y, _, _, _, h, hq => awp.mono (c := x) h fun e s hs => by
    cases e with
    | normal => exact awp.mono (c := y) hs hq
    | exit id => exact hq _ _ hs
    | ret => exact hq _ _ hs
    | goto l => exact hq _ _ hs
  | .cond c x y, st, _, _, h, hq => by
    simp only [awp, condK] at h ⊢
    split at h
    · exact ⟨fun e => awp.mono (h.1 e) hq, fun e => awp.mono (h.2 e) hq⟩
    · exact h
  | .block id c, _, _, _, h, hq => awp.mono (c := c) h fun e s hs => by
    cases e with
    | exit i => simp only [blockQ] at hs ⊢; split <;> simp_all
    | normal => exact hq _ _ hs
    | ret => exact hq _ _ hs
    | goto l => exact hq _ _ hs
  | .loop _, _, _, _, h, hq => LoopSem.mono h hq
  | .scope c, _, _, _, h, hq => awp.mono (c := c) h fun e s hs => by
    cases e with
    | goto l =>
      obtain ⟨rest, h1, h2, h3⟩ := hs
      exact ⟨rest, h1, h2, h3.mono hq⟩
    | normal => exact hq _ _ hs
    | exit i => exact hq _ _ hs
    | ret => exact hq _ _ hs
  | .exit _, _, _, _, h, hq => hq _ _ h
  | .ret, _, _, _, h, hq => hq _ _ h
  | .goto _, _, _, _, h, hq => hq _ _ h
  | .refuse _, _, _, _, h, _ => h.elim
  | .rangeFunc .., _, _, _, h, _ => h.elim

/-- The results of a function, at its end. -/
def resOf (P : Program) (H : List O) (t : List (Nat × V)) : ResultVar → Option (V × Prop)
  | .tmp i => some (look t i, True)
  | .cell i ty => match look t i with
    | .one c => match tAg P ty, rowOf H c with
      | some (g, n), some (row, off, p) => some (ldV g n row off, p ∧ off + wd g n ≤ row.length)
      | _, _ => none
    | _ => none

def resK (P : Program) (rs : List ResultVar) (st : St) (K : V → List O → Prop) : Prop :=
  match rs with
  | [r] => match resOf P st.H st.t r with | some (x, p) => p ∧ K x st.H | none => False
  | rs => match rs.mapM (resOf P st.H st.t) with | some xs => (∀ x ∈ xs, x.2) ∧ K (.tup (xs.map (·.1))) st.H | none => False

def endK (P : Program) (rs : List ResultVar) (K : V → List O → Prop) : Ex → St → Prop
  | .exit _, _ => False
  | .goto _, _ => False
  | _, st => resK P rs st K

def argsT : Nat → List V → List (Nat × V)
  | _, [] => []
  | i, x :: xs => (i, x) :: argsT (i + 1) xs

theorem look_argsT : ∀ (xs : List V) (i j : Nat), look (argsT i xs) j = if i ≤ j then xs.getD (j - i) .un else .un
  | [], i, j => by simp [argsT, look]
  | x :: xs, i, j => by
    simp only [argsT, look_cons]
    by_cases e : i = j
    · subst e; simp
    · rw [if_neg e, look_argsT xs (i + 1) j]
      by_cases h : i ≤ j
      · rw [if_pos (by omega), if_pos h]
        have : j - i = (j - (i + 1)) + 1 := by omega
        rw [this, List.getD_cons_succ]
      · rw [if_neg (by omega), if_neg h]

def resSem (tmps : Array Value) : ResultVar → Sem Value
  | .tmp t => pure (tmps.getD t undef)
  | .cell a t => do loadVar t (← asAddr (tmps.getD a undef))

theorem resOf_ok {P : Program} {ctx : Env} {n : Cf} {st : St} {a : Act} {E : Env} (h : SR ctx n st a E) {r : ResultVar} {x : V} {p : Prop} (hr : resOf P st.H st.t r = some (x, p)) (hp : p) :
    ∃ v, (resSem a.tmps r).run P E.w = .ok v E.w ∧ VRel E x v := by
  cases r with
  | tmp t => simp only [resOf] at hr; cases hr; exact ⟨_, rfl, h.tm t⟩
  | cell i ty =>
    simp only [resOf] at hr
    split at hr
    · rename_i c hc
      split at hr
      · rename_i g m row off q hg hrow
        cases hr
        have ht := h.tm i
        rw [hc] at ht
        rw [← h.H] at hrow
        obtain ⟨b, o, hv, hrw⟩ := rowOf_ok h.rel (one_inv ht) hrow hp.1
        obtain ⟨u, h1, h2⟩ := load_ok (P := P) hg hrw hp.2
        exact ⟨u, by simp [resSem, hv, asAddr, h1], h2⟩
      · cases hr
    · cases hr

theorem results_list {P : Program} {ctx : Env} {n : Cf} {st : St} {a : Act} {E : Env} (h : SR ctx n st a E) : ∀ (rs : List ResultVar) (xs : List (V × Prop)), rs.mapM (resOf P st.H st.t) = some xs → (∀ x ∈ xs, x.2) →
    ∃ vs : List Value, (rs.mapM (resSem a.tmps)).run P E.w = .ok vs E.w ∧ vs.length = xs.length ∧ ∀ (j : Nat) (x : V × Prop), xs[j]? = some x → ∃ v, vs[j]? = some v ∧ VRel E x.1 v
  | [], xs, hm, hp => by simp at hm; subst hm; exact ⟨[], by simp, rfl, by simp⟩
  | r :: rs, xs, hm, hp => by
    simp only [List.mapM_cons, Option.pure_def, Option.bind_eq_bind] at hm
    cases hr : resOf P st.H st.t r with
    | none => simp [hr] at hm
    | some x =>
      cases hrs : rs.mapM (resOf P st.H st.t) with
      | none => simp [hr, hrs] at hm
      | some ys =>
        simp [hr, hrs] at hm
        subst hm
        obtain ⟨x, p⟩ := x
        obtain ⟨v, h1, h2⟩ := resOf_ok h hr (hp (x, p) (by simp))
        obtain ⟨vs, g1, g2, g3⟩ := results_list h rs ys hrs fun y hy => hp y (by simp [hy])
        refine ⟨v :: vs, by simp [h1, g1], by simp [g2], fun j y hj => ?_⟩
        cases j with
        | zero => simp at hj; subst hj; exact ⟨v, rfl, h2⟩
        | succ j => simpa using g3 j y (by simpa using hj)

theorem results_eq (fn : Func) (tmps : Array Value) : results fn tmps = (do
    let vs ← fn.results.mapM (resSem tmps)
    pure (if h : vs.size = 1 then vs[0] else .tuple vs)) := by
  unfold results
  congr 1

theorem res_ok {P : Program} {ctx : Env} {n : Cf} {st : St} {a : Act} {E : Env} (h : SR ctx n st a E) {fn : Func} {K : V → List O → Prop} (hk : resK P fn.results.toList st K) :
    ∃ v x, (results fn a.tmps).run P E.w = .ok v E.w ∧ VRel E x v ∧ K x E.H := by
  rw [results_eq]
  have hm : ∀ vs : List Value, (fn.results.toList.mapM (resSem a.tmps)).run P E.w = .ok vs E.w → (fn.results.mapM (resSem a.tmps)).run P E.w = .ok vs.toArray E.w := by
    intro vs hv
    rw [Array.mapM_eq_mapM_toList]
    simp [hv]
  unfold resK at hk
  split at hk
  · rename_i r hr
    split at hk
    · rename_i x p hx
      obtain ⟨v, h1, h2⟩ := resOf_ok h hx hk.1
      have := hm [v] (by rw [hr]; simp [h1])
      refine ⟨v, x, ?_, h2, by rw [h.H]; exact hk.2⟩
      simp [this]
    · exact hk.elim
  · rename_i hne
    split at hk
    · rename_i xs hx
      obtain ⟨vs, g1, g2, g3⟩ := results_list h _ xs hx hk.1
      have := hm vs g1
      have hlen : xs.length = fn.results.toList.length := by
        have := results_list h _ xs hx hk.1
        clear this
        have gen : ∀ (rs : List ResultVar) (xs : List (V × Prop)), rs.mapM (resOf P st.H st.t) = some xs → xs.length = rs.length := by
          intro rs
          induction rs with
          | nil => intro xs h; simp at h; simp [h]
          | cons r rs ih =>
            intro xs h
            simp only [List.mapM_cons, Option.pure_def, Option.bind_eq_bind] at h
            cases hr : resOf P st.H st.t r with
            | none => simp [hr] at h
            | some x =>
              cases hrs : rs.mapM (resOf P st.H st.t) with
              | none => simp [hr, hrs] at h
              | some ys => simp [hr, hrs] at h; subst h; simp [ih ys hrs]
        exact gen _ _ hx
      have hsz : vs.toArray.size ≠ 1 := by
        intro e
        simp at e
        have : fn.results.toList.length = 1 := by omega
        obtain ⟨r, hr⟩ := List.length_eq_one_iff.1 this
        exact hne r hr
      refine ⟨.tuple vs.toArray, .tup (xs.map (·.1)), ?_, ?_, by rw [h.H]; exact hk.2⟩
      · simp only [Sem.run_bind, this, Result.andThen_ok]
        rw [dif_neg hsz]; rfl
      · refine .tup (by simp [g2]) fun j y hj => ?_
        simp only [List.getElem?_map, Option.map_eq_some_iff] at hj
        obtain ⟨x, hx, rfl⟩ := hj
        obtain ⟨v, hv, hr⟩ := g3 j x hx
        simp only [Array.getD_eq_getD_getElem?, List.getElem?_toArray, hv, Option.getD_some]
        exact hr
    · exact hk.elim

/-- A function's contract out of its text. -/
theorem ct_of_awp {P : Program} {f : FuncId} {fn : Func} {c : Code} (hf : P.funcs[f]? = some fn) (hb : fn.body = some c) (hname : (fn.name == "runtime.NumGoroutine") = false) (hok : okC fn.ntmps c = true)
    {args : List V} {H : List O} {K : V → List O → Prop} (h : awp P ⟨fn.ntmps, H.length⟩ c ⟨argsT 0 args, H⟩ (endK P fn.results.toList K)) : Ct P f args H K := by
  refine ⟨⟨fn, hf, hname, by simp [hb]⟩, fun E vs hE hH hn hv => ?_⟩
  have hs : SR E ⟨fn.ntmps, H.length⟩ ⟨argsT 0 args, H⟩ { tmps := vs ++ Array.replicate (fn.ntmps - vs.size) undef, defers := [] } E := by
    refine ⟨by simp; omega, by rw [hH]; exact Nat.le_refl _, rfl, fun i => ?_, hH, hE, Trans.refl E⟩
    simp only [look_argsT, Nat.zero_le, if_true, Nat.sub_zero]
    simp only [List.getD_eq_getElem?_getD]
    cases hx : args[i]? with
    | none => simp only [Option.getD_none]; exact .un
    | some x =>
      have hlt : i < vs.size := by rw [hn]; exact (List.getElem?_eq_some_iff.1 hx).1
      have := hv i x hx
      simp only [Option.getD_some]
      rw [Array.getD_eq_getD_getElem?] at this ⊢
      rw [Array.getElem?_append_left hlt]; exact this
  refine calls_of_wp hf hb (wp_mono (awp_sound c _ _ h hok E _ E hs) ?_)
  rintro e a' w' ⟨x, st', E', rfl, rfl, hq, hs'⟩
  have fin : resK P fn.results.toList st' K → a'.defers = [] ∧ ∃ v, (results fn a'.tmps).run P E'.w = .ok v E'.w ∧ (∃ v' x E'', Ending.returned v = .returned v' ∧ E''.w = E'.w ∧ K x E''.H ∧ VRel E'' x v' ∧ HRel E'' ∧ Trans E E'') := by
    intro hk
    obtain ⟨v, y, h1, h2, h3⟩ := res_ok hs' hk
    exact ⟨hs'.defers, v, h1, v, y, E', rfl, rfl, h3, h2, hs'.rel, hs'.tr⟩
  cases x with
  | normal => exact fin hq
  | exit id => exact hq.elim
  | ret => exact fin hq
  | goto l => exact hq.elim

end Go.Lz
