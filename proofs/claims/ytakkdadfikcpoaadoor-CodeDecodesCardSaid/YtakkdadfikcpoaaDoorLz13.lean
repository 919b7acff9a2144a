/- Lz13: soundness of the weakest precondition; functions; calls of functions that only compute. -/
import Derived.Test.YtakkdadfikcpoaaDoorLzM
namespace Go.Lz
set_option linter.unusedVariables false
set_option linter.unusedSimpArgs false

theorem HRel.lt_objs {E : Env} (hE : HRel E) : ∀ o ∈ E.H, o.lt E.H.length = true := by
  intro o ho
  obtain ⟨i, hi, hio⟩ := List.mem_iff_getElem.1 ho
  have hob := hE.obj i o (by rw [List.getElem?_eq_getElem hi, hio])
  cases o with
  | cells cur sz rows =>
    obtain ⟨h3, h4, h5, h6⟩ := hob
    show ltRows _ rows = true
    rw [ltRows_iff]
    intro r hr
    rw [ltRow_iff]
    intro c hc
    obtain ⟨q, hq, hqr⟩ := List.mem_iff_getElem.1 hr
    obtain ⟨j, hj, hjc⟩ := List.mem_iff_getElem.1 hc
    obtain ⟨arr, ty, _, _, h6⟩ := h6 (by omega)
    obtain ⟨v, _, hv⟩ := h6 q j c (at2_some.2 ⟨r, by rw [List.getElem?_eq_getElem hq, hqr], by rw [List.getElem?_eq_getElem hj, hjc]⟩)
    exact hv.lt_len
  | map es =>
    obtain ⟨ents, clock, h1, h2, h3⟩ := hob
    simp only [O.lt, List.all_eq_true, Bool.and_eq_true]
    intro p hp
    obtain ⟨q, hq, hqp⟩ := List.mem_iff_getElem.1 hp
    obtain ⟨e, _, hk, hx⟩ := h3 q p.1 p.2 (by rw [List.getElem?_eq_getElem hq, hqp])
    exact ⟨hk.lt_len, hx.lt_len⟩
  | dead => rfl

theorem seeds {E : Env} (hE : HRel E) : ∀ (M : Nat), ∃ E', E'.w = E.w ∧ E'.H = E.H ++ List.replicate M (.cells 0 0 []) ∧ HRel E' ∧ Trans E E'
  | 0 => ⟨E, rfl, by simp, hE, Trans.refl E⟩
  | M + 1 => by
    obtain ⟨E1, h1, h2, h3, h4⟩ := seeds hE M
    obtain ⟨t, hh, _⟩ := seed_obj h3 0 _ rfl
    refine ⟨⟨E1.w, E1.Fr, fun i => if i = E1.H.length then ⟨0, 0, 0⟩ else E1.bd i, E1.H ++ [.cells 0 0 []]⟩, h1, ?_, hh, h4.trans t⟩
    show E1.H ++ [_] = _
    rw [h2, List.append_assoc, List.replicate_succ']

/-! Regions that draw, where some quiet operations may come late. -/
theorem lateAll_mem {P : Program} {all : Array Oper} {t : List (Nat × V)} : ∀ {L : List Nat}, lateAll P all t L → ∀ i ∈ L, lateAt P all t i
  | [], _, i, hi => by cases hi
  | x :: L, h, i, hi => by
    rcases List.mem_cons.1 hi with rfl | hi
    · exact h.1
    · exact lateAll_mem h.2 i hi
theorem lateSet_lt {ops : Array Oper} {k i : Nat} (h : i ∈ lateSet ops k) : i < k := by
  unfold lateSet at h
  simpa using (List.mem_filter.1 h).1
theorem lateB_ord {ops : Array Oper} {k : Nat} (h : lateB ops k = true) : ∀ j, k ≤ j → j < ops.size → ∀ i, i < j → i ∉ lateSet ops k → Before ops i j := by
  intro j hk hj i hi hn
  unfold lateB at h
  rw [Bool.and_eq_true, List.all_eq_true] at h
  have := h.1 j (List.mem_range.2 hj)
  simp only [Bool.or_eq_true, decide_eq_true_eq] at this
  rcases this with h1 | h1
  · omega
  · rw [List.all_eq_true] at h1
    have h2 := h1 i (List.mem_range.2 hi)
    rw [Bool.or_eq_true] at h2
    rcases h2 with h2 | h2
    · exact (hn (by simpa using h2)).elim
    · refine preTab_go ops ops.toList [] 0 rfl (fun m => by simp) (fun j i hi => by simp at hi) j i ?_
      simpa [preTab] using h2
theorem lateB_ok {ops : Array Oper} {k i : Nat} (h : lateB ops k = true) (hi : i ∈ lateSet ops k) : ∃ o d, ops[i]? = some o ∧ o.guard = none ∧ effO o.op = false ∧ o.dst = some d ∧
    ∀ j oj, ops[j]? = some oj → (j ≠ i → oj.dst ≠ some d) ∧ (i ≤ j → ∀ d', oj.dst = some d' → d' ∉ namesOf o) := by
  unfold lateB at h
  rw [Bool.and_eq_true, List.all_eq_true, List.all_eq_true] at h
  have := h.2 i hi
  unfold lateOk at this
  split at this
  · cases this
  · rename_i o ho
    simp only [Bool.and_eq_true, List.all_eq_true, List.mem_range, Option.isNone_iff_eq_none, Bool.not_eq_true'] at this
    obtain ⟨⟨⟨h1, h2⟩, h3⟩, h4⟩ := this
    obtain ⟨d, hd⟩ := Option.isSome_iff_exists.1 h3
    refine ⟨o, d, ho, h1, h2, hd, fun j oj hj => ?_⟩
    have h5 := h4 j (Array.getElem?_eq_some_iff.1 hj).1
    rw [hj] at h5
    simp only [Bool.and_eq_true, Bool.or_eq_true, decide_eq_true_eq, Bool.not_eq_true', beq_eq_false_iff_ne] at h5
    refine ⟨fun hne he => ?_, fun hle d' hd' hm => ?_⟩
    · rcases h5.1 with h6 | h6
      · exact hne h6
      · exact h6 (by rw [he, hd])
    · rcases h5.2 with h6 | h6
      · omega
      · unfold notDst at h6
        rw [hd'] at h6
        simp [hm] at h6
def SimD (D : List Nat) (s st : St) : Prop := s.H = st.H ∧ ∀ t, look s.t t = if t ∈ D then .un else look st.t t
theorem SimD.put {D : List Nat} {s st : St} (h : SimD D s st) {d : Option Nat} {v : V} {H : List O} (hd : ∀ x, d = some x → x ∉ D) : SimD D (s.put d v H) (st.put d v H) := by
  refine ⟨by cases d <;> rfl, fun t => ?_⟩
  rw [look_put, look_put]
  by_cases e : d = some t
  · rw [if_pos e, if_pos e, if_neg (hd t e)]
  · rw [if_neg e, if_neg e]; exact h.2 t
theorem guarded2_sim {all : Array Oper} {o : Oper} {D : List Nat} {s st : St} {X Y : St → Prop} (h : SimD D s st) (hD : ∀ g w d, o.guard = some (g, w) → (all[g]?).bind (·.dst) = some d → d ∉ D) (hg : guarded2 all o st X Y) :
    guarded2 all o s (fun s' => ∃ st', SimD D s' st' ∧ (∀ t, look st'.t t = look st.t t) ∧ X st') (fun s' => ∃ st', SimD D s' st' ∧ (∀ t, look st'.t t = look st.t t) ∧ Y st') := by
  unfold guarded2 at hg ⊢
  cases h0 : o.guard with
  | none => rw [h0] at hg; exact ⟨st, h, fun _ => rfl, hg⟩
  | some jw =>
    obtain ⟨j, want⟩ := jw
    rw [h0] at hg
    cases hd : (all[j]?).bind (·.dst) with
    | none => simp only [hd] at hg
    | some d =>
      simp only [hd] at hg ⊢
      have hnd := hD j want d h0 hd
      have hl : look s.t d = look st.t d := by rw [h.2, if_neg hnd]
      rw [hl]
      cases hv : look st.t d with
      | one c =>
        rw [hv] at hg
        cases c with
        | bool b =>
          have key : ∀ w : Bool, b = w → SimD D ⟨(d, .one (.bool w)) :: s.t, s.H⟩ ⟨(d, .one (.bool w)) :: st.t, st.H⟩ ∧ ∀ t, look ((d, V.one (.bool w)) :: st.t) t = look st.t t := fun w e => by
            subst e
            refine ⟨⟨h.1, fun t => ?_⟩, look_assume hv⟩
            simp only [look_cons]
            by_cases e : d = t
            · subst e; rw [if_pos rfl, if_pos rfl, if_neg hnd]
            · rw [if_neg e, if_neg e]; exact h.2 t
          exact ⟨fun e => ⟨_, (key want e).1, (key want e).2, hg.1 e⟩, fun e => ⟨_, (key (!want) e).1, (key (!want) e).2, hg.2 e⟩⟩
        | _ => exact hg.elim
      | agg c => simp only [hv] at hg
      | un => simp only [hv] at hg
      | tup l =>
        cases l with
        | nil => rw [hv] at hg; exact ⟨st, h, fun _ => rfl, hg⟩
        | cons x l => simp only [hv] at hg
theorem awpOp_sim {P : Program} {o : Oper} {D : List Nat} {s st : St} {K : St → Prop} (h : SimD D s st) (hD : ∀ t ∈ namesOf o, t ∉ D) (hw : awpOp P o st K) : awpOp P o s fun s' => ∃ v H', s' = s.put o.dst v H' ∧ K (st.put o.dst v H') := by
  have hρ : ∀ x ∈ o.op.operands, s.ρ x = st.ρ x := by
    intro x hx
    cases x with
    | tmp t =>
      have ht : t ∈ namesOf o := by simp only [namesOf, List.mem_filterMap]; exact ⟨.tmp t, by simpa using hx, rfl⟩
      show look s.t t = look st.t t
      rw [h.2, if_neg (hD t ht)]
    | _ => rfl
  unfold awpOp at hw ⊢
  split at hw
  · rename_i f args ats hop
    rw [hop] at hρ
    have e1 := hρ f (by simp [Op.operands, Call.operands])
    have e2 : args.toList.map s.ρ = args.toList.map st.ρ := List.map_congr_left fun x hx => hρ x (by simp only [Op.operands, Call.operands]; exact Array.mem_append.2 (.inr (by simpa using hx)))
    simp only [e1, e2, h.1]
    split at hw
    · exact hw.mono fun v H' hk => ⟨v, H', rfl, hk⟩
    · exact hw.elim
  · rename_i hop
    have e := stepF_congr (P := P) (pos := o.pos) (op := o.op) (H := st.H) (ρ := s.ρ) (ρ' := st.ρ) hρ
    rw [h.1, e]
    exact ⟨hw.1, fun hf => ⟨_, _, rfl, hw.2 hf⟩⟩
/-- The slots of late operations that have not been carried out. -/
def dueL (ops : Array Oper) (L : List Nat) (listed : Array Bool) : List Nat := (L.filter fun i => !listed.getD i false).filterMap fun i => (ops[i]?).bind (·.dst)
theorem mem_due {ops : Array Oper} {L : List Nat} {listed : Array Bool} {t : Nat} : t ∈ dueL ops L listed ↔ ∃ i, i ∈ L ∧ listed.getD i false = false ∧ (ops[i]?).bind (·.dst) = some t := by
  unfold dueL
  simp only [List.mem_filterMap, List.mem_filter, Bool.not_eq_true']
  constructor
  · rintro ⟨i, ⟨h1, h2⟩, h3⟩; exact ⟨i, h1, h2, h3⟩
  · rintro ⟨i, h1, h2, h3⟩; exact ⟨i, ⟨h1, h2⟩, h3⟩
theorem look_due (t : List (Nat × V)) : ∀ (D : List Nat) (x : Nat), look (D.map (fun d => (d, V.un)) ++ t) x = if x ∈ D then .un else look t x
  | [], x => by simp
  | d :: D, x => by
    rw [List.map_cons, List.cons_append, look_cons, look_due t D x]
    by_cases e : d = x
    · subst e; simp
    · rw [if_neg e]
      have : (x ∈ d :: D) ↔ x ∈ D := by rw [List.mem_cons]; exact ⟨fun h => h.resolve_left fun h2 => e h2.symm, .inr⟩
      by_cases hm : x ∈ D
      · rw [if_pos hm, if_pos (this.2 hm)]
      · rw [if_neg hm, if_neg (fun h => hm (this.1 h))]
theorem tail_late {P : Program} {ctx : Env} {n : Cf} {ops : Array Oper} {K : St → Prop} {Q : Exit → Act → World → Prop} {k0 : Nat} {t0 : List (Nat × V)} (hd : DrawOk ops) (hok : ∀ o ∈ ops.toList, ∀ d, o.dst = some d → d < n.n)
    (hL : LateP P ops k0 t0) (hQ : ∀ st' a' E', K st' → SR ctx n st' a' E' → Q .normal a' E'.w) :
    ∀ (fuel j : Nat) (listed : Array Bool) (a : Act) (E : Env) (st s : St), k0 ≤ j → j ≤ ops.size → listed.size = ops.size → unl listed ≤ fuel →
      (∀ (j : Nat) (o : Oper), ops[j]? = some o → listed.getD j false = true → ∀ e ∈ o.after, Region.binds .any e = true → listed.getD e.on false = true) →
      (∀ i, listed.getD i false = true → i < j) → (∀ i, i < j → i ∉ lateSet ops k0 → listed.getD i false = true) →
      (∀ i, i ∈ lateSet ops k0 → listed.getD i false = false → ∀ o, ops[i]? = some o → ∀ t, t ∈ namesOf o ∨ o.dst = some t → look st.t t = look t0 t) →
      SimD (dueL ops (lateSet ops k0) listed) s st → SR ctx n s a E → awpOps P ops (ops.toList.drop j) st K → wpAny P .any ops Q fuel listed a E.w := by
  obtain ⟨hB, hA⟩ := hL
  have fin : ∀ (j : Nat) (listed : Array Bool) (a : Act) (E : Env) (st s : St), (∀ i, listed.getD i false = true → i < j) → (∀ i, i < ops.size → listed.getD i false = true) → SimD (dueL ops (lateSet ops k0) listed) s st → SR ctx n s a E → awpOps P ops (ops.toList.drop j) st K → Q .normal a E.w := by
    intro j listed a E st s hl hall hs hS hw
    have : ops.toList.drop j = [] := by
      refine List.drop_eq_nil_of_le ?_
      rw [Array.length_toList]
      rcases Nat.lt_or_ge j ops.size with h | h
      · have := hl j (hall j h); omega
      · exact h
    rw [this] at hw
    refine hQ st a E hw ⟨hS.len, hS.hm, hS.defers, fun t => ?_, hS.H.trans hs.1, hS.rel, hS.tr⟩
    have := hS.tm t
    rw [hs.2, if_neg] at this
    · exact this
    · intro hm
      obtain ⟨i, h1, h2, h3⟩ := mem_due.1 hm
      cases hi : ops[i]? with
      | none => simp [hi] at h3
      | some o => rw [hall i (Array.getElem?_eq_some_iff.1 hi).1] at h2; cases h2
  have nil : ∀ (listed : Array Bool), listed.size = ops.size → Region.ready .any ops listed = [] → ∀ i, i < ops.size → listed.getD i false = true := by
    intro listed hs hr j
    induction j using Nat.strongRecOn with
    | _ j ihj =>
      intro hj
      cases hl : listed.getD j false with
      | true => rfl
      | false =>
        have hmem : j ∈ Region.ready .any ops listed := by
          rw [mem_ready]
          refine ⟨by simp only [Array.getD_eq_getD_getElem?] at hl ⊢; rw [Array.getElem?_eq_getElem (by rw [hs]; exact hj)] at hl ⊢; simpa using hl, ops[j], by simp [hj], fun e he hb => ?_⟩
          have hlt := hd.back j ops[j] (by simp [hj]) e he hb
          exact ihj e.on hlt (by omega)
        rw [hr] at hmem; cases hmem
  intro fuel
  induction fuel with
  | zero =>
    intro j listed a E st s hk hj hs hu hc hl hn hi hsim hS hw
    have hall : ∀ i, i < ops.size → listed.getD i false = true := fun i hi => unl_zero (by omega) (by rw [hs]; exact hi)
    refine ⟨?_, fin j listed a E st s hl hall hsim hS hw⟩
    apply List.eq_nil_iff_forall_not_mem.2
    intro i hi
    rw [mem_ready] at hi
    obtain ⟨h1, o, ho, _⟩ := hi
    have hlt := (Array.getElem?_eq_some_iff.1 ho).1
    have h2 := hall i hlt
    simp only [Array.getD_eq_getD_getElem?, Array.getElem?_eq_getElem (show i < listed.size by rw [hs]; exact hlt)] at h1 h2
    simp_all
  | succ fuel ih =>
    intro j listed a E st s hk hj hs hu hc hl hn hiv hsim hS hw
    refine ⟨fun hr => fin j listed a E st s hl (nil listed hs hr) hsim hS hw, fun i hi => ?_⟩
    rw [mem_ready] at hi
    obtain ⟨hi0, o, ho, hafter⟩ := hi
    have hilt : i < ops.size := (Array.getElem?_eq_some_iff.1 ho).1
    have hils : i < listed.size := by rw [hs]; exact hilt
    have hif : listed.getD i false = false := by
      simp only [Array.getD_eq_getD_getElem?, Array.getElem?_eq_getElem hils] at hi0 ⊢; simpa using hi0
    have sooner : ∀ q, directB ops q i = true → listed.getD q false = true := by
      intro q hdir
      obtain ⟨oi, hoi, e, he, hb, rfl⟩ := directB_spec hdir
      rw [ho] at hoi; cases hoi
      exact hafter e he hb
    have hu' : unl (listed.setIfInBounds i true) ≤ fuel := by have := unl_set hils hi0; omega
    have hod := hok o (List.mem_of_getElem? (by simpa using ho))
    have hc' : ∀ (j : Nat) (o : Oper), ops[j]? = some o → (listed.setIfInBounds i true).getD j false = true → ∀ e ∈ o.after, Region.binds .any e = true → (listed.setIfInBounds i true).getD e.on false = true := by
      intro q oq hoq hlq e he hb
      rw [getD_set hils] at hlq ⊢
      rw [Bool.or_eq_true] at hlq ⊢
      rcases hlq with hlq | hlq
      · have : i = q := by simpa using hlq
        subst this
        rw [ho] at hoq; cases hoq
        exact .inr (hafter e he hb)
      · exact .inr (hc q oq hoq hlq e he hb)
    -- no operand of this operation is due
    have nodue : ∀ t, (t ∈ namesOf o ∨ (∃ g w, o.guard = some (g, w) ∧ (ops[g]?).bind (·.dst) = some t) ∨ (i ∉ lateSet ops k0 ∧ o.dst = some t)) → t ∉ dueL ops (lateSet ops k0) listed := by
      intro t ht hm
      obtain ⟨q, q1, q2, q3⟩ := mem_due.1 hm
      obtain ⟨oq, d, hoq, qg, qe, qd, qs⟩ := lateB_ok hB q1
      rw [hoq] at q3
      simp only [Option.bind_some] at q3
      rw [qd] at q3
      obtain rfl := Option.some.inj q3
      rcases Nat.lt_trichotomy q i with hqi | hqi | hqi
      · have : directB ops q i = true := by
          refine hd.war q i oq o d hqi hoq ho (.inl ⟨qd, ?_⟩)
          rcases ht with ht | ht | ht
          · exact .inl ht
          · exact .inr (.inr ht)
          · exact .inr (.inl ht.2)
        rw [sooner q this] at q2; cases q2
      · subst hqi
        rw [ho] at hoq; cases hoq
        rcases ht with ht | ⟨g, w, ht, _⟩ | ht
        · exact (qs q o ho).2 (Nat.le_refl _) d qd ht
        · rw [qg] at ht; cases ht
        · exact ht.1 q1
      · have hqk := lateSet_lt q1
        have hik : i ∈ lateSet ops k0 := by
          apply Classical.byContradiction
          intro hni
          have := hn i (by omega) hni
          rw [hif] at this; cases this
        obtain ⟨o', d', ho', ig, ie, idd, is⟩ := lateB_ok hB hik
        rw [ho] at ho'; cases ho'
        rcases ht with ht | ⟨g, w, ht, _⟩ | ht
        · exact (is q oq hoq).2 (by omega) d qd ht
        · rw [ig] at ht; cases ht
        · exact ht.1 hik
    by_cases hil : i ∈ lateSet ops k0
    · obtain ⟨o', d, ho', ig, ie, idd, is⟩ := lateB_ok hB hil
      rw [ho] at ho'; cases ho'
      have hat := lateAll_mem hA i hil
      unfold lateAt at hat
      rw [ho] at hat
      obtain ⟨p1, p2, p3⟩ := hat E.H
      have hrel : ∀ t, t ∈ namesOf o → VRel E (look t0 t) (a.tmps.getD t undef) := fun t ht => by
        rw [← hiv i hil hif o ho t (.inl ht)]
        have := hS.tm t
        rwa [hsim.2, if_neg (nodue t (.inl ht))] at this
      have hw2 : WpV P o a E (stepF P o.pos o.op (St.ρ ⟨t0, E.H⟩) E.H) := step_okQ (l := look t0) hS.rel hrel p1
      obtain ⟨_, hwp⟩ := hw2
      simp only [wpOp, ho, Region.wanted, ig, if_true]
      left
      refine hwp _ Q fun v E' hv hH' hh tr => ?_
      rw [p2] at hH'
      rw [p3, idd] at hv
      simp only [Option.getD_some] at hv
      have hdn := hod d idd
      refine ih j _ (a.put o.dst v) E' st (s.put o.dst (look t0 d) E.H) hk hj (by simpa using hs) hu' hc' (fun q hq => ?_) (fun q hq hnq => ?_) (fun q hq hql => ?_) ?_ (hS.put hod hv hH' hh tr) hw
      · rw [getD_set hils, Bool.or_eq_true] at hq
        rcases hq with hq | hq
        · have : i = q := by simpa using hq
          subst this
          have := lateSet_lt hil; omega
        · exact hl q hq
      · rw [getD_set hils, hn q hq hnq, Bool.or_true]
      · refine hiv q hq ?_
        rw [getD_set hils, Bool.or_eq_false_iff] at hql
        exact hql.2
      · refine ⟨by rw [idd]; exact hS.H.trans hsim.1, fun t => ?_⟩
        rw [look_put, idd]
        by_cases e : d = t
        · subst e
          have hnm : d ∉ dueL ops (lateSet ops k0) (listed.setIfInBounds i true) := by
            intro hm
            obtain ⟨q, q1, q2, q3⟩ := mem_due.1 hm
            rw [getD_set hils, Bool.or_eq_false_iff] at q2
            have hqi : q ≠ i := fun e => by subst e; simp at q2
            cases hoq : ops[q]? with
            | none => simp [hoq] at q3
            | some oq => simp [hoq] at q3; exact (is q oq hoq).1 hqi q3
          rw [if_pos rfl, if_neg hnm]
          exact (hiv i hil hif o ho d (.inr idd)).symm
        · rw [if_neg (by simpa using e), hsim.2]
          have : t ∈ dueL ops (lateSet ops k0) (listed.setIfInBounds i true) ↔ t ∈ dueL ops (lateSet ops k0) listed := by
            rw [mem_due, mem_due]
            constructor
            · rintro ⟨q, q1, q2, q3⟩
              rw [getD_set hils, Bool.or_eq_false_iff] at q2
              exact ⟨q, q1, q2.2, q3⟩
            · rintro ⟨q, q1, q2, q3⟩
              refine ⟨q, q1, ?_, q3⟩
              rw [getD_set hils, q2, Bool.or_false, decide_eq_false_iff_not]
              rintro rfl
              rw [ho, Option.bind_some, idd] at q3
              exact e (Option.some.inj q3)
          by_cases hm : t ∈ dueL ops (lateSet ops k0) listed
          · rw [if_pos hm, if_pos (this.2 hm)]
          · rw [if_neg hm, if_neg (fun h => hm (this.1 h))]
    · have hge : j ≤ i := by
        rcases Nat.lt_or_ge i j with h | h
        · have := hn i h hil; rw [hif] at this; cases this
        · exact h
      have hij : i = j := by
        rcases Nat.lt_or_eq_of_le hge with h | h
        · have hjl : j ∉ lateSet ops k0 := fun hm => by have := lateSet_lt hm; omega
          have := (lateB_ord hB i (by omega) hilt j h hjl).ready hc ho hafter
          have := hl j this; omega
        · exact h.symm
      subst hij
      have hdrop : ops.toList.drop i = o :: ops.toList.drop (i + 1) := by
        rw [List.drop_eq_getElem_cons (by simpa using hilt)]
        congr 1
        have := Array.getElem?_eq_some_iff.1 ho
        obtain ⟨h1, h2⟩ := this
        simpa using h2
      rw [hdrop] at hw
      simp only [awpOps] at hw
      have due' : dueL ops (lateSet ops k0) (listed.setIfInBounds i true) = dueL ops (lateSet ops k0) listed := by
        unfold dueL
        congr 1
        refine List.filter_congr fun q hq => ?_
        rw [getD_set hils]
        have : i ≠ q := fun e => hil (e ▸ hq)
        simp [this]
      have hl' : ∀ q, (listed.setIfInBounds i true).getD q false = true → q < i + 1 := by
        intro q hq
        rw [getD_set hils, Bool.or_eq_true, decide_eq_true_eq] at hq
        rcases hq with hq | hq
        · omega
        · have := hl q hq; omega
      have hn' : ∀ q, q < i + 1 → q ∉ lateSet ops k0 → (listed.setIfInBounds i true).getD q false = true := by
        intro q hq hnq
        rw [getD_set hils, Bool.or_eq_true, decide_eq_true_eq]
        by_cases e : i = q
        · exact .inl e
        · exact .inr (hn q (by omega) hnq)
      have hiv' : ∀ (st2 : St), (∀ t, o.dst ≠ some t → look st2.t t = look st.t t) → ∀ q, q ∈ lateSet ops k0 → (listed.setIfInBounds i true).getD q false = false → ∀ oq, ops[q]? = some oq → ∀ t, t ∈ namesOf oq ∨ oq.dst = some t → look st2.t t = look t0 t := by
        intro st2 h2 q hq hql oq hoq t ht
        rw [getD_set hils, Bool.or_eq_false_iff] at hql
        rw [h2 t ?_]
        · exact hiv q hq hql.2 oq hoq t ht
        · intro hdt
          obtain ⟨oq', d, hoq', qg, qe, qd, qs⟩ := lateB_ok hB hq
          rw [hoq] at hoq'; cases hoq'
          have hqi : q < i := by have := lateSet_lt hq; omega
          rcases ht with ht | ht
          · exact (qs i o ho).2 (by omega) t hdt ht
          · exact (qs i o ho).1 (by omega) (by rw [hdt, ← ht, qd])
      have hdst : ∀ x, o.dst = some x → x ∉ dueL ops (lateSet ops k0) listed := fun x hx => nodue x (.inr (.inr ⟨hil, hx⟩))
      obtain ⟨s1, hS1, hcase⟩ := guarded2_ok hS (guarded2_sim hsim (fun g w d h1 h2 => nodue d (.inr (.inl ⟨g, w, h1, h2⟩))) hw)
      simp only [wpOp, ho]
      rcases hcase with ⟨hwant, st1, hsim1, hlk, hx⟩ | ⟨hwant, st1, hsim1, hlk, hx⟩
      · simp only [hwant, if_true]
        left
        refine awpOp_ok hS1 hod (awpOp_sim hsim1 (fun t ht => nodue t (.inl ht)) hx) Q _ fun s2 a2 E2 hK hS2 => ?_
        obtain ⟨v, H', rfl, hK⟩ := hK
        refine ih (i + 1) _ a2 E2 _ _ (by omega) (by omega) (by simpa using hs) hu' hc' hl' hn' (hiv' _ fun t ht => ?_) ?_ hS2 hK
        · rw [look_put, if_neg ht, hlk]
        · rw [due']; exact hsim1.put hdst
      · simp only [hwant, Bool.false_eq_true, if_false]
        refine ih (i + 1) _ _ E (st1.put o.dst (.tup []) st1.H) (s1.put o.dst (.tup []) s1.H) (by omega) (by omega) (by simpa using hs) hu' hc' hl' hn' (hiv' _ fun t ht => by rw [look_put, if_neg ht, hlk]) ?_ (hS1.skip2 hod) hx
        rw [due', hsim1.1]; exact hsim1.put hdst
theorem draw_ok {P : Program} {ctx : Env} {n : Cf} {id : Nat} {ops : Array Oper} {st : St} {a : Act} {E : Env} {K : St → Prop} {Q : Exit → Act → World → Prop} (hm : P.follows .mixedOrders = true) (hd : drawB ops = true)
    (hok : ∀ o ∈ ops.toList, ∀ d, o.dst = some d → d < n.n) (hw : awpDraw P ops ops.toList [] st K) (h : SR ctx n st a E) (hQ : ∀ st' a' E', K st' → SR ctx n st' a' E' → Q .normal a' E'.w) :
    (Code.region id ops true).wp P Q a E.w := by
  obtain ⟨T, role, z, f, kt, stE, N', g1, g2, g3, g4, g5, g6, g7, X, g9⟩ := draw_extract (P := P) (all := ops) (n := n.n) hok ops.toList 0 [] st (fun m => by simp) (by simp) ⟨a, E, h.len, h.rel, h.H, fun t _ => h.tm t⟩ hw
  refine wp_region_any hm ?_
  obtain ⟨t0, hh0⟩ := grow_world h.rel { E.w with drawn := E.w.drawn + 1 } (Nat.le_refl _) rfl rfl rfl (fun _ _ => rfl)
  obtain ⟨E1, w1, H1, hh1, t1⟩ := seeds hh0 N'.length
  have hHl : ∀ o ∈ st.H, o.lt st.H.length = true := by have := h.rel.lt_objs; rwa [h.H] at this
  have hheap : stE.H ++ N'.map Fo.o = st.H ++ (List.range N'.length).map (gS z f (baseN []) role (fun i => 0 ≤ i ∧ i < kt)) := by
    rw [g5]
    congr 1
    apply List.ext_getElem?
    intro p
    simp only [List.getElem?_map]
    rcases Nat.lt_or_ge p N'.length with hp | hp
    · have e := g7 p N'[p] (by simp [hp])
      simp [hp, e]
    · rw [List.getElem?_eq_none hp, List.getElem?_eq_none (by simpa using hp)]; rfl
  have main : ∀ late : Nat → Prop, (∀ i j, kt ≤ j → j < ops.size → i < kt → ¬ late i → Before ops i j) → (∀ i, late i → role i = none) →
      (∀ (fuel : Nat) (listed : Array Bool) (a' : Act) (E' : Env), unl listed ≤ fuel → listed.size = ops.size → (∀ (j : Nat) (o : Oper), ops[j]? = some o → listed.getD j false = true → ∀ e ∈ o.after, Region.binds .any e = true → listed.getD e.on false = true) →
        (∀ i, listed.getD i false = true → i < kt) → (∀ i, i < kt → ¬ late i → listed.getD i false = true) → n.n ≤ a'.tmps.size → a'.defers = [] → HRel E' →
        E'.H = stE.H ++ N'.map Fo.o → Trans ctx E' → (∀ t, (∀ j, j < kt → late j → listed.getD j false = false → (ops[j]?).bind (·.dst) ≠ some t) → VRel E' (look stE.t t) (a'.tmps.getD t undef)) → wpAny P .any ops Q fuel listed a' E'.w) →
      wpAny P .any ops Q ops.size (Array.replicate ops.size false) a E1.w := fun late hbef hrole hq => by
    refine draw_any (P := P) (ctx := ctx) (n := n.n) (ops := ops) (T := T) (l0 := look st.t) (H := st.H) (M := N'.length) (kt := kt) (z := z) (f := f) (role := role) (drawB_spec hd) hok hHl X g2 late hbef hrole
      (fun fuel listed a' E' hu hls hcl hsub hall h1 h2 h3 h4 h5 h6 => hq fuel listed a' E' hu hls hcl hsub hall h1 h2 h3 (by rw [h4, hheap]) h5 fun t ht => ?_) ops.size (Array.replicate ops.size false) a E1 ?_ ?_
    · rw [g9 t, Nat.sub_zero, tvF_zero]
      exact h6 t ht
    · simp [unl]
      exact Nat.le_trans (List.countP_le_length) (by simp)
    · have none : ∀ j, (Array.replicate ops.size false).getD j false = true → False := by
        intro j hl
        simp only [Array.getD_eq_getD_getElem?, Array.getElem?_replicate] at hl
        split at hl <;> simp at hl
      refine ⟨by simp, fun j o _ hl => (none j hl).elim, fun j hl => (none j hl).elim, h.len, h.defers, hh1, ?_, (h.tr.trans t0).trans t1, fun t => ?_⟩
      · have e : (List.range N'.length).map (gS z f (baseN []) role (fun j => (Array.replicate ops.size false).getD j false = true)) = (List.range N'.length).map (fun _ => (.cells 0 0 [] : O)) := by
          congr 1
          funext p
          rw [gS_b (fun ⟨j, hj, _⟩ => none j hj) (fun ⟨j, hj, _⟩ => none j hj)]; rfl
        rw [e, H1, List.map_const', List.length_range, ← h.H]
      · have : tv ops T (look st.t) (fun j => (Array.replicate ops.size false).getD j false = true) t ops.size = look st.t t := by
          rw [tv_skip (i := 0) (Nat.zero_le _) (fun j _ _ _ hl => (none j hl).elim)]
          rfl
        rw [this]
        exact ((h.tm t).trans t0).trans t1
  suffices hx : wpAny P .any ops Q ops.size (Array.replicate ops.size false) a E1.w by rw [w1] at hx; exact hx
  by_cases hB : kt = ops.size ∨ tailB ops kt = true
  · refine main (fun _ => False) (fun i j hj hjs hi _ => ?_) (fun _ h => h.elim) fun fuel listed a' E' hu hls hcl hsub hall h1 h2 h3 h4 h5 h6 => ?_
    · rcases hB with hB | hB
      · omega
      · exact tailB_spec hB j hj hjs i (by omega)
    · refine tail_any (P := P) (ctx := ctx) (n := n) (K := K) (k0 := kt) (drawB_spec hd) hok (fun j hj hjs i hij => ?_) hQ fuel kt listed a' E' ⟨stE.t, stE.H ++ N'.map Fo.o⟩ (Nat.le_refl _) g2 hls hu (fun i _ => ⟨hsub i, fun hi => hall i hi (fun hf => hf)⟩) ?_ (by simpa using g6)
      · rcases hB with hB | hB
        · omega
        · exact tailB_spec hB j hj hjs i hij
      · exact ⟨h1, h.hm, h2, fun t => h6 t (fun _ _ hf => hf.elim), h4, h3, h5⟩
  · have hlt : kt < ops.size := by omega
    have hL : LateP P ops kt stE.t := (g4 hlt).resolve_left fun h => hB (.inr h)
    refine main (fun i => i ∈ lateSet ops kt) (fun i j hj hjs hi hni => lateB_ord hL.1 j hj hjs i (by omega) hni) (fun i hi => ?_) fun fuel listed a' E' hu hls hcl hsub hall h1 h2 h3 h4 h5 h6 => ?_
    · cases hr : role i with
      | none => rfl
      | some bp =>
        obtain ⟨b, p⟩ := bp
        obtain ⟨o, ho, he⟩ := X.c5 i b p hr
        obtain ⟨o', d, ho', _, he', _⟩ := lateB_ok hL.1 hi
        rw [ho] at ho'; cases ho'
        rw [he] at he'; cases he'
    · refine tail_late (P := P) (ctx := ctx) (n := n) (K := K) (k0 := kt) (t0 := stE.t) (drawB_spec hd) hok hL hQ fuel kt listed a' E' ⟨stE.t, stE.H ++ N'.map Fo.o⟩ ⟨(dueL ops (lateSet ops kt) listed).map (fun d => (d, V.un)) ++ stE.t, stE.H ++ N'.map Fo.o⟩ (Nat.le_refl _) g2 hls hu hcl hsub hall (fun _ _ _ _ _ _ _ => rfl) ⟨rfl, fun t => look_due _ _ _⟩ ?_ (by simpa using g6)
      refine ⟨h1, h.hm, h2, fun t => ?_, h4, h3, h5⟩
      show VRel E' (look ((dueL ops (lateSet ops kt) listed).map (fun d => (d, V.un)) ++ stE.t) t) _
      rw [look_due]
      split
      · exact .un
      · rename_i hm
        exact h6 t fun j hj hl hlf e => hm (mem_due.2 ⟨j, hl, hlf, e⟩)

theorem awp_sound {P : Program} {n : Cf} : ∀ (c : Code) (st : St) (Q : Ex → St → Prop), awp P n c st Q → Sem' P n c st Q
  | .skip, st, Q, h => fun _ ctx a E hs => wp_skip ⟨.normal, st, E, rfl, rfl, h, hs⟩
  | .label l, st, Q, h => fun _ ctx a E hs => wp_label ⟨.normal, st, E, rfl, rfl, h, hs⟩
  | .region id ops draw, st, Q, h => fun hok ctx a E hs => by
    have hok' : ∀ o ∈ ops.toList, ∀ d, o.dst = some d → d < n.n := by
      intro o ho d hd
      simp only [okC, List.all_eq_true] at hok
      have := hok o ho
      simpa [hd] using this
    cases draw with
    | true =>
      simp only [awp] at h
      split at h
      · obtain ⟨hm, hd, hf, S, Fl, FE, hfl, hw⟩ := h
        exact flo_ok hm hd hf hfl hok' hw hs fun st' a' E' hK hs' => ⟨.normal, st', E', rfl, rfl, hK, hs'⟩
      · obtain ⟨hm, hd, hw⟩ := h
        exact draw_ok hm hd hok' hw hs fun st' a' E' hK hs' => ⟨.normal, st', E', rfl, rfl, hK, hs'⟩
    | false =>
      refine wp_region (awpOps_ok (K := Q .normal) _ (fun st' a' E' hK hs' => ⟨.normal, st', E', rfl, rfl, hK, hs'⟩) hok' (List.range ops.size) ops.toList (by simp) (fun k i hk => ?_) st a E hs h)
      have hlt := (List.getElem?_eq_some_iff.1 hk).1
      simp at hlt
      simp [hlt] at hk
      subst hk
      simp
  | .seq x y, st, Q, h => fun hok ctx a E hs => by
    simp only [okC, Bool.and_eq_true] at hok
    refine wp_seq (wp_mono (awp_sound x st _ h hok.1 ctx a E hs) ?_)
    rintro e a' w' ⟨k, st', E', rfl, rfl, hq, hs'⟩
    cases k with
    | normal => exact awp_sound y st' Q hq hok.2 ctx a' E' hs'
    | exit id => exact ⟨.exit id, st', E', rfl, rfl, hq, hs'⟩
    | ret => exact ⟨.ret, st', E', rfl, rfl, hq, hs'⟩
    | goto l => exact ⟨.goto l, st', E', rfl, rfl, hq, hs'⟩
  | .cond c x y, st, Q, h => fun hok ctx a E hs => by
    simp only [okC, Bool.and_eq_true] at hok
    simp only [awp, condK] at h
    split at h
    · rename_i b hb
      have hc := hs.ρ c
      rw [hb] at hc
      have hv := bool_inv (one_inv hc)
      refine wp_cond hv ?_
      cases b with
      | true => exact awp_sound x st Q (h.1 rfl) hok.1 ctx a E hs
      | false => exact awp_sound y st Q (h.2 rfl) hok.2 ctx a E hs
    · exact h.elim
  | .block id c, st, Q, h => fun hok ctx a E hs => by
    refine wp_block (wp_mono (awp_sound c st _ h hok ctx a E hs) ?_)
    rintro e a' w' ⟨k, st', E', rfl, rfl, hq, hs'⟩
    cases k with
    | normal => exact ⟨.normal, st', E', rfl, rfl, hq, hs'⟩
    | exit i =>
      simp only [Ex.toExit, Exit.inBlock]
      simp only [blockQ] at hq
      split
      · rename_i e; rw [if_pos e] at hq; exact ⟨.normal, st', E', rfl, rfl, hq, hs'⟩
      · rename_i e; rw [if_neg e] at hq; exact ⟨.exit i, st', E', rfl, rfl, hq, hs'⟩
    | ret => exact ⟨.ret, st', E', rfl, rfl, hq, hs'⟩
    | goto l => exact ⟨.goto l, st', E', rfl, rfl, hq, hs'⟩
  | .loop c, st, Q, h => fun hok ctx a E hs b k cs => by
    obtain ⟨e, a', w', hr, harr⟩ := h hok ctx a E hs b k cs
    exact ⟨e, a', w', hr, .of_steps (.one step_loop) harr⟩
  | .scope c, st, Q, h => fun hok ctx a E hs b k cs => by
    obtain ⟨e, a', w', ⟨x, st', E', rfl, rfl, hq, hs'⟩, harr⟩ := awp_sound c st _ h hok ctx a E hs b (.inScope c :: k) cs
    cases x with
    | normal => exact ⟨.normal, a', E'.w, ⟨.normal, st', E', rfl, rfl, hq, hs'⟩, .head step_scope (Steps.trans harr (.one step_inScope))⟩
    | exit i => exact ⟨.exit i, a', E'.w, ⟨.exit i, st', E', rfl, rfl, hq, hs'⟩, fun k' hk => .head step_scope (harr k' (by simp [exitTo, hk]))⟩
    | ret => exact ⟨.ret, a', E'.w, ⟨.ret, st', E', rfl, rfl, hq, hs'⟩, .of_steps (.one step_scope) harr⟩
    | goto l =>
      obtain ⟨rest, hf, _, hsem⟩ := hq
      obtain ⟨e2, a2, w2, hr, harr2⟩ := hsem ctx a' E' hs' b k cs
      exact ⟨e2, a2, w2, hr, .of_steps (.head step_scope (harr _ (by simp [gotoIn, hf]))) harr2⟩
  | .exit id, st, Q, h => fun _ ctx a E hs => wp_exit ⟨.exit id, st, E, rfl, rfl, h, hs⟩
  | .ret, st, Q, h => fun _ ctx a E hs => wp_ret ⟨.ret, st, E, rfl, rfl, h, hs⟩
  | .goto l, st, Q, h => fun _ ctx a E hs => wp_goto ⟨.goto l, st, E, rfl, rfl, h, hs⟩
  | .refuse _, _, _, h => h.elim
  | .rangeFunc .., _, _, h => h.elim

/-- From a label on, once. -/
theorem scope_unroll {P : Program} {n : Cf} {c rest : Code} {st : St} {Q : Ex → St → Prop} (hok : okC n.n rest = true) (h : awp P n rest st (gotoQ P n c Q)) : ScopeSem P n c rest st Q := by
  intro ctx a E hs b k cs
  obtain ⟨e, a', w', ⟨x, st', E', rfl, rfl, hq, hs'⟩, harr⟩ := awp_sound rest st _ h hok ctx a E hs b (.inScope c :: k) cs
  cases x with
  | normal => exact ⟨.normal, a', E'.w, ⟨.normal, st', E', rfl, rfl, hq, hs'⟩, Steps.trans harr (.one step_inScope)⟩
  | exit i => exact ⟨.exit i, a', E'.w, ⟨.exit i, st', E', rfl, rfl, hq, hs'⟩, fun k' hk => harr k' (by simp [exitTo, hk])⟩
  | ret => exact ⟨.ret, a', E'.w, ⟨.ret, st', E', rfl, rfl, hq, hs'⟩, harr⟩
  | goto l =>
    obtain ⟨rest', hf, _, hsem⟩ := hq
    obtain ⟨e2, a2, w2, hr, harr2⟩ := hsem ctx a' E' hs' b k cs
    exact ⟨e2, a2, w2, hr, .of_steps (harr _ (by simp [gotoIn, hf])) harr2⟩

theorem ScopeSem.mono {P : Program} {n : Cf} {c rest : Code} {st : St} {Q Q' : Ex → St → Prop} (h : ScopeSem P n c rest st Q) (hq : ∀ e st, Q e st → Q' e st) : ScopeSem P n c rest st Q' := by
  intro ctx a E hs b k cs
  obtain ⟨e, a', w', ⟨x, st', E', r1, r2, r3, r4⟩, harr⟩ := h ctx a E hs b k cs
  exact ⟨e, a', w', ⟨x, st', E', r1, r2, hq _ _ r3, r4⟩, harr⟩

/-- One round. -/
theorem loop_unroll {P : Program} {n : Cf} {body : Code} {st : St} {Q : Ex → St → Prop} (h : awp P n body st (thenQ (fun st' => LoopSem P n body st' Q) Q)) : LoopSem P n body st Q := by
  intro hok ctx a E hs b k cs
  obtain ⟨e, a', w', ⟨x, st', E', rfl, rfl, hq, hs'⟩, harr⟩ := awp_sound body st _ h hok ctx a E hs b (.inLoop body :: k) cs
  cases x with
  | normal =>
    obtain ⟨e2, a2, w2, hr, harr2⟩ := hq hok ctx a' E' hs' b k cs
    exact ⟨e2, a2, w2, hr, .of_steps (Steps.trans harr (.one step_inLoop)) harr2⟩
  | exit id => exact ⟨_, a', E'.w, ⟨.exit id, st', E', rfl, rfl, hq, hs'⟩, .pass (x := .inLoop body) rfl (fun _ _ => .inl (by simp [Ex.toExit])) harr⟩
  | ret => exact ⟨_, a', E'.w, ⟨.ret, st', E', rfl, rfl, hq, hs'⟩, .pass (x := .inLoop body) rfl (fun _ _ => .inl (by simp [Ex.toExit])) harr⟩
  | goto l => exact ⟨_, a', E'.w, ⟨.goto l, st', E', rfl, rfl, hq, hs'⟩, .pass (x := .inLoop body) rfl (fun _ _ => .inl (by simp [Ex.toExit])) harr⟩

theorem LoopSem.mono {P : Program} {n : Cf} {body : Code} {st : St} {Q Q' : Ex → St → Prop} (h : LoopSem P n body st Q) (hq : ∀ e st, Q e st → Q' e st) : LoopSem P n body st Q' := by
  intro hok ctx a E hs b k cs
  obtain ⟨e, a', w', ⟨x, st', E', r1, r2, r3, r4⟩, harr⟩ := h hok ctx a E hs b k cs
  exact ⟨e, a', w', ⟨x, st', E', r1, r2, hq _ _ r3, r4⟩, harr⟩

theorem guarded2.mono {all : Array Oper} {o : Oper} {st : St} {X X' Y Y' : St → Prop} (h : guarded2 all o st X Y) (hx : ∀ s, X s → X' s) (hy : ∀ s, Y s → Y' s) : guarded2 all o st X' Y' := by
  unfold guarded2 at *
  split at h
  · exact hx _ h
  · split at h
    · split at h
      · exact ⟨fun e => hx _ (h.1 e), fun e => hy _ (h.2 e)⟩
      · exact hy _ h
      · exact h
    · exact h

theorem guarded.mono {all : Array Oper} {o : Oper} {st : St} {X X' Y Y' : St → Prop} (h : guarded all o st X Y) (hx : ∀ s, X s → X' s) (hy : ∀ s, Y s → Y' s) : guarded all o st X' Y' := by
  unfold guarded at *
  split at h
  · exact hx _ h
  · split at h
    · split at h
      · exact ⟨fun e => hx _ (h.1 e), fun e => hy _ (h.2 e)⟩
      · exact h
    · exact h

theorem awpOp.mono {P : Program} {o : Oper} {st : St} {K K' : St → Prop} (h : awpOp P o st K) (hk : ∀ s, K s → K' s) : awpOp P o st K' := by
  unfold awpOp at *
  split at h
  · split at h
    · exact h.mono fun _ _ => hk _
    · exact h
  · exact ⟨h.1, fun hf => hk _ (h.2 hf)⟩

theorem awpOps.mono {P : Program} {all : Array Oper} {K K' : St → Prop} (hk : ∀ s, K s → K' s) : ∀ {l : List Oper} {st : St}, awpOps P all l st K → awpOps P all l st K'
  | [], _, h => hk _ h
  | _ :: _, _, h => guarded2.mono h (fun _ hx => awpOp.mono hx fun _ => awpOps.mono hk) (fun _ => awpOps.mono hk)

theorem awpQ.mono {P : Program} {o : Oper} {st : St} {K K' : St → Prop} (h : awpQ P o st K) (hk : ∀ s, K s → K' s) : awpQ P o st K' := by
  unfold awpQ at *
  split at h
  · split at h
    · obtain ⟨x, hc, hx⟩ := h; exact ⟨x, hc, hk _ hx⟩
    · exact h
  · exact ⟨h.1, fun hf => ⟨(h.2 hf).1, hk _ (h.2 hf).2⟩⟩

theorem awpDraw.mono {P : Program} {all : Array Oper} {K K' : St → Prop} (hk : ∀ s, K s → K' s) : ∀ {l : List Oper} {N : List Fo} {st : St}, awpDraw P all l N st K → awpDraw P all l N st K'
  | [], _, _, h => hk _ h
  | o :: rest, N, st, h => by
    simp only [awpDraw] at h ⊢
    split at h
    · exact ⟨h.1, awpDraw.mono hk h.2⟩
    · split at h
      · exact ⟨h.1, awpOps.mono hk h.2⟩
      · exact ⟨h.1, guarded2.mono h.2 (fun _ hx => awpQ.mono hx fun _ => awpDraw.mono hk) (fun _ => awpDraw.mono hk)⟩
theorem awpF.mono {P : Program} {S Fl FE : List Nat} {K K' : St → Prop} (hk : ∀ s, K s → K' s) : ∀ {k : Nat} {l : List Oper} {st : St}, awpF P S Fl FE k l st K → awpF P S Fl FE k l st K'
  | _, [], _, h => hk _ h
  | k, o :: rest, st, h => by
    simp only [awpF] at h ⊢
    split at h
    · split at h
      · split at h
        · obtain ⟨x, H1, a, b, c⟩ := h
          exact ⟨x, H1, a, b, awpF.mono hk c⟩
        · exact h
      · exact ⟨h.1, h.2.1, awpF.mono hk h.2.2⟩
    · exact ⟨h.1, h.2.1, h.2.2.1, awpF.mono hk h.2.2.2⟩
theorem awp.mono {P : Program} {n : Cf} : ∀ {c : Code} {st : St} {Q Q' : Ex → St → Prop}, awp P n c st Q → (∀ e s, Q e s → Q' e s) → awp P n c st Q'
  | .skip, _, _, _, h, hq => hq _ _ h
  | .label _, _, _, _, h, hq => hq _ _ h
  | .region _ ops true, _, _, _, h, hq => by
    simp only [awp] at h ⊢
    split at h
    · obtain ⟨a, b, c, S, Fl, FE, e, d⟩ := h
      exact ⟨a, b, c, S, Fl, FE, e, awpF.mono (hq _) d⟩
    · exact ⟨h.1, h.2.1, awpDraw.mono (hq _) h.2.2⟩
  | .region _ _ false, _, _, _, h, hq => awpOps.mono (hq _) h
  | .seq x y, _, _, _, h, hq => awp.mono (c := x) h fun e s hs => by
    cases e with
    | normal => exact awp.mono (c := y) hs hq
    | exit id => exact hq _ _ hs
    | ret => exact hq _ _ hs
    | goto l => exact hq _ _ hs
  | .cond c x y, st, _, _, h, hq => by
    simp only [awp, condK] at h ⊢
    split at h
    · exact ⟨fun e => awp.mono (h.1 e) hq, fun e => awp.mono (h.2 e) hq⟩
    · exact h
  | .block id c, _, _, _, h, hq => awp.mono (c := c) h fun e s hs => by
    cases e with
    | exit i => simp only [blockQ] at hs ⊢; split <;> simp_all
    | normal => exact hq _ _ hs
    | ret => exact hq _ _ hs
    | goto l => exact hq _ _ hs
  | .loop _, _, _, _, h, hq => LoopSem.mono h hq
  | .scope c, _, _, _, h, hq => awp.mono (c := c) h fun e s hs => by
    cases e with
    | goto l =>
      obtain ⟨rest, h1, h2, h3⟩ := hs
      exact ⟨rest, h1, h2, h3.mono hq⟩
    | normal => exact hq _ _ hs
    | exit i => exact hq _ _ hs
    | ret => exact hq _ _ hs
  | .exit _, _, _, _, h, hq => hq _ _ h
  | .ret, _, _, _, h, hq => hq _ _ h
  | .goto _, _, _, _, h, hq => hq _ _ h
  | .refuse _, _, _, _, h, _ => h.elim
  | .rangeFunc .., _, _, _, h, _ => h.elim

/-- The results of a function, at its end. -/
def resOf (P : Program) (H : List O) (t : List (Nat × V)) : ResultVar → Option (V × Prop)
  | .tmp i => some (look t i, True)
  | .cell i ty => match look t i with
    | .one c => match tAg P ty, rowOf H c with
      | some (g, n), some (row, off, p) => some (ldV g n row off, p ∧ off + wd g n ≤ row.length)
      | _, _ => none
    | _ => none

def resK (P : Program) (rs : List ResultVar) (st : St) (K : V → List O → Prop) : Prop :=
  match rs with
  | [r] => match resOf P st.H st.t r with | some (x, p) => p ∧ K x st.H | none => False
  | rs => match rs.mapM (resOf P st.H st.t) with | some xs => (∀ x ∈ xs, x.2) ∧ K (.tup (xs.map (·.1))) st.H | none => False

def endK (P : Program) (rs : List ResultVar) (K : V → List O → Prop) : Ex → St → Prop
  | .exit _, _ => False
  | .goto _, _ => False
  | _, st => resK P rs st K

def argsT : Nat → List V → List (Nat × V)
  | _, [] => []
  | i, x :: xs => (i, x) :: argsT (i + 1) xs

theorem look_argsT : ∀ (xs : List V) (i j : Nat), look (argsT i xs) j = if i ≤ j then xs.getD (j - i) .un else .un
  | [], i, j => by simp [argsT, look]
  | x :: xs, i, j => by
    simp only [argsT, look_cons]
    by_cases e : i = j
    · subst e; simp
    · rw [if_neg e, look_argsT xs (i + 1) j]
      by_cases h : i ≤ j
      · rw [if_pos (by omega), if_pos h]
        have : j - i = (j - (i + 1)) + 1 := by omega
        rw [this, List.getD_cons_succ]
      · rw [if_neg (by omega), if_neg h]

def resSem (tmps : Array Value) : ResultVar → Sem Value
  | .tmp t => pure (tmps.getD t undef)
  | .cell a t => do loadVar t (← asAddr (tmps.getD a undef))

theorem resOf_ok {P : Program} {ctx : Env} {n : Cf} {st : St} {a : Act} {E : Env} (h : SR ctx n st a E) {r : ResultVar} {x : V} {p : Prop} (hr : resOf P st.H st.t r = some (x, p)) (hp : p) :
    ∃ v, (resSem a.tmps r).run P E.w = .ok v E.w ∧ VRel E x v := by
  cases r with
  | tmp t => simp only [resOf] at hr; cases hr; exact ⟨_, rfl, h.tm t⟩
  | cell i ty =>
    simp only [resOf] at hr
    split at hr
    · rename_i c hc
      split at hr
      · rename_i g m row off q hg hrow
        cases hr
        have ht := h.tm i
        rw [hc] at ht
        rw [← h.H] at hrow
        obtain ⟨b, o, hv, hrw⟩ := rowOf_ok h.rel (one_inv ht) hrow hp.1
        obtain ⟨u, h1, h2⟩ := load_ok (P := P) hg hrw hp.2
        exact ⟨u, by simp [resSem, hv, asAddr, h1], h2⟩
      · cases hr
    · cases hr

theorem results_list {P : Program} {ctx : Env} {n : Cf} {st : St} {a : Act} {E : Env} (h : SR ctx n st a E) : ∀ (rs : List ResultVar) (xs : List (V × Prop)), rs.mapM (resOf P st.H st.t) = some xs → (∀ x ∈ xs, x.2) →
    ∃ vs : List Value, (rs.mapM (resSem a.tmps)).run P E.w = .ok vs E.w ∧ vs.length = xs.length ∧ ∀ (j : Nat) (x : V × Prop), xs[j]? = some x → ∃ v, vs[j]? = some v ∧ VRel E x.1 v
  | [], xs, hm, hp => by simp at hm; subst hm; exact ⟨[], by simp, rfl, by simp⟩
  | r :: rs, xs, hm, hp => by
    simp only [List.mapM_cons, Option.pure_def, Option.bind_eq_bind] at hm
    cases hr : resOf P st.H st.t r with
    | none => simp [hr] at hm
    | some x =>
      cases hrs : rs.mapM (resOf P st.H st.t) with
      | none => simp [hr, hrs] at hm
      | some ys =>
        simp [hr, hrs] at hm
        subst hm
        obtain ⟨x, p⟩ := x
        obtain ⟨v, h1, h2⟩ := resOf_ok h hr (hp (x, p) (by simp))
        obtain ⟨vs, g1, g2, g3⟩ := results_list h rs ys hrs fun y hy => hp y (by simp [hy])
        refine ⟨v :: vs, by simp [h1, g1], by simp [g2], fun j y hj => ?_⟩
        cases j with
        | zero => simp at hj; subst hj; exact ⟨v, rfl, h2⟩
        | succ j => simpa using g3 j y (by simpa using hj)

theorem results_eq (fn : Func) (tmps : Array Value) : results fn tmps = (do
    let vs ← fn.results.mapM (resSem tmps)
    pure (if h : vs.size = 1 then vs[0] else .tuple vs)) := by
  unfold results
  congr 1

theorem res_ok {P : Program} {ctx : Env} {n : Cf} {st : St} {a : Act} {E : Env} (h : SR ctx n st a E) {fn : Func} {K : V → List O → Prop} (hk : resK P fn.results.toList st K) :
    ∃ v x, (results fn a.tmps).run P E.w = .ok v E.w ∧ VRel E x v ∧ K x E.H := by
  rw [results_eq]
  have hm : ∀ vs : List Value, (fn.results.toList.mapM (resSem a.tmps)).run P E.w = .ok vs E.w → (fn.results.mapM (resSem a.tmps)).run P E.w = .ok vs.toArray E.w := by
    intro vs hv
    rw [Array.mapM_eq_mapM_toList]
    simp [hv]
  unfold resK at hk
  split at hk
  · rename_i r hr
    split at hk
    · rename_i x p hx
      obtain ⟨v, h1, h2⟩ := resOf_ok h hx hk.1
      have := hm [v] (by rw [hr]; simp [h1])
      refine ⟨v, x, ?_, h2, by rw [h.H]; exact hk.2⟩
      simp [this]
    · exact hk.elim
  · rename_i hne
    split at hk
    · rename_i xs hx
      obtain ⟨vs, g1, g2, g3⟩ := results_list h _ xs hx hk.1
      have := hm vs g1
      have hlen : xs.length = fn.results.toList.length := by
        have := results_list h _ xs hx hk.1
        clear this
        have gen : ∀ (rs : List ResultVar) (xs : List (V × Prop)), rs.mapM (resOf P st.H st.t) = some xs → xs.length = rs.length := by
          intro rs
          induction rs with
          | nil => intro xs h; simp at h; simp [h]
          | cons r rs ih =>
            intro xs h
            simp only [List.mapM_cons, Option.pure_def, Option.bind_eq_bind] at h
            cases hr : resOf P st.H st.t r with
            | none => simp [hr] at h
            | some x =>
              cases hrs : rs.mapM (resOf P st.H st.t) with
              | none => simp [hr, hrs] at h
              | some ys => simp [hr, hrs] at h; subst h; simp [ih ys hrs]
        exact gen _ _ hx
      have hsz : vs.toArray.size ≠ 1 := by
        intro e
        simp at e
        have : fn.results.toList.length = 1 := by omega
        obtain ⟨r, hr⟩ := List.length_eq_one_iff.1 this
        exact hne r hr
      refine ⟨.tuple vs.toArray, .tup (xs.map (·.1)), ?_, ?_, by rw [h.H]; exact hk.2⟩
      · simp only [Sem.run_bind, this, Result.andThen_ok]
        rw [dif_neg hsz]; rfl
      · refine .tup (by simp [g2]) fun j y hj => ?_
        simp only [List.getElem?_map, Option.map_eq_some_iff] at hj
        obtain ⟨x, hx, rfl⟩ := hj
        obtain ⟨v, hv, hr⟩ := g3 j x hx
        simp only [Array.getD_eq_getD_getElem?, List.getElem?_toArray, hv, Option.getD_some]
        exact hr
    · exact hk.elim

/-- A function's contract out of its text. -/
theorem ct_of_awp {P : Program} {f : FuncId} {fn : Func} {c : Code} (hf : P.funcs[f]? = some fn) (hb : fn.body = some c) (hname : (fn.name == "runtime.NumGoroutine") = false) (hok : okC fn.ntmps c = true)
    {args : List V} {H : List O} {K : V → List O → Prop} (h : awp P ⟨fn.ntmps, H.length⟩ c ⟨argsT 0 args, H⟩ (endK P fn.results.toList K)) : Ct P f args H K := by
  refine ⟨⟨fn, hf, hname, by simp [hb]⟩, fun E vs hE hH hn hv => ?_⟩
  have hs : SR E ⟨fn.ntmps, H.length⟩ ⟨argsT 0 args, H⟩ { tmps := vs ++ Array.replicate (fn.ntmps - vs.size) undef, defers := [] } E := by
    refine ⟨by simp; omega, by rw [hH]; exact Nat.le_refl _, rfl, fun i => ?_, hH, hE, Trans.refl E⟩
    simp only [look_argsT, Nat.zero_le, if_true, Nat.sub_zero]
    simp only [List.getD_eq_getElem?_getD]
    cases hx : args[i]? with
    | none => simp only [Option.getD_none]; exact .un
    | some x =>
      have hlt : i < vs.size := by rw [hn]; exact (List.getElem?_eq_some_iff.1 hx).1
      have := hv i x hx
      simp only [Option.getD_some]
      rw [Array.getD_eq_getD_getElem?] at this ⊢
      rw [Array.getElem?_append_left hlt]; exact this
  refine calls_of_wp hf hb (wp_mono (awp_sound c _ _ h hok E _ E hs) ?_)
  rintro e a' w' ⟨x, st', E', rfl, rfl, hq, hs'⟩
  have fin : resK P fn.results.toList st' K → a'.defers = [] ∧ ∃ v, (results fn a'.tmps).run P E'.w = .ok v E'.w ∧ (∃ v' x E'', Ending.returned v = .returned v' ∧ E''.w = E'.w ∧ K x E''.H ∧ VRel E'' x v' ∧ HRel E'' ∧ Trans E E'') := by
    intro hk
    obtain ⟨v, y, h1, h2, h3⟩ := res_ok hs' hk
    exact ⟨hs'.defers, v, h1, v, y, E', rfl, rfl, h3, h2, hs'.rel, hs'.tr⟩
  cases x with
  | normal => exact fin hq
  | exit id => exact hq.elim
  | ret => exact fin hq
  | goto l => exact hq.elim

end Go.Lz
