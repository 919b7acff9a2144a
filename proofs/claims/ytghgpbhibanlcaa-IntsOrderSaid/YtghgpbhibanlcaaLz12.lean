/- Lz12: regions that draw their order; soundness; calls. -/
import Derived.Test.YtghgpbhibanlcaaLz11
namespace Go.Lz
set_option linter.unusedVariables false
set_option linter.unusedSimpArgs false

/-! ### Regions that draw their order. -/

/-- What slot t holds when of the first n operations those in S have been carried out. -/
def tv (all : Array Oper) (T : Nat → V) (t0 : Nat → V) (S : Nat → Prop) [DecidablePred S] (t : Nat) : Nat → V
  | 0 => t0 t
  | n + 1 => if S n ∧ (all[n]?).bind (·.dst) = some t then T n else tv all T t0 S t n

theorem tv_agree {all : Array Oper} {T : Nat → V} {t0 : Nat → V} {S : Nat → Prop} [DecidablePred S] {t i : Nat} (h1 : ∀ j, j < i → (all[j]?).bind (·.dst) = some t → S j) :
    tv all T t0 S t i = tv all T t0 (fun _ => True) t i := by
  induction i with
  | zero => rfl
  | succ i ih =>
    simp only [tv, true_and]
    by_cases hd : (all[i]?).bind (·.dst) = some t
    · simp [hd, h1 i (Nat.lt_succ_self i) hd]
    · simp [hd]; exact ih fun j hj => h1 j (by omega)

theorem tv_skip {all : Array Oper} {T : Nat → V} {t0 : Nat → V} {S : Nat → Prop} [DecidablePred S] {t i n : Nat} (hin : i ≤ n) (h2 : ∀ j, i ≤ j → j < n → (all[j]?).bind (·.dst) = some t → ¬ S j) :
    tv all T t0 S t n = tv all T t0 S t i := by
  induction n with
  | zero => have : i = 0 := by omega
            subst this; rfl
  | succ n ih =>
    by_cases he : i = n + 1
    · subst he; rfl
    · simp only [tv]
      rw [if_neg (fun ⟨hs, hd⟩ => h2 n (by omega) (by omega) hd hs)]
      exact ih (by omega) fun j h1 h3 => h2 j h1 (by omega)

theorem tv_congr {all : Array Oper} {T : Nat → V} {t0 : Nat → V} {S S' : Nat → Prop} [DecidablePred S] [DecidablePred S'] {t n : Nat} (h : ∀ j, j < n → (all[j]?).bind (·.dst) = some t → (S j ↔ S' j)) :
    tv all T t0 S t n = tv all T t0 S' t n := by
  induction n with
  | zero => rfl
  | succ n ih =>
    simp only [tv]
    by_cases hd : (all[n]?).bind (·.dst) = some t
    · have := h n (Nat.lt_succ_self n) hd
      simp only [hd, and_true, this]
      split
      · rfl
      · exact ih fun j hj => h j (by omega)
    · simp [hd]; exact ih fun j hj => h j (by omega)

/-- What slot t holds behind n operations from number k on, in the text's order. -/
def tvF (all : Array Oper) (T : Nat → V) (l : Nat → V) (k t : Nat) : Nat → V
  | 0 => l t
  | n + 1 => if (all[k + n]?).bind (·.dst) = some t then T (k + n) else tvF all T l k t n

theorem tvF_zero {all : Array Oper} {T l : Nat → V} {t n : Nat} : tvF all T l 0 t n = tv all T l (fun _ => True) t n := by
  induction n with
  | zero => rfl
  | succ n ih => simp only [tvF, tv, true_and, Nat.zero_add, ih]

theorem tvF_shift {all : Array Oper} {T l : Nat → V} {k t n : Nat} : tvF all T l k t (n + 1) = tvF all T (fun t => if (all[k]?).bind (·.dst) = some t then T k else l t) (k + 1) t n := by
  induction n with
  | zero => rfl
  | succ n ih =>
    rw [tvF, ih]
    simp only [tvF]
    rw [show k + (n + 1) = k + 1 + n by omega]

theorem tvF_congr {all : Array Oper} {T l l' : Nat → V} {k t n : Nat} (h : ∀ t, l t = l' t) : tvF all T l k t n = tvF all T l' k t n := by
  induction n with
  | zero => exact h t
  | succ n ih => simp only [tvF, ih]

/-- What one operation of such a region yields, whatever has been carried out besides. -/
def OpQ (P : Program) (all : Array Oper) (H : List O) (i : Nat) (o : Oper) (l : Nat → V) (x : V) : Prop :=
  ∀ (a : Act) (E : Env), HRel E → E.H = H → (∀ t, t ∈ namesOf o ∨ (∃ g w, o.guard = some (g, w) ∧ (all[g]?).bind (·.dst) = some t) → VRel E (l t) (a.tmps.getD t undef)) →
    ∀ (K : Act → World → Prop) (Q : Exit → Act → World → Prop), (∀ v E', VRel E' x v → E'.H = H → HRel E' → Trans E E' → K (a.put o.dst v) E'.w) → wpOp P all Q i K a E.w

theorem stepF_congr {P : Program} {op : Op} {ρ ρ' : Operand → V} {H : List O} (h : ∀ x ∈ op.operands, ρ x = ρ' x) : stepF P op ρ H = stepF P op ρ' H := by
  cases op <;> simp only [Op.operands, Array.mem_def] at h <;> simp only [stepF]
  case slice t x lo hi mx =>
    have hx := h x (by simp)
    have hl : lo.map ρ = lo.map ρ' := by cases lo with | none => rfl | some y => simp [h y (by simp)]
    have hh : hi.map ρ = hi.map ρ' := by cases hi with | none => rfl | some y => simp [h y (by simp)]
    have hm : mx.map ρ = mx.map ρ' := by cases mx with | none => rfl | some y => simp [h y (by simp)]
    rw [hx, hl, hh, hm]
  case makeFunc fn first cap =>
    have : cap.toList.map ρ = cap.toList.map ρ' := List.map_congr_left fun x hx => h x (by simp; exact .inr (by simpa using hx))
    cases fn <;> simp only [this]
  case build t parts =>
    have : (parts.toList.map fun p => (p.1, ρ p.2)) = parts.toList.map fun p => (p.1, ρ' p.2) := List.map_congr_left fun p hp => by rw [h p.2 (by simp; exact ⟨p.1, by simpa using hp⟩)]
    rw [this]
  case buildSlice t n parts =>
    have : (parts.toList.map fun p => (p.1, ρ p.2)) = parts.toList.map fun p => (p.1, ρ' p.2) := List.map_congr_left fun p hp => by rw [h p.2 (by simp; exact ⟨p.1, by simpa using hp⟩)]
    rw [this]
  case call c =>
    obtain ⟨callee, args, ats⟩ := c
    cases callee with
    | builtin b =>
      have : args.toList.map ρ = args.toList.map ρ' := List.map_congr_left fun x hx => h x (by simp [Call.operands]; simpa using hx)
      simp only [this]
    | value f => rfl
    | invoke r m => rfl
  case makeMap t r => cases r <;> rfl
  all_goals (simp at h; simp [h])

theorem step_okQ {P : Program} {o : Oper} {a : Act} {E : Env} {l : Nat → V} (hE : HRel E) (hl : ∀ t, t ∈ namesOf o → VRel E (l t) (a.tmps.getD t undef)) (hp : (stepF P o.op (fun x => match x with | .tmp i => l i | .const v => V.ofV v | .func f => .one (.fn f []) | .global _ => .un) E.H).pre) :
    WpV P o a E (stepF P o.op (fun x => match x with | .tmp i => l i | .const v => V.ofV v | .func f => .one (.fn f []) | .global _ => .un) E.H) := by
  have e := stepF_congr (P := P) (op := o.op) (H := E.H) (ρ := fun x => match x with | .tmp i => l i | .const v => V.ofV v | .func f => .one (.fn f []) | .global _ => .un)
    (ρ' := fun x => match x with | .tmp i => (if i ∈ namesOf o then l i else .un) | .const v => V.ofV v | .func f => .one (.fn f []) | .global _ => .un) (fun x hx => by
      cases x with
      | tmp t =>
        have : t ∈ namesOf o := by simp only [namesOf, List.mem_filterMap]; exact ⟨.tmp t, by simpa using hx, rfl⟩
        simp [this]
      | _ => rfl)
  rw [e] at hp ⊢
  refine step_ok hE (fun x => ?_) hp
  cases x with
  | tmp t =>
    simp only
    split
    · rename_i ht; exact hl t ht
    · exact .un
  | const v => exact V.ofV_rel E v
  | global g => exact .un
  | func f => exact .one (.fn rfl (by simp))

theorem Good.same_step {r : R} {H : List O} {K : V → List O → Prop} (h : bindR r fun v H' => H' = H ∧ K v H') (hf : r.fact) : r.h = H ∧ K r.v r.h := h.2 hf

theorem awpQ_ok {P : Program} {all : Array Oper} {i : Nat} {o : Oper} {st : St} {K : St → Prop} (hi : all[i]? = some o) (hw : awpQ P o st K) (hwant : ∀ (a : Act) (E : Env), (∀ t, t ∈ namesOf o ∨ (∃ g w, o.guard = some (g, w) ∧ (all[g]?).bind (·.dst) = some t) → VRel E (look st.t t) (a.tmps.getD t undef)) → Region.wanted o (yielded all a.tmps) = true)
    (hlive : ∃ (a : Act) (E : Env), HRel E ∧ E.H = st.H ∧ ∀ t, VRel E (look st.t t) (a.tmps.getD t undef)) :
    ∃ x, OpQ P all st.H i o (look st.t) x ∧ K (st.put o.dst x st.H) := by
  unfold awpQ at hw
  split at hw
  · rename_i f args ats hop
    split at hw
    · rename_i g cap hf
      obtain ⟨x, hc, hk⟩ := hw
      refine ⟨x, fun a E hE hH hl Kn Q hn => ?_, hk⟩
      simp only [wpOp, hi, hwant a E hl, if_true]
      have hρ : ∀ y ∈ o.op.operands, VRel E (st.ρ y) (a.eval y) := by
        intro y hy
        cases y with
        | tmp t => exact hl t (.inl (by simp only [namesOf, List.mem_filterMap]; exact ⟨.tmp t, by simpa using hy, rfl⟩))
        | const v => exact V.ofV_rel E v
        | global g => exact .un
        | func f => exact .one (.fn rfl (by simp))
      have hfr := hρ f (by simp [hop, Op.operands, Call.operands])
      rw [hf] at hfr
      obtain ⟨vs, hv, hvn, hvr⟩ := fn_inv hfr
      left
      unfold Oper.wp
      rw [callee_run hop hv hc.1]
      have hsz : (args.map a.eval ++ vs).size = (args.toList.map st.ρ ++ cap.map V.one).length := by simp [hvn]
      refine Calls.mono (hc.2 E (args.map a.eval ++ vs) hE hH hsz fun j y hj => ?_) ?_
      · rw [List.getElem?_append] at hj
        split at hj
        · rename_i hlt
          simp at hlt
          simp only [List.getElem?_map, Option.map_eq_some_iff] at hj
          obtain ⟨p, hp, rfl⟩ := hj
          have hp' : args[j]? = some p := by simpa using hp
          have : (args.map a.eval ++ vs).getD j undef = a.eval p := by
            rw [Array.getD_eq_getD_getElem?, Array.getElem?_append_left (by simpa using hlt), Array.getElem?_map, hp']; rfl
          rw [this]
          refine hρ p ?_
          simp only [hop, Op.operands, Call.operands]
          exact Array.mem_append.2 (.inr (Array.mem_of_getElem? hp'))
        · rename_i hlt
          simp at hlt
          simp only [List.getElem?_map, Option.map_eq_some_iff, List.length_map, Array.length_toList] at hj
          obtain ⟨c, hc, rfl⟩ := hj
          have : (args.map a.eval ++ vs).getD j undef = vs.getD (j - args.size) undef := by
            rw [Array.getD_eq_getD_getElem?, Array.getD_eq_getD_getElem?, Array.getElem?_append_right (by simpa using hlt)]; simp
          rw [this]; exact .one (hvr _ c hc)
      · rintro e w' ⟨v, y, E', rfl, rfl, ⟨rfl, hH'⟩, hx, hh, tr⟩
        exact hn v E' hx hH' hh tr
    · exact hw.elim
  · rename_i hop
    obtain ⟨hp, hk⟩ := hw
    obtain ⟨a0, E0, hE0, hH0, hl0⟩ := hlive
    have hst : st.ρ = (fun x => match x with | .tmp i => look st.t i | .const v => V.ofV v | .func f => .one (.fn f []) | .global _ => .un) := by
      funext x; cases x <;> rfl
    rw [hst] at hp hk
    rw [← hH0] at hp
    have hfact := (step_okQ (P := P) (o := o) (a := a0) hE0 (fun t _ => hl0 t) hp).1
    rw [hH0] at hp hfact
    obtain ⟨hsame, hK⟩ := hk hfact
    rw [hsame] at hK
    refine ⟨_, fun a E hE hH hl Kn Q hn => ?_, hK⟩
    simp only [wpOp, hi, hwant a E hl, if_true]
    left
    rw [← hH] at hp
    obtain ⟨_, hwp⟩ := step_okQ (P := P) (o := o) (a := a) hE (fun t ht => hl t (.inl ht)) hp
    refine hwp Kn Q fun v E' hv hH' hh tr => ?_
    rw [hH] at hv hH'
    exact hn v E' hv (hH'.trans hsame) hh tr

theorem wpOp_some {P : Program} {all : Array Oper} {i : Nat} {K : Act → World → Prop} {a : Act} {w : World} (h : wpOp P all (fun _ _ _ => False) i K a w) : ∃ a' w', K a' w' := by
  unfold wpOp at h
  split at h
  · exact ⟨_, _, h⟩
  · split at h
    · rcases h with h | ⟨_, _, _, h⟩
      · unfold Oper.wp at h
        generalize (execOp a.eval _).run P w = r at h
        cases r with
        | ok n w' =>
          cases n <;> simp only [Oper.upon] at h <;> try (exact h.elim)
          · exact ⟨_, _, h⟩
          · exact ⟨_, _, h⟩
          · obtain ⟨e, w2, fr, hR, _⟩ := h []
            cases e with
            | returned v => exact ⟨_, _, hR⟩
            | panicked c => exact hR.elim
            | outgrown => obtain ⟨_, _, hR⟩ := hR; exact hR.elim
          · exact ⟨_, _, h⟩
          · obtain ⟨v, w2, hR, _⟩ := h default []
            exact ⟨_, _, hR⟩
        | halt x w' => cases x <;> simp only [Oper.upon] at h
      · exact h.elim
    · exact ⟨_, _, h⟩

theorem tvF_congrT {all : Array Oper} {T T' l : Nat → V} {k t n : Nat} (h : ∀ m, k ≤ m → T m = T' m) : tvF all T l k t n = tvF all T' l k t n := by
  induction n with
  | zero => rfl
  | succ n ih => simp only [tvF, ih, h (k + n) (by omega)]

def Live (st : St) : Prop := ∃ (a : Act) (E : Env) (n : Nat), n ≤ a.tmps.size ∧ HRel E ∧ E.H = st.H ∧ (∀ t, VRel E (look st.t t) (a.tmps.getD t undef)) ∧ n = a.tmps.size

theorem look_put (st : St) (d : Option Nat) (x : V) (H : List O) (t : Nat) : look (st.put d x H).t t = if d = some t then x else look st.t t := by
  cases d with
  | none => simp [St.put]
  | some d => simp [St.put, look_cons]

theorem look_assume {st : St} {d : Nat} {b : Bool} (h : look st.t d = .one (.bool b)) (t : Nat) : look ((d, .one (.bool b)) :: st.t) t = look st.t t := by
  rw [look_cons]; split
  · rename_i e; subst e; exact h.symm
  · rfl

theorem put_rel {E : Env} {st : St} {a : Act} {o : Oper} {x : V} {v : Value} {H : List O} (ho : ∀ d, o.dst = some d → d < a.tmps.size) (hl : ∀ t, VRel E (look st.t t) (a.tmps.getD t undef)) (hx : VRel E x v) :
    ∀ t, VRel E (look (st.put o.dst x H).t t) ((a.put o.dst v).tmps.getD t undef) := by
  intro t
  rw [look_put]
  cases hd : o.dst with
  | none => simp only [reduceCtorEq, if_false]; exact hl t
  | some d =>
    rw [getD_put (ho d hd)]
    by_cases e : d = t
    · simp [e, hx]
    · simp [e]; simpa using hl t

theorem draw_extract {P : Program} {all : Array Oper} {K : St → Prop} {N : Nat} (hok : ∀ o ∈ all.toList, ∀ d, o.dst = some d → d < N) : ∀ (rest : List Oper) (k : Nat) (st : St), (∀ m, rest[m]? = all[k + m]?) →
    (∃ (a : Act) (E : Env), N ≤ a.tmps.size ∧ HRel E ∧ E.H = st.H ∧ ∀ t, VRel E (look st.t t) (a.tmps.getD t undef)) → awpDraw P all rest st K →
    ∃ (T : Nat → V) (stE : St), K stE ∧ stE.H = st.H ∧ (∀ m o, rest[m]? = some o → OpQ P all st.H (k + m) o (fun t => tvF all T (look st.t) k t m) (T (k + m))) ∧ ∀ t, look stE.t t = tvF all T (look st.t) k t rest.length
  | [], k, st, hi, hlive, h => ⟨fun _ => .un, st, h, rfl, by simp, fun t => rfl⟩
  | o :: rest, k, st, hi, hlive, h => by
    have hio : all[k]? = some o := by simpa using (hi 0).symm
    have hod : ∀ d, o.dst = some d → d < N := hok o (List.mem_of_getElem? (by simpa using hio))
    have hrest : ∀ m, rest[m]? = all[k + 1 + m]? := fun m => by have := hi (m + 1); simpa [Nat.add_assoc, Nat.add_comm 1] using this
    -- what is left, once the operation's own yield is known
    have fin : ∀ (st1 : St) (x : V), st1.H = st.H → (∀ t, look st1.t t = look st.t t) → OpQ P all st.H k o (look st.t) x → awpDraw P all rest (st1.put o.dst x st.H) K →
        ∃ (T : Nat → V) (stE : St), K stE ∧ stE.H = st.H ∧ (∀ m o', (o :: rest)[m]? = some o' → OpQ P all st.H (k + m) o' (fun t => tvF all T (look st.t) k t m) (T (k + m))) ∧ ∀ t, look stE.t t = tvF all T (look st.t) k t (o :: rest).length := by
      intro st1 x hH hl hq hd
      have hput : ∀ t, look (st1.put o.dst x st.H).t t = if (all[k]?).bind (·.dst) = some t then x else look st.t t := by
        intro t; rw [look_put, hio, hl t]; rfl
      have hlive2 : ∃ (a : Act) (E : Env), N ≤ a.tmps.size ∧ HRel E ∧ E.H = (st1.put o.dst x st.H).H ∧ ∀ t, VRel E (look (st1.put o.dst x st.H).t t) (a.tmps.getD t undef) := by
        obtain ⟨a, E, hN, hE, hH0, hl0⟩ := hlive
        have := hq a E hE hH0 (fun t _ => hl0 t) (fun a' w' => ∃ v E', E'.w = w' ∧ a' = a.put o.dst v ∧ VRel E' x v ∧ E'.H = st.H ∧ HRel E' ∧ Trans E E') (fun _ _ _ => False) (fun v E' h1 h2 h3 h4 => ⟨v, E', rfl, rfl, h1, h2, h3, h4⟩)
        obtain ⟨a', w', v, E', rfl, rfl, h1, h2, h3, h4⟩ := wpOp_some this
        refine ⟨a.put o.dst v, E', ?_, h3, by cases hd : o.dst <;> simpa [St.put, hd] using h2, fun t => ?_⟩
        · cases hd : o.dst <;> simpa [Act.put, hd] using hN
        · exact put_rel (fun d hd => Nat.lt_of_lt_of_le (hod d hd) hN) (fun t => by rw [hl t]; exact (hl0 t).trans h4) h1 t
      have hHp : (st1.put o.dst x st.H).H = st.H := by cases hd : o.dst <;> rfl
      obtain ⟨T, stE, g1, g2, g3, g4⟩ := draw_extract hok rest (k + 1) (st1.put o.dst x st.H) hrest hlive2 hd
      rw [hHp] at g2 g3
      have key : ∀ t m, tvF all (fun m => if m = k then x else T m) (look st.t) k t (m + 1) = tvF all T (look (st1.put o.dst x st.H).t) (k + 1) t m := by
        intro t m
        rw [tvF_shift]
        rw [tvF_congrT (T' := T) (fun j hj => by simp [show ¬ j = k by omega])]
        exact tvF_congr (fun t => by rw [hput t]; simp)
      refine ⟨fun m => if m = k then x else T m, stE, g1, g2, fun m o' hm => ?_, fun t => ?_⟩
      · cases m with
        | zero =>
          simp at hm; subst hm
          simpa [tvF] using hq
        | succ m =>
          have := g3 m o' (by simpa using hm)
          have e : (fun t => tvF all (fun m => if m = k then x else T m) (look st.t) k t (m + 1)) = fun t => tvF all T (look (st1.put o.dst x st.H).t) (k + 1) t m := funext fun t => key t m
          rw [e, show k + (m + 1) = k + 1 + m by omega]
          simpa [show ¬ k + 1 + m = k by omega] using this
      · rw [List.length_cons, key]; exact g4 t
    simp only [awpDraw, guarded] at h
    split at h
    · rename_i hg
      obtain ⟨x, hq, hd⟩ := awpQ_ok hio h (fun a E _ => by simp [Region.wanted, hg]) (by obtain ⟨a, E, _, h1, h2, h3⟩ := hlive; exact ⟨a, E, h1, h2, h3⟩)
      exact fin st x rfl (fun _ => rfl) hq hd
    · rename_i j want hg
      split at h
      · rename_i d hdj
        split at h
        · rename_i b hb
          have hy : ∀ (a : Act) (E : Env), (∀ t, t ∈ namesOf o ∨ (∃ g w, o.guard = some (g, w) ∧ (all[g]?).bind (·.dst) = some t) → VRel E (look st.t t) (a.tmps.getD t undef)) → yielded all a.tmps j = some b := by
            intro a E hl
            have := hl d (.inr ⟨j, want, hg, hdj⟩)
            rw [hb] at this
            exact yielded_of hdj (bool_inv (one_inv this))
          by_cases hbw : b = want
          · subst hbw
            have hl : ∀ t, look ((d, V.one (C.bool b)) :: st.t) t = look st.t t := look_assume hb
            obtain ⟨x, hq, hd⟩ := awpQ_ok (st := ⟨(d, .one (.bool b)) :: st.t, st.H⟩) hio (h.1 rfl)
              (fun a E hh => by have := hy a E (fun t ht => by rw [← hl t]; exact hh t ht); simp [Region.wanted, hg, this]) (by obtain ⟨a, E, _, h1, h2, h3⟩ := hlive; exact ⟨a, E, h1, h2, fun t => by simp only [hl]; exact h3 t⟩)
            refine fin ⟨(d, .one (.bool b)) :: st.t, st.H⟩ x rfl hl ?_ hd
            have e : look ((d, V.one (C.bool b)) :: st.t) = look st.t := funext hl
            simp only [e] at hq
            exact hq
          · have hbn : b = !want := by cases b <;> cases want <;> simp_all
            have hl : ∀ t, look ((d, V.one (C.bool (!want))) :: st.t) t = look st.t t := look_assume (by rw [hb, hbn])
            refine fin ⟨(d, .one (.bool (!want))) :: st.t, st.H⟩ .un rfl hl (fun a E hE hH hh Kn Q hn => ?_) (h.2 hbn)
            simp only [wpOp, hio]
            have hw : Region.wanted o (yielded all a.tmps) = false := by
              simp only [Region.wanted, hg, hy a E hh]; simp [hbw]
            simp only [hw, Bool.false_eq_true, if_false]
            exact hn undef E .un hH hE (Trans.refl E)
        · exact h.elim
      · exact h.elim

theorem directB_spec {ops : Array Oper} {i j : Nat} (h : directB ops i j = true) : ∃ o, ops[j]? = some o ∧ ∃ e ∈ o.after, Region.binds .any e = true ∧ e.on = i := by
  unfold directB at h
  split at h
  · rename_i o ho
    simp only [List.any_eq_true, Bool.and_eq_true, beq_iff_eq] at h
    obtain ⟨e, he, hb, rfl⟩ := h
    exact ⟨o, ho, e, by simpa using he, hb, rfl⟩
  · cases h

structure DrawOk (ops : Array Oper) : Prop where
  back : ∀ (j : Nat) (o : Oper), ops[j]? = some o → ∀ e ∈ o.after, Region.binds .any e = true → e.on < j
  guard : ∀ (j : Nat) (o : Oper) (g : Nat) (w : Bool), ops[j]? = some o → o.guard = some (g, w) → g < j ∧ directB ops g j = true
  war : ∀ (i j : Nat) (oi oj : Oper) (d : Nat), i < j → ops[i]? = some oi → ops[j]? = some oj →
    (oi.dst = some d ∧ (d ∈ namesOf oj ∨ oj.dst = some d ∨ ∃ g w, oj.guard = some (g, w) ∧ (ops[g]?).bind (·.dst) = some d)) ∨
    (oj.dst = some d ∧ (d ∈ namesOf oi ∨ ∃ g w, oi.guard = some (g, w) ∧ (ops[g]?).bind (·.dst) = some d)) → directB ops i j = true

theorem drawB_spec {ops : Array Oper} (h : drawB ops = true) : DrawOk ops := by
  unfold drawB at h
  rw [List.all_eq_true] at h
  refine ⟨fun j o hj e he hb => ?_, fun j o g w hj hg => ?_, fun i j oi oj d hij hi hj hc => ?_⟩
  · have hlt : j < ops.size := (Array.getElem?_eq_some_iff.1 hj).1
    have := h j (List.mem_range.2 hlt)
    simp only [hj, Bool.and_eq_true] at this
    have := this.1.1
    rw [List.all_eq_true] at this
    have := this e (by simpa using he)
    simpa [hb] using this
  · have hlt : j < ops.size := (Array.getElem?_eq_some_iff.1 hj).1
    have := h j (List.mem_range.2 hlt)
    simp only [hj, hg, Bool.and_eq_true, decide_eq_true_eq] at this
    exact this.1.2
  · have hlt : j < ops.size := (Array.getElem?_eq_some_iff.1 hj).1
    have := h j (List.mem_range.2 hlt)
    simp only [hj, Bool.and_eq_true] at this
    have h2 := this.2
    rw [List.all_eq_true] at h2
    have h3 := h2 i (List.mem_range.2 hij)
    simp only [hi] at h3
    cases hdir : directB ops i j with
    | true => rfl
    | false =>
      simp only [hdir, Bool.or_false, Bool.and_eq_true] at h3
      obtain ⟨⟨⟨h1, h4⟩, h2⟩, h3⟩ := h3
      rcases hc with ⟨hd, hc⟩ | ⟨hd, hc⟩
      · simp only [hd, Bool.not_eq_true', Bool.or_eq_false_iff] at h1
        rcases hc with hc | hc | ⟨g, w, hg, hgd⟩
        · have := h1.1; simp [hc] at this
        · have := h1.2; simp [hc] at this
        · simp only [hd, hg, hgd, Bool.not_eq_true'] at h4; simp at h4
      · rcases hc with hc | ⟨g, w, hg, hgd⟩
        · simp only [hd, Bool.not_eq_true'] at h2; simp [hc] at h2
        · simp only [hd, hg, hgd, Bool.not_eq_true'] at h3; simp at h3

theorem getD_set {listed : Array Bool} {i j : Nat} (hi : i < listed.size) : (listed.setIfInBounds i true).getD j false = (decide (i = j) || listed.getD j false) := by
  simp only [Array.getD_eq_getD_getElem?, Array.getElem?_setIfInBounds]
  by_cases e : i = j
  · subst e; simp [hi]
  · simp [e]

def unl (listed : Array Bool) : Nat := listed.toList.countP (· == false)

theorem unl_set {listed : Array Bool} {i : Nat} (hi : i < listed.size) (h : listed.getD i true = false) : unl (listed.setIfInBounds i true) + 1 = unl listed := by
  have hg : listed[i] = false := by simpa [Array.getD_eq_getD_getElem?, hi] using h
  unfold unl
  have hl : i < listed.toList.length := by simpa using hi
  have : listed.toList = listed.toList.take i ++ false :: listed.toList.drop (i + 1) := by
    rw [← hg]
    conv => lhs; rw [← List.take_append_drop i listed.toList]
    rw [List.drop_eq_getElem_cons hl]; simp
  have h2 : (listed.setIfInBounds i true).toList = listed.toList.take i ++ true :: listed.toList.drop (i + 1) := by
    rw [Array.toList_setIfInBounds, List.set_eq_take_append_cons_drop, if_pos hl]
  rw [h2]
  conv => rhs; rw [this]
  simp [List.countP_append, List.countP_cons]
  omega

theorem unl_zero {listed : Array Bool} (h : unl listed = 0) {j : Nat} (hj : j < listed.size) : listed.getD j false = true := by
  unfold unl at h
  rw [List.countP_eq_zero] at h
  have := h listed[j] (by simp)
  simpa [Array.getD_eq_getD_getElem?, hj] using this

/-- What holds when some operations have been carried out. -/
structure Inv (ctx : Env) (n : Nat) (ops : Array Oper) (T : Nat → V) (l0 : Nat → V) (H : List O) (listed : Array Bool) (a : Act) (E : Env) : Prop where
  size : listed.size = ops.size
  closed : ∀ (j : Nat) (o : Oper), ops[j]? = some o → listed.getD j false = true → ∀ e ∈ o.after, Region.binds .any e = true → listed.getD e.on false = true
  len : n ≤ a.tmps.size
  defers : a.defers = []
  rel : HRel E
  H : E.H = H
  tr : Trans ctx E
  tm : ∀ t, VRel E (tv ops T l0 (fun j => listed.getD j false = true) t ops.size) (a.tmps.getD t undef)

theorem draw_any {P : Program} {ctx : Env} {n : Nat} {ops : Array Oper} {T l0 : Nat → V} {H : List O} {Q : Exit → Act → World → Prop} (hd : DrawOk ops) (hok : ∀ o ∈ ops.toList, ∀ d, o.dst = some d → d < n)
    (hq : ∀ m o, ops[m]? = some o → OpQ P ops H m o (fun t => tv ops T l0 (fun _ => True) t m) (T m))
    (hQ : ∀ (a : Act) (E : Env), n ≤ a.tmps.size → a.defers = [] → HRel E → E.H = H → Trans ctx E → (∀ t, VRel E (tv ops T l0 (fun _ => True) t ops.size) (a.tmps.getD t undef)) → Q .normal a E.w) :
    ∀ (fuel : Nat) (listed : Array Bool) (a : Act) (E : Env), unl listed ≤ fuel → Inv ctx n ops T l0 H listed a E → wpAny P .any ops Q fuel listed a E.w := by
  have done : ∀ (listed : Array Bool) (a : Act) (E : Env), Inv ctx n ops T l0 H listed a E → (∀ j, j < ops.size → listed.getD j false = true) → Q .normal a E.w := by
    intro listed a E hI hall
    refine hQ a E hI.len hI.defers hI.rel hI.H hI.tr fun t => ?_
    have := hI.tm t
    rwa [tv_congr (S' := fun _ => True) (fun j hj _ => by simp [hall j hj])] at this
  have nil : ∀ (listed : Array Bool) (a : Act) (E : Env), Inv ctx n ops T l0 H listed a E → Region.ready .any ops listed = [] → ∀ j, j < ops.size → listed.getD j false = true := by
    intro listed a E hI hr j
    induction j using Nat.strongRecOn with
    | _ j ih =>
      intro hj
      cases hl : listed.getD j false with
      | true => rfl
      | false =>
        have hmem : j ∈ Region.ready .any ops listed := by
          rw [mem_ready]
          refine ⟨by simp only [Array.getD_eq_getD_getElem?] at hl ⊢; rw [Array.getElem?_eq_getElem (by rw [hI.size]; exact hj)] at hl ⊢; simpa using hl, ops[j], by simp [hj], fun e he hb => ?_⟩
          have hlt := hd.back j ops[j] (by simp [hj]) e he hb
          exact ih e.on hlt (by omega)
        rw [hr] at hmem; cases hmem
  intro fuel
  induction fuel with
  | zero =>
    intro listed a E hu hI
    have hall : ∀ j, j < ops.size → listed.getD j false = true := fun j hj => unl_zero (by omega) (by rw [hI.size]; exact hj)
    refine ⟨?_, done listed a E hI hall⟩
    apply List.eq_nil_iff_forall_not_mem.2
    intro j hj
    rw [mem_ready] at hj
    obtain ⟨h1, o, ho, _⟩ := hj
    have hlt := (Array.getElem?_eq_some_iff.1 ho).1
    have h2 := hall j hlt
    simp only [Array.getD_eq_getD_getElem?, Array.getElem?_eq_getElem (show j < listed.size by rw [hI.size]; exact hlt)] at h1 h2
    simp_all
  | succ fuel ih =>
    intro listed a E hu hI
    refine ⟨fun hr => done listed a E hI (nil listed a E hI hr), fun i hi => ?_⟩
    rw [mem_ready] at hi
    obtain ⟨hi0, o, ho, hafter⟩ := hi
    have hilt : i < ops.size := (Array.getElem?_eq_some_iff.1 ho).1
    have hils : i < listed.size := by rw [hI.size]; exact hilt
    have hif : listed.getD i false = false := by
      simp only [Array.getD_eq_getD_getElem?, Array.getElem?_eq_getElem hils] at hi0 ⊢; simpa using hi0
    have hod : ∀ d, o.dst = some d → d < n := hok o (List.mem_of_getElem? (by simpa using ho))
    -- an operation that must come behind i has not been carried out
    have later : ∀ j, directB ops i j = true → listed.getD j false = true → False := by
      intro j hdir hl
      obtain ⟨oj, hoj, e, he, hb, rfl⟩ := directB_spec hdir
      have := hI.closed j oj hoj hl e he hb
      rw [hif] at this; cases this
    have sooner : ∀ j, directB ops j i = true → listed.getD j false = true := by
      intro j hdir
      obtain ⟨oi, hoi, e, he, hb, rfl⟩ := directB_spec hdir
      rw [ho] at hoi; cases hoi
      exact hafter e he hb
    have dstOf : ∀ {j t : Nat}, (ops[j]?).bind (·.dst) = some t → ∃ oj, ops[j]? = some oj ∧ oj.dst = some t := by
      intro j t h
      cases hj : ops[j]? with
      | none => simp [hj] at h
      | some oj => simp [hj] at h; exact ⟨oj, rfl, h⟩
    refine hq i o ho a E hI.rel hI.H (fun t ht => ?_) _ Q fun v E' hv hH' hh tr => ?_
    · have h1 : tv ops T l0 (fun j => listed.getD j false = true) t ops.size = tv ops T l0 (fun j => listed.getD j false = true) t i := by
        refine tv_skip (Nat.le_of_lt hilt) fun j hij hj hdj hl => ?_
        obtain ⟨oj, hoj, hdj⟩ := dstOf hdj
        rcases Nat.lt_or_eq_of_le hij with hlt | rfl
        · refine later j (hd.war i j o oj t hlt ho hoj (.inr ⟨hdj, ?_⟩)) hl
          rcases ht with ht | ⟨g, w, hg, hgd⟩
          · exact .inl ht
          · exact .inr ⟨g, w, hg, hgd⟩
        · rw [hif] at hl; cases hl
      have h2 : tv ops T l0 (fun j => listed.getD j false = true) t i = tv ops T l0 (fun _ => True) t i := by
        refine tv_agree fun j hj hdj => ?_
        obtain ⟨oj, hoj, hdj⟩ := dstOf hdj
        rcases ht with ht | ⟨g, w, hg, hgd⟩
        · exact sooner j (hd.war j i oj o t hj hoj ho (.inl ⟨hdj, .inl ht⟩))
        · exact sooner j (hd.war j i oj o t hj hoj ho (.inl ⟨hdj, .inr (.inr ⟨g, w, hg, hgd⟩)⟩))
      have := hI.tm t
      rw [h1, h2] at this
      exact this
    · refine ih (listed.setIfInBounds i true) (a.put o.dst v) E' (by have := unl_set hils hi0; omega) ⟨by simp [hI.size], ?_, ?_, ?_, hh, hH', hI.tr.trans tr, ?_⟩
      · intro j oj hoj hl e he hb
        rw [getD_set hils] at hl ⊢
        rw [Bool.or_eq_true] at hl ⊢
        rcases hl with hl | hl
        · have : i = j := by simpa using hl
          subst this
          rw [ho] at hoj; cases hoj
          exact .inr (hafter e he hb)
        · exact .inr (hI.closed j oj hoj hl e he hb)
      · cases hdd : o.dst <;> simpa [Act.put, hdd] using hI.len
      · cases hdd : o.dst <;> simpa [Act.put, hdd] using hI.defers
      · intro t
        by_cases hdt : o.dst = some t
        · have htn := hod t hdt
          have hlt : t < a.tmps.size := Nat.lt_of_lt_of_le htn hI.len
          rw [hdt, getD_put hlt, if_pos rfl]
          have h1 : tv ops T l0 (fun j => (listed.setIfInBounds i true).getD j false = true) t ops.size = tv ops T l0 (fun j => (listed.setIfInBounds i true).getD j false = true) t (i + 1) := by
            refine tv_skip hilt fun j hij hj hdj hl => ?_
            obtain ⟨oj, hoj, hdj⟩ := dstOf hdj
            rw [getD_set hils, Bool.or_eq_true] at hl
            rcases hl with hl | hl
            · have : i = j := by simpa using hl
              omega
            · exact later j (hd.war i j o oj t (by omega) ho hoj (.inl ⟨hdt, .inr (.inl hdj)⟩)) hl
          rw [h1, tv, if_pos ⟨by rw [getD_set hils]; simp, by simp [ho, hdt]⟩]
          exact hv
        · have h1 : tv ops T l0 (fun j => (listed.setIfInBounds i true).getD j false = true) t ops.size = tv ops T l0 (fun j => listed.getD j false = true) t ops.size := by
            refine tv_congr fun j hj hdj => ?_
            obtain ⟨oj, hoj, hdj⟩ := dstOf hdj
            have hne : i ≠ j := by rintro rfl; rw [ho] at hoj; cases hoj; exact hdt hdj
            rw [getD_set hils]; simp [hne]
          rw [h1]
          have : (a.put o.dst v).tmps.getD t undef = a.tmps.getD t undef := by
            cases hdd : o.dst with
            | none => rfl
            | some d => rw [getD_put (Nat.lt_of_lt_of_le (hod d hdd) hI.len), if_neg (by rintro rfl; exact hdt hdd)]
          rw [this]
          exact (hI.tm t).trans tr

end Go.Lz
