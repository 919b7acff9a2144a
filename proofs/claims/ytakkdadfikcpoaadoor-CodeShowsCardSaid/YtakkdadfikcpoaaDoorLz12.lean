/- Lz12: regions that draw their order; soundness; calls. -/
import Derived.Test.YtakkdadfikcpoaaDoorLz11
namespace Go.Lz
set_option linter.unusedVariables false
set_option linter.unusedSimpArgs false

/-! ### Regions that draw their order. -/

/-- What slot t holds when of the first n operations those in S have been carried out. -/
def tv (all : Array Oper) (T : Nat → V) (t0 : Nat → V) (S : Nat → Prop) [DecidablePred S] (t : Nat) : Nat → V
  | 0 => t0 t
  | n + 1 => if S n ∧ (all[n]?).bind (·.dst) = some t then T n else tv all T t0 S t n

theorem tv_agree {all : Array Oper} {T : Nat → V} {t0 : Nat → V} {S : Nat → Prop} [DecidablePred S] {t i : Nat} (h1 : ∀ j, j < i → (all[j]?).bind (·.dst) = some t → S j) :
    tv all T t0 S t i = tv all T t0 (fun _ => True) t i := by
  induction i with
  | zero => rfl
  | succ i ih =>
    simp only [tv, true_and]
    by_cases hd : (all[i]?).bind (·.dst) = some t
    · simp [hd, h1 i (Nat.lt_succ_self i) hd]
    · simp [hd]; exact ih fun j hj => h1 j (by omega)

theorem tv_skip {all : Array Oper} {T : Nat → V} {t0 : Nat → V} {S : Nat → Prop} [DecidablePred S] {t i n : Nat} (hin : i ≤ n) (h2 : ∀ j, i ≤ j → j < n → (all[j]?).bind (·.dst) = some t → ¬ S j) :
    tv all T t0 S t n = tv all T t0 S t i := by
  induction n with
  | zero => have : i = 0 := by omega
            subst this; rfl
  | succ n ih =>
    by_cases he : i = n + 1
    · subst he; rfl
    · simp only [tv]
      rw [if_neg (fun ⟨hs, hd⟩ => h2 n (by omega) (by omega) hd hs)]
      exact ih (by omega) fun j h1 h3 => h2 j h1 (by omega)

theorem tv_congr {all : Array Oper} {T : Nat → V} {t0 : Nat → V} {S S' : Nat → Prop} [DecidablePred S] [DecidablePred S'] {t n : Nat} (h : ∀ j, j < n → (all[j]?).bind (·.dst) = some t → (S j ↔ S' j)) :
    tv all T t0 S t n = tv all T t0 S' t n := by
  induction n with
  | zero => rfl
  | succ n ih =>
    simp only [tv]
    by_cases hd : (all[n]?).bind (·.dst) = some t
    · have := h n (Nat.lt_succ_self n) hd
      simp only [hd, and_true, this]
      split
      · rfl
      · exact ih fun j hj => h j (by omega)
    · simp [hd]; exact ih fun j hj => h j (by omega)

/-- What slot t holds behind n operations from number k on, in the text's order. -/
def tvF (all : Array Oper) (T : Nat → V) (l : Nat → V) (k t : Nat) : Nat → V
  | 0 => l t
  | n + 1 => if (all[k + n]?).bind (·.dst) = some t then T (k + n) else tvF all T l k t n

theorem tvF_zero {all : Array Oper} {T l : Nat → V} {t n : Nat} : tvF all T l 0 t n = tv all T l (fun _ => True) t n := by
  induction n with
  | zero => rfl
  | succ n ih => simp only [tvF, tv, true_and, Nat.zero_add, ih]

theorem tvF_shift {all : Array Oper} {T l : Nat → V} {k t n : Nat} : tvF all T l k t (n + 1) = tvF all T (fun t => if (all[k]?).bind (·.dst) = some t then T k else l t) (k + 1) t n := by
  induction n with
  | zero => rfl
  | succ n ih =>
    rw [tvF, ih]
    simp only [tvF]
    rw [show k + (n + 1) = k + 1 + n by omega]

theorem tvF_congr {all : Array Oper} {T l l' : Nat → V} {k t n : Nat} (h : ∀ t, l t = l' t) : tvF all T l k t n = tvF all T l' k t n := by
  induction n with
  | zero => exact h t
  | succ n ih => simp only [tvF, ih]

/-- What one operation of such a region yields, whatever has been carried out besides. -/
def OpQ (P : Program) (all : Array Oper) (H : List O) (i : Nat) (o : Oper) (l : Nat → V) (x : V) : Prop :=
  ∀ (a : Act) (E : Env), HRel E → E.H = H → (∀ t, t ∈ namesOf o ∨ (∃ g w, o.guard = some (g, w) ∧ (all[g]?).bind (·.dst) = some t) → VRel E (l t) (a.tmps.getD t undef)) →
    ∀ (K : Act → World → Prop) (Q : Exit → Act → World → Prop), (∀ v E', VRel E' x v → E'.H = H → HRel E' → Trans E E' → K (a.put o.dst v) E'.w) → wpOp P all Q i K a E.w

theorem stepF_congr {P : Program} {pos : String} {op : Op} {ρ ρ' : Operand → V} {H : List O} (h : ∀ x ∈ op.operands, ρ x = ρ' x) : stepF P pos op ρ H = stepF P pos op ρ' H := by
  cases op <;> simp only [Op.operands, Array.mem_def] at h <;> simp only [stepF]
  case slice t x lo hi mx =>
    have hx := h x (by simp)
    have hl : lo.map ρ = lo.map ρ' := by cases lo with | none => rfl | some y => simp [h y (by simp)]
    have hh : hi.map ρ = hi.map ρ' := by cases hi with | none => rfl | some y => simp [h y (by simp)]
    have hm : mx.map ρ = mx.map ρ' := by cases mx with | none => rfl | some y => simp [h y (by simp)]
    rw [hx, hl, hh, hm]
  case makeFunc fn first cap =>
    have : cap.toList.map ρ = cap.toList.map ρ' := List.map_congr_left fun x hx => h x (by simp; exact .inr (by simpa using hx))
    cases fn <;> simp only [this]
  case build t parts =>
    have : (parts.toList.map fun p => (p.1, ρ p.2)) = parts.toList.map fun p => (p.1, ρ' p.2) := List.map_congr_left fun p hp => by rw [h p.2 (by simp; exact ⟨p.1, by simpa using hp⟩)]
    rw [this]
  case buildSlice t n parts =>
    have : (parts.toList.map fun p => (p.1, ρ p.2)) = parts.toList.map fun p => (p.1, ρ' p.2) := List.map_congr_left fun p hp => by rw [h p.2 (by simp; exact ⟨p.1, by simpa using hp⟩)]
    rw [this]
  case call c =>
    obtain ⟨callee, args, ats⟩ := c
    cases callee with
    | builtin b =>
      have : args.toList.map ρ = args.toList.map ρ' := List.map_congr_left fun x hx => h x (by simp [Call.operands]; simpa using hx)
      simp only [this]
    | value f => rfl
    | invoke r m => rfl
  case makeMap t r => cases r <;> rfl
  all_goals (simp at h; simp [h])

theorem step_okQ {P : Program} {o : Oper} {a : Act} {E : Env} {l : Nat → V} (hE : HRel E) (hl : ∀ t, t ∈ namesOf o → VRel E (l t) (a.tmps.getD t undef)) (hp : (stepF P o.pos o.op (fun x => match x with | .tmp i => l i | .const v => V.ofV v | .func f => .one (.fn f []) | .global _ => .un) E.H).pre) :
    WpV P o a E (stepF P o.pos o.op (fun x => match x with | .tmp i => l i | .const v => V.ofV v | .func f => .one (.fn f []) | .global _ => .un) E.H) := by
  have e := stepF_congr (P := P) (pos := o.pos) (op := o.op) (H := E.H) (ρ := fun x => match x with | .tmp i => l i | .const v => V.ofV v | .func f => .one (.fn f []) | .global _ => .un)
    (ρ' := fun x => match x with | .tmp i => (if i ∈ namesOf o then l i else .un) | .const v => V.ofV v | .func f => .one (.fn f []) | .global _ => .un) (fun x hx => by
      cases x with
      | tmp t =>
        have : t ∈ namesOf o := by simp only [namesOf, List.mem_filterMap]; exact ⟨.tmp t, by simpa using hx, rfl⟩
        simp [this]
      | _ => rfl)
  rw [e] at hp ⊢
  refine step_ok hE (fun x => ?_) hp
  cases x with
  | tmp t =>
    simp only
    split
    · rename_i ht; exact hl t ht
    · exact .un
  | const v => exact V.ofV_rel E v
  | global g => exact .un
  | func f => exact .one (.fn rfl (by simp))

theorem Good.same_step {r : R} {H : List O} {K : V → List O → Prop} (h : bindR r fun v H' => H' = H ∧ K v H') (hf : r.fact) : r.h = H ∧ K r.v r.h := h.2 hf

theorem awpQ_ok {P : Program} {all : Array Oper} {i : Nat} {o : Oper} {st : St} {K : St → Prop} (hi : all[i]? = some o) (hw : awpQ P o st K) (hwant : ∀ (a : Act) (E : Env), (∀ t, t ∈ namesOf o ∨ (∃ g w, o.guard = some (g, w) ∧ (all[g]?).bind (·.dst) = some t) → VRel E (look st.t t) (a.tmps.getD t undef)) → Region.wanted o (yielded all a.tmps) = true)
    (hlive : ∃ (a : Act) (E : Env), HRel E ∧ E.H = st.H ∧ ∀ t, t ∈ namesOf o → VRel E (look st.t t) (a.tmps.getD t undef)) :
    ∃ x, OpQ P all st.H i o (look st.t) x ∧ K (st.put o.dst x st.H) := by
  unfold awpQ at hw
  split at hw
  · rename_i f args ats hop
    split at hw
    · rename_i g cap hf
      obtain ⟨x, hc, hk⟩ := hw
      refine ⟨x, fun a E hE hH hl Kn Q hn => ?_, hk⟩
      simp only [wpOp, hi, hwant a E hl, if_true]
      have hρ : ∀ y ∈ o.op.operands, VRel E (st.ρ y) (a.eval y) := by
        intro y hy
        cases y with
        | tmp t => exact hl t (.inl (by simp only [namesOf, List.mem_filterMap]; exact ⟨.tmp t, by simpa using hy, rfl⟩))
        | const v => exact V.ofV_rel E v
        | global g => exact .un
        | func f => exact .one (.fn rfl (by simp))
      have hfr := hρ f (by simp [hop, Op.operands, Call.operands])
      rw [hf] at hfr
      obtain ⟨vs, hv, hvn, hvr⟩ := fn_inv hfr
      left
      unfold Oper.wp
      rw [callee_run hop hv hc.1]
      have hsz : (args.map a.eval ++ vs).size = (args.toList.map st.ρ ++ cap.map V.one).length := by simp [hvn]
      refine Calls.mono (hc.2 E (args.map a.eval ++ vs) hE hH hsz fun j y hj => ?_) ?_
      · rw [List.getElem?_append] at hj
        split at hj
        · rename_i hlt
          simp at hlt
          simp only [List.getElem?_map, Option.map_eq_some_iff] at hj
          obtain ⟨p, hp, rfl⟩ := hj
          have hp' : args[j]? = some p := by simpa using hp
          have : (args.map a.eval ++ vs).getD j undef = a.eval p := by
            rw [Array.getD_eq_getD_getElem?, Array.getElem?_append_left (by simpa using hlt), Array.getElem?_map, hp']; rfl
          rw [this]
          refine hρ p ?_
          simp only [hop, Op.operands, Call.operands]
          exact Array.mem_append.2 (.inr (Array.mem_of_getElem? hp'))
        · rename_i hlt
          simp at hlt
          simp only [List.getElem?_map, Option.map_eq_some_iff, List.length_map, Array.length_toList] at hj
          obtain ⟨c, hc, rfl⟩ := hj
          have : (args.map a.eval ++ vs).getD j undef = vs.getD (j - args.size) undef := by
            rw [Array.getD_eq_getD_getElem?, Array.getD_eq_getD_getElem?, Array.getElem?_append_right (by simpa using hlt)]; simp
          rw [this]; exact .one (hvr _ c hc)
      · rintro e w' ⟨v, y, E', rfl, rfl, ⟨rfl, hH'⟩, hx, hh, tr⟩
        exact hn v E' hx hH' hh tr
    · exact hw.elim
  · rename_i hop
    obtain ⟨hp, hk⟩ := hw
    obtain ⟨a0, E0, hE0, hH0, hl0⟩ := hlive
    have hst : st.ρ = (fun x => match x with | .tmp i => look st.t i | .const v => V.ofV v | .func f => .one (.fn f []) | .global _ => .un) := by
      funext x; cases x <;> rfl
    rw [hst] at hp hk
    rw [← hH0] at hp
    have hfact := (step_okQ (P := P) (o := o) (a := a0) hE0 (fun t ht => hl0 t ht) hp).1
    rw [hH0] at hp hfact
    obtain ⟨hsame, hK⟩ := hk hfact
    rw [hsame] at hK
    refine ⟨_, fun a E hE hH hl Kn Q hn => ?_, hK⟩
    simp only [wpOp, hi, hwant a E hl, if_true]
    left
    rw [← hH] at hp
    obtain ⟨_, hwp⟩ := step_okQ (P := P) (o := o) (a := a) hE (fun t ht => hl t (.inl ht)) hp
    refine hwp Kn Q fun v E' hv hH' hh tr => ?_
    rw [hH] at hv hH'
    exact hn v E' hv (hH'.trans hsame) hh tr

theorem wpOp_some {P : Program} {all : Array Oper} {i : Nat} {K : Act → World → Prop} {a : Act} {w : World} (h : wpOp P all (fun _ _ _ => False) i K a w) : ∃ a' w', K a' w' := by
  unfold wpOp at h
  split at h
  · exact ⟨_, _, h⟩
  · split at h
    · rcases h with h | ⟨_, _, _, h⟩
      · unfold Oper.wp at h
        generalize (execOp a.eval _).run P w = r at h
        cases r with
        | ok n w' =>
          cases n <;> simp only [Oper.upon] at h <;> try (exact h.elim)
          · exact ⟨_, _, h⟩
          · exact ⟨_, _, h⟩
          · obtain ⟨e, w2, fr, hR, _⟩ := h []
            cases e with
            | returned v => exact ⟨_, _, hR⟩
            | panicked c => exact hR.elim
            | outgrown => obtain ⟨_, _, hR⟩ := hR; exact hR.elim
          · exact ⟨_, _, h⟩
          · obtain ⟨v, w2, hR, _⟩ := h default []
            exact ⟨_, _, hR⟩
        | halt x w' => cases x <;> simp only [Oper.upon] at h
      · exact h.elim
    · exact ⟨_, _, h⟩

theorem tvF_congrT {all : Array Oper} {T T' l : Nat → V} {k t n : Nat} (h : ∀ m, k ≤ m → T m = T' m) : tvF all T l k t n = tvF all T' l k t n := by
  induction n with
  | zero => rfl
  | succ n ih => simp only [tvF, ih, h (k + n) (by omega)]

def Live (st : St) : Prop := ∃ (a : Act) (E : Env) (n : Nat), n ≤ a.tmps.size ∧ HRel E ∧ E.H = st.H ∧ (∀ t, VRel E (look st.t t) (a.tmps.getD t undef)) ∧ n = a.tmps.size

theorem look_put (st : St) (d : Option Nat) (x : V) (H : List O) (t : Nat) : look (st.put d x H).t t = if d = some t then x else look st.t t := by
  cases d with
  | none => simp [St.put]
  | some d => simp [St.put, look_cons]

theorem look_assume {st : St} {d : Nat} {b : Bool} (h : look st.t d = .one (.bool b)) (t : Nat) : look ((d, .one (.bool b)) :: st.t) t = look st.t t := by
  rw [look_cons]; split
  · rename_i e; subst e; exact h.symm
  · rfl

theorem put_rel {E : Env} {st : St} {a : Act} {o : Oper} {x : V} {v : Value} {H : List O} (ho : ∀ d, o.dst = some d → d < a.tmps.size) (hl : ∀ t, VRel E (look st.t t) (a.tmps.getD t undef)) (hx : VRel E x v) :
    ∀ t, VRel E (look (st.put o.dst x H).t t) ((a.put o.dst v).tmps.getD t undef) := by
  intro t
  rw [look_put]
  cases hd : o.dst with
  | none => simp only [reduceCtorEq, if_false]; exact hl t
  | some d =>
    rw [getD_put (ho d hd)]
    by_cases e : d = t
    · simp [e, hx]
    · simp [e]; simpa using hl t

theorem bool_ne {b w : Bool} (h : ¬ b = w) : b = !w := by cases b <;> cases w <;> simp_all

/-- What an operation that makes or first writes a new object does. -/
def OpF (P : Program) (all : Array Oper) (H : List O) (i : Nat) (o : Oper) (l : Nat → V) (x : V) (p : Nat) (pre obj : O) : Prop :=
  ∀ (a : Act) (E : Env) (G : List O), HRel E → E.H = H ++ G → G[p]? = some pre → (∀ t, t ∈ namesOf o → VRel E (l t) (a.tmps.getD t undef)) →
    ∀ (K : Act → World → Prop) (Q : Exit → Act → World → Prop), (∀ v E', VRel E' x v → E'.H = H ++ G.set p obj → HRel E' → Trans E E' → K (a.put o.dst v) E'.w) → wpOp P all Q i K a E.w

theorem app_get {H G : List O} {p : Nat} {x : O} (h : G[p]? = some x) : (H ++ G)[H.length + p]? = some x := by
  rw [List.getElem?_append_right (by omega)]; simpa using h
theorem app_set {H G : List O} {p : Nat} {x : O} : (H ++ G).set (H.length + p) x = H ++ G.set p x := by
  rw [List.set_append_right _ _ (by omega)]; simp

theorem opF_new {P : Program} {all : Array Oper} {H : List O} {i : Nat} {o : Oper} {l : Nat → V} {p : Nat} {cs : List C} (hi : all[i]? = some o) (hg : o.guard = none)
    (h : ∀ (a : Act) (E : Env), HRel E → (∀ t, t ∈ namesOf o → VRel E (l t) (a.tmps.getD t undef)) → ∃ (s : Sem Value) (vs : Array Value) (ty : TypeId), execOp a.eval o = (do pure (.value (← s))) ∧
      s.run P E.w = .ok (.pointer (some ⟨E.w.heap.size, 0, none⟩)) (E.w.alloc (.cells vs ty)) ∧ vs.size = cs.length ∧ ∀ (j : Nat) (c : C), cs[j]? = some c → ∃ y, vs[j]? = some y ∧ CRel E c y) :
    OpF P all H i o l (.one (.ref (H.length + p) 1 0 0)) p (.cells 0 0 []) (.cells 1 cs.length [cs]) := by
  intro a E G hE hH hG hl K Q hn
  obtain ⟨s, vs, ty, h1, h2, h3, h4⟩ := h a E hE hl
  obtain ⟨E', hw, hH', hv, hh, tr⟩ := new_at hE (id := H.length + p) (by rw [hH]; exact app_get hG) h3 h4 ty
  simp only [wpOp, hi, Region.wanted, hg, if_true]
  left
  unfold Oper.wp
  rw [h1]
  simp only [Sem.run_bind, h2, Result.andThen_ok, Sem.run_pure]
  rw [← hw]
  exact hn _ E' hv (by rw [hH', hH, app_set]) hh tr

theorem opF_store {P : Program} {all : Array Oper} {H : List O} {i : Nat} {o : Oper} {st : St} {p : Nat} {t : TypeId} {s : Nat} {x : Operand} {off n sz : Nat} {row cs : List C} {g : Bool} (hi : all[i]? = some o) (hg : o.guard = none) (hd : o.dst = none) (hop : o.op = .store t (.tmp s) x)
    (hs : look st.t s = .one (.ref (H.length + p) 1 0 off)) (hx : (st.ρ x).cs = some cs) (ht : tAg P t = some (g, n)) (hlen : off + cs.length ≤ row.length) (hn : cs.length = n) :
    OpF P all H i o (look st.t) .un p (.cells 1 sz [row]) (.cells 1 sz [splice row off cs]) := by
  intro a E G hE hH hG hl K Q hk
  simp only [wpOp, hi, Region.wanted, hg, if_true]
  left
  have hobj : E.H[H.length + p]? = some (.cells 1 sz [row]) := by rw [hH]; exact app_get hG
  have hρ : ∀ y ∈ o.op.operands, VRel E (st.ρ y) (a.eval y) := by
    intro y hy
    cases y with
    | tmp t => exact hl t (by simp only [namesOf, List.mem_filterMap]; exact ⟨.tmp t, by simpa using hy, rfl⟩)
    | const v => exact V.ofV_rel E v
    | global g => exact .un
    | func f => exact .one (.fn rfl (by simp))
  have ha := hρ (.tmp s) (by simp [hop, Op.operands])
  have hxx := hρ x (by simp [hop, Op.operands])
  have hgood := storeF_ok (P := P) (t := t) hE ha hxx
  have e1 : st.ρ (.tmp s) = .one (.ref (H.length + p) 1 0 off) := hs
  have e : storeF P t (st.ρ (.tmp s)) (st.ρ x) E.H = ⟨1 = 1 ∧ 0 < [row].length ∧ off + cs.length ≤ ([row].getD 0 []).length ∧ cs.length = n, True, .un, E.H.set (H.length + p) (.cells 1 sz ([row].set 0 (splice ([row].getD 0 []) off cs)))⟩ := by
    unfold storeF
    rw [e1, hx, ht]
    simp only [hobj]
  rw [e] at hgood
  obtain ⟨_, _, E', hrun, hH', hh, tr⟩ := hgood ⟨rfl, by simp, by simpa using hlen, hn⟩
  unfold Oper.wp
  have he : execOp a.eval o = (do Instr.storeAt t (a.eval (.tmp s)) (a.eval x); pure .skip) := by simp [execOp, hop]
  rw [he]
  simp only [Sem.run_bind, hrun, Result.andThen_ok, Sem.run_pure]
  exact hk undef E' .un (by rw [hH', hH, app_set]; rfl) hh tr

/-- A quiet operation where new objects lie beside. -/
theorem opQ_lift {P : Program} {all : Array Oper} {H : List O} {i : Nat} {o : Oper} {l : Nat → V} {x : V} (hq : OpQ P all H i o l x) {a : Act} {E : Env} {G : List O} (hE : HRel E) (hH : E.H = H ++ G) (hHl : ∀ o ∈ H, o.lt H.length = true)
    (hl : ∀ t, t ∈ namesOf o ∨ (∃ g w, o.guard = some (g, w) ∧ (all[g]?).bind (·.dst) = some t) → VRel E (l t) (a.tmps.getD t undef) ∧ (l t).lt H.length = true)
    {K : Act → World → Prop} {Q : Exit → Act → World → Prop} (hn : ∀ v E', VRel E' x v → E'.H = H ++ G → HRel E' → Trans E E' → K (a.put o.dst v) E'.w) : wpOp P all Q i K a E.w := by
  obtain ⟨h1, h2, h3, h4⟩ := hide_ok hE hH hHl
  refine hq a (hideG E H) h1 rfl (fun t ht => h3 (hl t ht).1 (hl t ht).2) K Q fun v E1 hv hH1 hh1 t1 => ?_
  obtain ⟨E', hw, hH', hh, tr, hv'⟩ := show_ok hE hH hh1 hH1 t1
  rw [← hw]
  exact hn v E' (hv' hv) (hH'.trans hH) hh tr

open Classical in
/-- The new objects when the operations of S have been carried out. -/
noncomputable def gS (z f base : Nat → O) (role : Nat → Option (Bool × Nat)) (S : Nat → Prop) (p : Nat) : O :=
  if ∃ i, S i ∧ role i = some (false, p) then f p else if ∃ i, S i ∧ role i = some (true, p) then z p else base p

section
variable {z f base : Nat → O} {role : Nat → Option (Bool × Nat)} {S : Nat → Prop} {p : Nat}
theorem gS_f (h : ∃ i, S i ∧ role i = some (false, p)) : gS z f base role S p = f p := by unfold gS; rw [if_pos h]
theorem gS_z (h : ¬ ∃ i, S i ∧ role i = some (false, p)) (h2 : ∃ i, S i ∧ role i = some (true, p)) : gS z f base role S p = z p := by unfold gS; rw [if_neg h, if_pos h2]
theorem gS_b (h : ¬ ∃ i, S i ∧ role i = some (false, p)) (h2 : ¬ ∃ i, S i ∧ role i = some (true, p)) : gS z f base role S p = base p := by unfold gS; rw [if_neg h, if_neg h2]
theorem gS_congr {z' f' base' : Nat → O} {role' : Nat → Option (Bool × Nat)} {S' : Nat → Prop} (h1 : (∃ i, S i ∧ role i = some (false, p)) ↔ ∃ i, S' i ∧ role' i = some (false, p)) (h2 : (∃ i, S i ∧ role i = some (true, p)) ↔ ∃ i, S' i ∧ role' i = some (true, p))
    (ef : f p = f' p) (ez : z p = z' p) (eb : base p = base' p) : gS z f base role S p = gS z' f' base' role' S' p := by
  by_cases a : ∃ i, S i ∧ role i = some (false, p)
  · rw [gS_f a, gS_f (h1.1 a), ef]
  · have a' := fun h => a (h1.2 h)
    by_cases b : ∃ i, S i ∧ role i = some (true, p)
    · rw [gS_z a b, gS_z a' (h2.1 b), ez]
    · rw [gS_b a b, gS_b a' (fun h => b (h2.2 h)), eb]
end

structure Xt (P : Program) (all : Array Oper) (H : List O) (N : List Fo) (k kt M : Nat) (l0 : Nat → V) (T : Nat → V) (role : Nat → Option (Bool × Nat)) (z f : Nat → O) : Prop where
  c1 : ∀ i p, role i = some (true, p) → k ≤ i ∧ i < kt ∧ N.length ≤ p ∧ p < M
  c2 : ∀ i j p, role i = some (true, p) → role j = some (true, p) → i = j
  c3 : ∀ i p, role i = some (false, p) → k ≤ i ∧ i < kt ∧ p < M ∧ ((∃ x o, N[p]? = some x ∧ x.w = false ∧ all[i]? = some o ∧ x.d ∈ namesOf o) ∨
    (N.length ≤ p ∧ ∃ j oj oi d, j < i ∧ role j = some (true, p) ∧ all[j]? = some oj ∧ all[i]? = some oi ∧ oj.dst = some d ∧ d ∈ namesOf oi))
  c4 : ∀ i j p, role i = some (false, p) → role j = some (false, p) → i = j
  cz : ∀ p x, N[p]? = some x → z p = x.o
  c5 : ∀ i b p, role i = some (b, p) → ∃ o, all[i]? = some o ∧ effO o.op = true
  spec : ∀ i o, k ≤ i → i < kt → all[i]? = some o → match role i with
    | none => OpQ P all H i o (fun t => tvF all T l0 k t (i - k)) (T i) ∧ ∀ t, t ∈ namesOf o ∨ (∃ g w, o.guard = some (g, w) ∧ (all[g]?).bind (·.dst) = some t) → (tvF all T l0 k t (i - k)).lt H.length = true
    | some (true, p) => OpF P all H i o (fun t => tvF all T l0 k t (i - k)) (T i) p (.cells 0 0 []) (z p)
    | some (false, p) => OpF P all H i o (fun t => tvF all T l0 k t (i - k)) (T i) p (z p) (f p)

noncomputable def baseN (N : List Fo) (p : Nat) : O := match N[p]? with | some x => x.o | none => .cells 0 0 []

set_option maxHeartbeats 2000000 in
theorem draw_extract {P : Program} {all : Array Oper} {K : St → Prop} {n : Nat} (hok : ∀ o ∈ all.toList, ∀ d, o.dst = some d → d < n) : ∀ (rest : List Oper) (k : Nat) (N : List Fo) (st : St), (∀ m, rest[m]? = all[k + m]?) → k + rest.length = all.size →
    (∃ (a : Act) (E : Env), n ≤ a.tmps.size ∧ HRel E ∧ E.H = st.H ∧ ∀ t, (∀ x ∈ N, x.d ≠ t) → VRel E (look st.t t) (a.tmps.getD t undef)) → awpDraw P all rest N st K →
    ∃ (T : Nat → V) (role : Nat → Option (Bool × Nat)) (z f : Nat → O) (kt : Nat) (stE : St) (N' : List Fo), k ≤ kt ∧ kt ≤ all.size ∧ N.length ≤ N'.length ∧ (kt < all.size → tailP P all kt stE.t) ∧ stE.H = st.H ∧
      awpOps P all (rest.drop (kt - k)) ⟨stE.t, stE.H ++ N'.map Fo.o⟩ K ∧
      (∀ p x, N'[p]? = some x → x.o = gS z f (baseN N) role (fun i => k ≤ i ∧ i < kt) p) ∧
      Xt P all st.H N k kt N'.length (look st.t) T role z f ∧ ∀ t, look stE.t t = tvF all T (look st.t) k t (kt - k)
  | [], k, N, st, hi, hsz, hlive, h => by
    refine ⟨fun _ => .un, fun _ => none, baseN N, baseN N, k, st, N, Nat.le_refl _, by simp at hsz; omega, Nat.le_refl _, fun hlt => by simp at hsz; omega, rfl, by simpa [awpOps, awpDraw] using h, fun p x hp => ?_, ⟨?_, ?_, ?_, ?_, ?_, ?_, ?_⟩, fun t => by simp [tvF]⟩
    · simp [gS, baseN, hp]
    · intro i p hr; cases hr
    · intro i j p hr; cases hr
    · intro i p hr; cases hr
    · intro i j p hr; cases hr
    · intro p x hp; simp [baseN, hp]
    · intro i b p hr; cases hr
    · intro i o h1 h2; omega
  | o :: rest, k, N, st, hi, hsz, hlive, h => by
    have hio : all[k]? = some o := by simpa using (hi 0).symm
    have hkl : k < all.size := (Array.getElem?_eq_some_iff.1 hio).1
    have hod : ∀ d, o.dst = some d → d < n := hok o (List.mem_of_getElem? (by simpa using hio))
    have hrest : ∀ m, rest[m]? = all[k + 1 + m]? := fun m => by have := hi (m + 1); simpa [Nat.add_assoc, Nat.add_comm 1] using this
    have hsz' : k + 1 + rest.length = all.size := by simp at hsz; omega
    -- slots behind one more operation
    have key : ∀ (st1 : St) (x : V) (T : Nat → V), (∀ t, look st1.t t = if o.dst = some t then x else look st.t t) → ∀ t m, tvF all (fun m => if m = k then x else T m) (look st.t) k t (m + 1) = tvF all T (look st1.t) (k + 1) t m := by
      intro st1 x T hl t m
      rw [tvF_shift]
      rw [tvF_congrT (T' := T) (fun j hj => by simp [show ¬ j = k by omega])]
      exact tvF_congr (fun t => by rw [hl t, hio]; simp)
    -- the rest of the way, once the operation's own part is known
    have join : ∀ (st1 : St) (N1 : List Fo) (x : V) (r : Option (Bool × Nat)) (z0 f0 : (Nat → O) → Nat → O), st1.H = st.H → N.length ≤ N1.length →
        (∀ t, look st1.t t = if o.dst = some t then x else look st.t t) →
        (∃ (a : Act) (E : Env), n ≤ a.tmps.size ∧ HRel E ∧ E.H = st1.H ∧ ∀ t, (∀ x ∈ N1, x.d ≠ t) → VRel E (look st1.t t) (a.tmps.getD t undef)) → awpDraw P all rest N1 st1 K →
        (∀ (T : Nat → V) (role : Nat → Option (Bool × Nat)) (z f : Nat → O) (kt : Nat) (N' : List Fo), k + 1 ≤ kt → N1.length ≤ N'.length → Xt P all st.H N1 (k + 1) kt N'.length (look st1.t) T role z f →
          (∀ p x, N'[p]? = some x → x.o = gS z f (baseN N1) role (fun i => k + 1 ≤ i ∧ i < kt) p) →
          Xt P all st.H N k kt N'.length (look st.t) (fun m => if m = k then x else T m) (fun m => if m = k then r else role m) (z0 z) (f0 f) ∧
          ∀ p x, N'[p]? = some x → x.o = gS (z0 z) (f0 f) (baseN N) (fun m => if m = k then r else role m) (fun i => k ≤ i ∧ i < kt) p) →
        ∃ (T : Nat → V) (role : Nat → Option (Bool × Nat)) (z f : Nat → O) (kt : Nat) (stE : St) (N' : List Fo), k ≤ kt ∧ kt ≤ all.size ∧ N.length ≤ N'.length ∧ (kt < all.size → tailP P all kt stE.t) ∧ stE.H = st.H ∧
          awpOps P all ((o :: rest).drop (kt - k)) ⟨stE.t, stE.H ++ N'.map Fo.o⟩ K ∧
          (∀ p x, N'[p]? = some x → x.o = gS z f (baseN N) role (fun i => k ≤ i ∧ i < kt) p) ∧
          Xt P all st.H N k kt N'.length (look st.t) T role z f ∧ ∀ t, look stE.t t = tvF all T (look st.t) k t (kt - k) := by
      intro st1 N1 x r z0 f0 hH hN hl hlive1 hd hmk
      obtain ⟨T, role, z, f, kt, stE, N', g1, g2, g3, g4, g5, g6, g7, g8, g9⟩ := draw_extract hok rest (k + 1) N1 st1 hrest hsz' hlive1 hd
      rw [hH] at g5 g8
      obtain ⟨q1, q2⟩ := hmk T role z f kt N' g1 g3 g8 g7
      refine ⟨_, _, _, _, kt, stE, N', by omega, g2, by omega, g4, g5, ?_, q2, q1, fun t => ?_⟩
      · rw [show kt - k = (kt - (k + 1)) + 1 by omega]; exact g6
      · rw [show kt - k = (kt - (k + 1)) + 1 by omega, key st1 x T hl]; exact g9 t
    -- what an operation's specification comes to, one place earlier
    have specs : ∀ (st1 : St) (N1 : List Fo) (x : V) (T : Nat → V), (∀ t, look st1.t t = if o.dst = some t then x else look st.t t) → ∀ i, k + 1 ≤ i → (fun t => tvF all (fun m => if m = k then x else T m) (look st.t) k t (i - k)) = fun t => tvF all T (look st1.t) (k + 1) t (i - (k + 1)) := by
      intro st1 N1 x T hl i hik
      funext t
      rw [show i - k = (i - (k + 1)) + 1 by omega, key st1 x T hl]
    have hnew : ∀ (cs : List C) (d : Nat), o.dst = some d → OpF P all st.H k o (look st.t) (.one (.ref (st.H.length + N.length) 1 0 0)) N.length (.cells 0 0 []) (.cells 1 cs.length [cs]) →
        awpDraw P all rest (N ++ [⟨.cells 1 cs.length [cs], false, d⟩]) (st.put o.dst (.one (.ref (st.H.length + N.length) 1 0 0)) st.H) K → effO o.op = true →
        ∃ (T : Nat → V) (role : Nat → Option (Bool × Nat)) (z f : Nat → O) (kt : Nat) (stE : St) (N' : List Fo), k ≤ kt ∧ kt ≤ all.size ∧ N.length ≤ N'.length ∧ (kt < all.size → tailP P all kt stE.t) ∧ stE.H = st.H ∧
          awpOps P all ((o :: rest).drop (kt - k)) ⟨stE.t, stE.H ++ N'.map Fo.o⟩ K ∧
          (∀ p x, N'[p]? = some x → x.o = gS z f (baseN N) role (fun i => k ≤ i ∧ i < kt) p) ∧
          Xt P all st.H N k kt N'.length (look st.t) T role z f ∧ ∀ t, look stE.t t = tvF all T (look st.t) k t (kt - k) := by
      intro cs d hdst hop hd heffN
      have hl1 : ∀ t, look (st.put o.dst (.one (.ref (st.H.length + N.length) 1 0 0)) st.H).t t = if o.dst = some t then (.one (.ref (st.H.length + N.length) 1 0 0)) else look st.t t := fun t => look_put _ _ _ _ _
      refine join (st.put o.dst (.one (.ref (st.H.length + N.length) 1 0 0)) st.H) (N ++ [⟨.cells 1 cs.length [cs], false, d⟩]) (.one (.ref (st.H.length + N.length) 1 0 0)) (some (true, N.length)) (fun z => z) (fun f => f) (by cases o.dst <;> rfl) (by simp) hl1 ?_ hd ?_
      · obtain ⟨a, E, h1, h2, h3, h4⟩ := hlive
        refine ⟨a, E, h1, h2, by rw [h3]; cases o.dst <;> rfl, fun t ht => ?_⟩
        rw [hl1, if_neg (by rw [hdst]; intro e; cases e; exact ht ⟨.cells 1 cs.length [cs], false, d⟩ (by simp) rfl)]
        exact h4 t fun x hx => ht x (by simp [hx])
      · intro T role z f kt N' g1 g2 X g7
        have hzN : z N.length = .cells 1 cs.length [cs] := X.cz N.length ⟨.cells 1 cs.length [cs], false, d⟩ (by simp)
        have hN1 : ∀ p, p < N.length → (N ++ [(⟨.cells 1 cs.length [cs], false, d⟩ : Fo)])[p]? = N[p]? := fun p hp => List.getElem?_append_left hp
        have hget : ∀ p x, N[p]? = some x → (N ++ [(⟨.cells 1 cs.length [cs], false, d⟩ : Fo)])[p]? = some x := fun p x hp => by
          rw [hN1 p (List.getElem?_eq_some_iff.1 hp).1]; exact hp
        have rk : ∀ p, ¬ role k = some (true, p) := fun p e => by have := (X.c1 k p e).1; omega
        have rk2 : ∀ p, ¬ role k = some (false, p) := fun p e => by have := (X.c3 k p e).1; omega
        refine ⟨⟨?_, ?_, ?_, ?_, ?_, ?_, ?_⟩, ?_⟩
        · intro i p hr
          by_cases hik : i = k
          · subst hik; simp at hr; subst hr
            exact ⟨Nat.le_refl _, by omega, Nat.le_refl _, by simp at g2; omega⟩
          · simp only [hik, if_false] at hr
            obtain ⟨q1, q2, q3, q4⟩ := X.c1 i p hr
            simp at q3
            exact ⟨by omega, q2, by omega, q4⟩
        · intro i j p hr1 hr2
          by_cases hik : i = k <;> by_cases hjk : j = k
          · omega
          · subst hik; simp at hr1; subst hr1
            simp only [hjk, if_false] at hr2
            have := (X.c1 j _ hr2).2.2.1; simp at this; omega
          · subst hjk; simp at hr2; subst hr2
            simp only [hik, if_false] at hr1
            have := (X.c1 i _ hr1).2.2.1; simp at this; omega
          · simp only [hik, if_false] at hr1
            simp only [hjk, if_false] at hr2
            exact X.c2 i j p hr1 hr2
        · intro i p hr
          by_cases hik : i = k
          · subst hik; simp at hr
          · simp only [hik, if_false] at hr
            obtain ⟨q1, q2, q3, q4⟩ := X.c3 i p hr
            refine ⟨by omega, q2, q3, ?_⟩
            rcases q4 with ⟨y, oi, e1, e2, e3, e4⟩ | ⟨e0, j, oj, oi, dd, e1, e2, e3, e4, e5, e6⟩
            · rcases Nat.lt_or_ge p N.length with hp | hp
              · rw [hN1 p hp] at e1
                exact .inl ⟨y, oi, e1, e2, e3, e4⟩
              · rw [List.getElem?_append_right hp] at e1
                have hp0 : p - N.length = 0 := by
                  have := (List.getElem?_eq_some_iff.1 e1).1; simp at this; omega
                rw [hp0] at e1
                simp at e1
                subst e1
                have hpe : p = N.length := by omega
                subst hpe
                exact .inr ⟨Nat.le_refl _, k, o, oi, d, by omega, by simp, hio, e3, hdst, e4⟩
            · simp at e0
              have hjk : j ≠ k := fun e => rk p (e ▸ e2)
              exact .inr ⟨by omega, j, oj, oi, dd, e1, by simp only [hjk, if_false]; exact e2, e3, e4, e5, e6⟩
        · intro i j p hr1 hr2
          by_cases hik : i = k
          · subst hik; simp at hr1
          by_cases hjk : j = k
          · subst hjk; simp at hr2
          simp only [hik, if_false] at hr1
          simp only [hjk, if_false] at hr2
          exact X.c4 i j p hr1 hr2
        · exact fun p x hp => X.cz p x (hget p x hp)
        · intro i b q hr
          by_cases hik : i = k
          · subst hik; exact ⟨o, hio, heffN⟩
          · simp only [hik, if_false] at hr; exact X.c5 i b q hr
        · intro i oi h1 h2 h3
          by_cases hik : i = k
          · subst hik
            rw [hio] at h3; cases h3
            simp only [if_true, Nat.sub_self, tvF]
            rw [hzN]
            exact hop
          · have hsp := X.spec i oi (by omega) h2 h3
            have e := specs _ N (.one (.ref (st.H.length + N.length) 1 0 0)) T hl1 i (by omega)
            simp only [hik, if_false]
            rw [e]
            have e2 : ∀ t, tvF all (fun m => if m = k then (.one (.ref (st.H.length + N.length) 1 0 0)) else T m) (look st.t) k t (i - k) = tvF all T (look (st.put o.dst (.one (.ref (st.H.length + N.length) 1 0 0)) st.H).t) (k + 1) t (i - (k + 1)) := fun t => congrFun e t
            simp only [e2]
            exact hsp
        · intro p y hp
          rw [g7 p y hp]
          have s1 : (∃ i, (k ≤ i ∧ i < kt) ∧ (if i = k then some (true, N.length) else role i) = some (false, p)) ↔ ∃ i, (k + 1 ≤ i ∧ i < kt) ∧ role i = some (false, p) := by
            constructor
            · rintro ⟨i, hi, hr⟩
              by_cases hik : i = k
              · subst hik; simp at hr
              · simp only [hik, if_false] at hr
                exact ⟨i, by omega, hr⟩
            · rintro ⟨i, hi, hr⟩
              exact ⟨i, by omega, by simp only [show ¬ i = k by omega, if_false]; exact hr⟩
          have s2 : (∃ i, (k ≤ i ∧ i < kt) ∧ (if i = k then some (true, N.length) else role i) = some (true, p)) ↔ (p = N.length ∨ ∃ i, (k + 1 ≤ i ∧ i < kt) ∧ role i = some (true, p)) := by
            constructor
            · rintro ⟨i, hi, hr⟩
              by_cases hik : i = k
              · subst hik; simp at hr; exact .inl hr.symm
              · simp only [hik, if_false] at hr
                exact .inr ⟨i, by omega, hr⟩
            · rintro (rfl | ⟨i, hi, hr⟩)
              · exact ⟨k, by omega, by simp⟩
              · exact ⟨i, by omega, by simp only [show ¬ i = k by omega, if_false]; exact hr⟩
          by_cases hst : ∃ i, (k + 1 ≤ i ∧ i < kt) ∧ role i = some (false, p)
          · rw [gS_f hst, gS_f (s1.2 hst)]
          · have hst' := fun h => hst (s1.1 h)
            by_cases hpN : p = N.length
            · subst hpN
              rw [gS_z hst' (s2.2 (.inl rfl))]
              by_cases hal : ∃ i, (k + 1 ≤ i ∧ i < kt) ∧ role i = some (true, N.length)
              · rw [gS_z hst hal]
              · rw [gS_b hst hal]; simp [baseN, hzN]
            · by_cases hal : ∃ i, (k + 1 ≤ i ∧ i < kt) ∧ role i = some (true, p)
              · rw [gS_z hst hal, gS_z hst' (s2.2 (.inr hal))]
              · rw [gS_b hst hal, gS_b hst' (fun h => (s2.1 h).elim hpN hal)]
                unfold baseN
                rcases Nat.lt_or_ge p N.length with hlt | hge
                · rw [hN1 p hlt]
                · rw [List.getElem?_append_right hge]
                  have : p - N.length ≠ 0 := by omega
                  obtain ⟨q, hq⟩ := Nat.exists_eq_succ_of_ne_zero this
                  rw [hq, List.getElem?_eq_none hge]; simp
    simp only [awpDraw] at h
    cases hfr : freshV P o st N with
    | some r =>
      obtain ⟨pp, xv, N1⟩ := r
      rw [hfr] at h
      obtain ⟨hp, hd⟩ := h
      unfold freshV at hfr
      split at hfr
      · -- a new variable
        rename_i d t hg hdst hop
        split at hfr
        · rename_i zz hz
          split at hfr
          · rename_i cs hcs
            cases hfr
            refine hnew cs d hdst (opF_new hio hg fun a E hE hl => ?_) hd (by rw [hop]; rfl)
            obtain ⟨iz, zv, hi1, hzv, rfl⟩ := tZ_spec hz
            obtain ⟨h1, h2⟩ := (V.ofV_rel E zv).cells hcs
            refine ⟨Instr.alloc t true (.tuple #[]), zv.cells, t, by simp [execOp, hop], ?_, h1, h2⟩
            simp only [Instr.alloc, zeroValue, typeInfo, Sem.run_bind, run_program, Result.andThen_ok, hi1, Sem.run_pure, hzv]
            simp [newVar, newRow]
          · cases hfr
        · cases hfr
      · rename_i d t x hg hdst hop
        split at hfr
        · rename_i cs hcs
          cases hfr
          refine hnew cs d hdst (opF_new hio hg fun a E hE hl => ?_) hd (by rw [hop]; rfl)
          have hρ : VRel E (st.ρ x) (a.eval x) := by
            cases x with
            | tmp q => exact hl q (by simp only [namesOf, List.mem_filterMap]; exact ⟨.tmp q, by simp [hop, Op.operands], rfl⟩)
            | const v => exact V.ofV_rel E v
            | global g => exact .un
            | func f => exact .one (.fn rfl (by simp))
          obtain ⟨h1, h2⟩ := hρ.cells hcs
          exact ⟨Instr.box t (a.eval x), (a.eval x).cells, t, by simp [execOp, hop], by simp [Instr.box, newVar, newRow], h1, h2⟩
        · cases hfr
      · -- the first write to a new variable
        rename_i t s x hg hdst hop
        split at hfr
        · rename_i id off cs g nn hlk hcs hag
          split at hfr
          · rename_i hid
            split at hfr
            · rename_i sz row d hN
              cases hfr
              obtain ⟨rfl, hlen, hcn⟩ := hp
              obtain ⟨p, rfl⟩ : ∃ p, id = st.H.length + p := ⟨id - st.H.length, by omega⟩
              rw [Nat.add_sub_cancel_left] at hN hd
              have hpl : p < N.length := (List.getElem?_eq_some_iff.1 hN).1
              have hopF := opF_store (P := P) (all := all) (H := st.H) (st := st) (p := p) (sz := sz) (row := row) hio hg hdst hop hlk hcs hag hlen hcn
              have hput : st.put o.dst .un st.H = ⟨st.t, st.H⟩ := by rw [hdst]; rfl
              rw [hput] at hd
              have hl1 : ∀ q, look (⟨st.t, st.H⟩ : St).t q = if o.dst = some q then .un else look st.t q := fun q => by rw [hdst]; simp
              have hget : ∀ q, q ≠ p → (N.set p ⟨.cells 1 sz [splice row off cs], true, d⟩)[q]? = N[q]? := fun q hq => List.getElem?_set_ne (Ne.symm hq)
              have hself : (N.set p ⟨.cells 1 sz [splice row off cs], true, d⟩)[p]? = some ⟨.cells 1 sz [splice row off cs], true, d⟩ := List.getElem?_set_self hpl
              refine join ⟨st.t, st.H⟩ (N.set p ⟨.cells 1 sz [splice row off cs], true, d⟩) .un (some (false, p)) (fun z q => if q = p then .cells 1 sz [row] else z q) (fun f q => if q = p then .cells 1 sz [splice row off cs] else f q) rfl (by simp) hl1 ?_ hd ?_
              · obtain ⟨a, E, h1, h2, h3, h4⟩ := hlive
                refine ⟨a, E, h1, h2, h3, fun q hq => h4 q fun y hy => ?_⟩
                obtain ⟨j, hj, hjy⟩ := List.mem_iff_getElem.1 hy
                by_cases hjp : j = p
                · subst hjp
                  have : y = ⟨.cells 1 sz [row], false, d⟩ := by rw [← hjy]; have := List.getElem?_eq_getElem hj; rw [hN] at this; exact (Option.some.inj this).symm
                  rw [this]
                  exact hq ⟨.cells 1 sz [splice row off cs], true, d⟩ (List.mem_of_getElem? hself)
                · exact hq y (List.mem_of_getElem? (i := j) (by rw [hget j hjp, List.getElem?_eq_getElem hj, hjy]))
              · intro T role z f kt N' g1 g2 X g7
                simp at g2
                have noT : ∀ i q, role i = some (true, q) → q ≠ p := fun i q hr e => by
                  have := (X.c1 i q hr).2.2.1; simp at this; omega
                have noF : ∀ i q, role i = some (false, q) → q ≠ p := fun i q hr e => by
                  subst e
                  rcases (X.c3 i q hr).2.2.2 with ⟨y, oi, e1, e2, _⟩ | ⟨e0, _⟩
                  · rw [hself] at e1; cases e1; cases e2
                  · simp at e0; omega
                refine ⟨⟨?_, ?_, ?_, ?_, ?_, ?_, ?_⟩, ?_⟩
                · intro i q hr
                  by_cases hik : i = k
                  · subst hik; simp at hr
                  · simp only [hik, if_false] at hr
                    obtain ⟨q1, q2, q3, q4⟩ := X.c1 i q hr
                    simp at q3
                    exact ⟨by omega, q2, q3, q4⟩
                · intro i j q hr1 hr2
                  by_cases hik : i = k
                  · subst hik; simp at hr1
                  by_cases hjk : j = k
                  · subst hjk; simp at hr2
                  simp only [hik, if_false] at hr1
                  simp only [hjk, if_false] at hr2
                  exact X.c2 i j q hr1 hr2
                · intro i q hr
                  by_cases hik : i = k
                  · subst hik; simp at hr; subst hr
                    refine ⟨Nat.le_refl _, by omega, by omega, .inl ⟨_, o, hN, rfl, hio, ?_⟩⟩
                    simp only [namesOf, List.mem_filterMap]
                    exact ⟨.tmp d, by simp [hop, Op.operands], rfl⟩
                  · simp only [hik, if_false] at hr
                    obtain ⟨q1, q2, q3, q4⟩ := X.c3 i q hr
                    refine ⟨by omega, q2, q3, ?_⟩
                    rcases q4 with ⟨y, oi, e1, e2, e3, e4⟩ | ⟨e0, j, oj, oi, dd, e1, e2, e3, e4, e5, e6⟩
                    · rw [hget q (noF i q hr)] at e1
                      exact .inl ⟨y, oi, e1, e2, e3, e4⟩
                    · simp at e0
                      have hjk : j ≠ k := fun e => by have := (X.c1 j q e2).1; omega
                      exact .inr ⟨e0, j, oj, oi, dd, e1, by simp only [hjk, if_false]; exact e2, e3, e4, e5, e6⟩
                · intro i j q hr1 hr2
                  by_cases hik : i = k <;> by_cases hjk : j = k
                  · omega
                  · subst hik; simp at hr1; subst hr1
                    simp only [hjk, if_false] at hr2
                    exact (noF j _ hr2 rfl).elim
                  · subst hjk; simp at hr2; subst hr2
                    simp only [hik, if_false] at hr1
                    exact (noF i _ hr1 rfl).elim
                  · simp only [hik, if_false] at hr1
                    simp only [hjk, if_false] at hr2
                    exact X.c4 i j q hr1 hr2
                · intro q y hq
                  by_cases hqp : q = p
                  · subst hqp; rw [hN] at hq; cases hq; simp
                  · simp only [hqp, if_false]
                    exact X.cz q y (by rw [hget q hqp]; exact hq)
                · intro i b q hr
                  by_cases hik : i = k
                  · subst hik; exact ⟨o, hio, by rw [hop]; rfl⟩
                  · simp only [hik, if_false] at hr; exact X.c5 i b q hr
                · intro i oi h1 h2 h3
                  by_cases hik : i = k
                  · subst hik
                    rw [hio] at h3; cases h3
                    simp only [if_true, Nat.sub_self, tvF]
                    exact hopF
                  · have hsp := X.spec i oi (by omega) h2 h3
                    have e := specs ⟨st.t, st.H⟩ N .un T hl1 i (by omega)
                    have e2 : ∀ t, tvF all (fun m => if m = k then V.un else T m) (look st.t) k t (i - k) = tvF all T (look st.t) (k + 1) t (i - (k + 1)) := fun t => congrFun e t
                    simp only [hik, if_false, e2]
                    cases hr : role i with
                    | none => rw [hr] at hsp; exact hsp
                    | some bq =>
                      obtain ⟨bb, q⟩ := bq
                      rw [hr] at hsp
                      cases bb with
                      | true =>
                        have := noT i q hr
                        simp only [this, if_false]; exact hsp
                      | false =>
                        have := noF i q hr
                        simp only [this, if_false]; exact hsp
                · intro q y hq
                  rw [g7 q y hq]
                  have s1 : (∃ i, (k ≤ i ∧ i < kt) ∧ (if i = k then some (false, p) else role i) = some (false, q)) ↔ (q = p ∨ ∃ i, (k + 1 ≤ i ∧ i < kt) ∧ role i = some (false, q)) := by
                    constructor
                    · rintro ⟨i, hi, hr⟩
                      by_cases hik : i = k
                      · subst hik; simp at hr; exact .inl hr.symm
                      · simp only [hik, if_false] at hr
                        exact .inr ⟨i, by omega, hr⟩
                    · rintro (rfl | ⟨i, hi, hr⟩)
                      · exact ⟨k, by omega, by simp⟩
                      · exact ⟨i, by omega, by simp only [show ¬ i = k by omega, if_false]; exact hr⟩
                  have s2 : (∃ i, (k ≤ i ∧ i < kt) ∧ (if i = k then some (false, p) else role i) = some (true, q)) ↔ ∃ i, (k + 1 ≤ i ∧ i < kt) ∧ role i = some (true, q) := by
                    constructor
                    · rintro ⟨i, hi, hr⟩
                      by_cases hik : i = k
                      · subst hik; simp at hr
                      · simp only [hik, if_false] at hr
                        exact ⟨i, by omega, hr⟩
                    · rintro ⟨i, hi, hr⟩
                      exact ⟨i, by omega, by simp only [show ¬ i = k by omega, if_false]; exact hr⟩
                  by_cases hqp : q = p
                  · subst hqp
                    have n1 : ¬ ∃ i, (k + 1 ≤ i ∧ i < kt) ∧ role i = some (false, q) := by rintro ⟨i, _, hr⟩; exact noF i q hr rfl
                    have n2 : ¬ ∃ i, (k + 1 ≤ i ∧ i < kt) ∧ role i = some (true, q) := by rintro ⟨i, _, hr⟩; exact noT i q hr rfl
                    rw [gS_b n1 n2, gS_f (s1.2 (.inl rfl)), if_pos rfl]
                    simp [baseN, hself]
                  · exact gS_congr ⟨fun h => s1.2 (.inr h), fun h => (s1.1 h).elim (fun e => (hqp e).elim) id⟩ s2.symm (by simp [hqp]) (by simp [hqp]) (by simp only [baseN, hget q hqp])
            · cases hfr
          · cases hfr
        · cases hfr
      · cases hfr
    | none =>
      rw [hfr] at h
      cases heff : effT o.pos o.op with
      | true =>
        simp only [heff] at h
        obtain ⟨htail, hops⟩ := h
        have hk0 : all.size - (rest.length + 1) = k := by simp at hsz; omega
        rw [hk0] at htail
        refine ⟨fun _ => .un, fun _ => none, baseN N, baseN N, k, st, N, Nat.le_refl _, by omega, Nat.le_refl _, fun _ => htail, rfl, by simpa using hops, fun p x hp => ?_, ⟨?_, ?_, ?_, ?_, ?_, ?_, ?_⟩, fun t => by simp [tvF]⟩
        · simp [gS, baseN, hp]
        · intro i p hr; cases hr
        · intro i j p hr; cases hr
        · intro i p hr; cases hr
        · intro i j p hr; cases hr
        · intro p x hp; simp [baseN, hp]
        · intro i b p hr; cases hr
        · intro i o h1 h2; omega
      | false =>
        simp only [heff] at h
        obtain ⟨hunm, h⟩ := h
        have hun : ∀ t, t ∈ namesOf o → ∀ x ∈ N, x.d ≠ t := by
          intro t ht x hx e
          have := List.all_eq_true.1 (show List.all N _ = true from hunm) x hx
          subst e
          simp [ht] at this
        -- a quiet operation
        have fin : ∀ (st1 : St) (x : V), st1.H = st.H → (∀ t, look st1.t t = look st.t t) → OpQ P all st.H k o (look st.t) x → (∀ t, t ∈ namesOf o ∨ (∃ g w, o.guard = some (g, w) ∧ (all[g]?).bind (·.dst) = some t) → (look st.t t).lt st.H.length = true) →
            (∃ (a : Act) (E : Env), n ≤ a.tmps.size ∧ HRel E ∧ E.H = st.H ∧ (∀ t, t ∈ namesOf o ∨ (∃ g w, o.guard = some (g, w) ∧ (all[g]?).bind (·.dst) = some t) → VRel E (look st.t t) (a.tmps.getD t undef)) ∧ ∀ t, (∀ x ∈ N, x.d ≠ t) → VRel E (look st.t t) (a.tmps.getD t undef)) →
            awpDraw P all rest N (st1.put o.dst x st.H) K →
            ∃ (T : Nat → V) (role : Nat → Option (Bool × Nat)) (z f : Nat → O) (kt : Nat) (stE : St) (N' : List Fo), k ≤ kt ∧ kt ≤ all.size ∧ N.length ≤ N'.length ∧ (kt < all.size → tailP P all kt stE.t) ∧ stE.H = st.H ∧
              awpOps P all ((o :: rest).drop (kt - k)) ⟨stE.t, stE.H ++ N'.map Fo.o⟩ K ∧
              (∀ p x, N'[p]? = some x → x.o = gS z f (baseN N) role (fun i => k ≤ i ∧ i < kt) p) ∧
              Xt P all st.H N k kt N'.length (look st.t) T role z f ∧ ∀ t, look stE.t t = tvF all T (look st.t) k t (kt - k) := by
          intro st1 x hH hl hq hlt hlv hd
          have hl1 : ∀ t, look (st1.put o.dst x st.H).t t = if o.dst = some t then x else look st.t t := fun t => by rw [look_put, hl t]
          refine join (st1.put o.dst x st.H) N x none (fun z => z) (fun f => f) (by cases o.dst <;> rfl) (Nat.le_refl _) hl1 ?_ hd ?_
          · obtain ⟨a, E, hN, hE, hH0, hl0, hl2⟩ := hlv
            have := hq a E hE hH0 hl0 (fun a' w' => ∃ v E', E'.w = w' ∧ a' = a.put o.dst v ∧ VRel E' x v ∧ E'.H = st.H ∧ HRel E' ∧ Trans E E') (fun _ _ _ => False) (fun v E' h1 h2 h3 h4 => ⟨v, E', rfl, rfl, h1, h2, h3, h4⟩)
            obtain ⟨a', w', v, E', rfl, rfl, h1, h2, h3, h4⟩ := wpOp_some this
            refine ⟨a.put o.dst v, E', ?_, h3, by rw [h2]; cases o.dst <;> rfl, fun t ht => ?_⟩
            · cases hdd : o.dst <;> simpa [Act.put, hdd] using hN
            · rw [hl1]
              by_cases hdt : o.dst = some t
              · rw [if_pos hdt, hdt, getD_put (Nat.lt_of_lt_of_le (hod t hdt) hN), if_pos rfl]; exact h1
              · rw [if_neg hdt]
                have : (a.put o.dst v).tmps.getD t undef = a.tmps.getD t undef := by
                  cases hdd : o.dst with
                  | none => rfl
                  | some d => rw [getD_put (Nat.lt_of_lt_of_le (hod d hdd) hN), if_neg (by rintro rfl; exact hdt hdd)]
                rw [this]
                exact (hl2 t ht).trans h4
          · intro T role z f kt N' g1 g2 X g7
            have rk : ∀ b p, ¬ role k = some (b, p) := fun b p e => by
              cases b with
              | true => have := (X.c1 k p e).1; omega
              | false => have := (X.c3 k p e).1; omega
            have rr : (fun m => if m = k then none else role m) = role := by
              funext m
              split
              · rename_i e; subst e
                cases hr : role m with
                | none => rfl
                | some bp => obtain ⟨b, p⟩ := bp; exact (rk b p hr).elim
              · rfl
            rw [rr]
            refine ⟨⟨?_, X.c2, ?_, X.c4, X.cz, X.c5, ?_⟩, ?_⟩
            · intro i p hr; obtain ⟨q1, q2, q3, q4⟩ := X.c1 i p hr; exact ⟨by omega, q2, q3, q4⟩
            · intro i p hr; obtain ⟨q1, q2, q3, q4⟩ := X.c3 i p hr; exact ⟨by omega, q2, q3, q4⟩
            · intro i oi h1 h2 h3
              by_cases hik : i = k
              · subst hik
                rw [hio] at h3; cases h3
                have hr0 : role i = none := by
                  cases hr : role i with
                  | none => rfl
                  | some bp => obtain ⟨b, p⟩ := bp; exact (rk b p hr).elim
                simp only [hr0, if_true, Nat.sub_self, tvF]
                exact ⟨hq, hlt⟩
              · have hsp := X.spec i oi (by omega) h2 h3
                have e := specs _ N x T hl1 i (by omega)
                have e2 : ∀ t, tvF all (fun m => if m = k then x else T m) (look st.t) k t (i - k) = tvF all T (look (st1.put o.dst x st.H).t) (k + 1) t (i - (k + 1)) := fun t => congrFun e t
                simp only [hik, if_false, e2]
                exact hsp
            · intro p y hp
              rw [g7 p y hp]
              have sh : ∀ (b : Bool), (∃ i, (k ≤ i ∧ i < kt) ∧ role i = some (b, p)) ↔ ∃ i, (k + 1 ≤ i ∧ i < kt) ∧ role i = some (b, p) := by
                intro b
                constructor
                · rintro ⟨i, hi, hr⟩
                  have : i ≠ k := fun e => rk b p (e ▸ hr)
                  exact ⟨i, by omega, hr⟩
                · rintro ⟨i, hi, hr⟩; exact ⟨i, by omega, hr⟩
              exact gS_congr (sh false).symm (sh true).symm rfl rfl rfl
        have ltOf : ∀ t, t ∈ namesOf o → (look st.t t).lt st.H.length = true := by
          intro t ht
          obtain ⟨a, E, _, _, h3, h4⟩ := hlive
          have := (h4 t (hun t ht)).lt_len
          rwa [h3] at this
        simp only [guarded2] at h
        split at h
        · rename_i hg
          obtain ⟨x, hq, hd⟩ := awpQ_ok hio h (fun a E _ => by simp [Region.wanted, hg]) (by obtain ⟨a, E, _, h1, h2, h3⟩ := hlive; exact ⟨a, E, h1, h2, fun t ht => h3 t (hun t ht)⟩)
          refine fin st x rfl (fun _ => rfl) hq ?_ ?_ hd
          · rintro t (ht | ⟨g, w, hgg, _⟩)
            · exact ltOf t ht
            · rw [hg] at hgg; cases hgg
          · obtain ⟨a, E, h0, h1, h2, h3⟩ := hlive
            refine ⟨a, E, h0, h1, h2, ?_, h3⟩
            rintro t (ht | ⟨g, w, hgg, _⟩)
            · exact h3 t (hun t ht)
            · rw [hg] at hgg; cases hgg
        · rename_i j want hg
          split at h
          · rename_i d hdj
            -- the guard's own slot bears a truth
            have hgd : ∀ t, (∃ g w, o.guard = some (g, w) ∧ (all[g]?).bind (·.dst) = some t) → t = d := by
              rintro t ⟨g, w, hgg, hgt⟩
              rw [hg] at hgg; cases hgg
              rw [hdj] at hgt; exact (Option.some.inj hgt).symm
            split at h
            · rename_i b hb
              have hlvd : ∃ (a : Act) (E : Env), n ≤ a.tmps.size ∧ HRel E ∧ E.H = st.H ∧ (∀ t, t ∈ namesOf o ∨ (∃ g w, o.guard = some (g, w) ∧ (all[g]?).bind (·.dst) = some t) → VRel E (look st.t t) (a.tmps.getD t undef)) ∧ ∀ t, (∀ x ∈ N, x.d ≠ t) → VRel E (look st.t t) (a.tmps.getD t undef) := by
                obtain ⟨a, E, h0, h1, h2, h3⟩ := hlive
                by_cases hdN : ∀ x ∈ N, x.d ≠ d
                · refine ⟨a, E, h0, h1, h2, ?_, h3⟩
                  rintro t (ht | ht)
                  · exact h3 t (hun t ht)
                  · rw [hgd t ht]; exact h3 d hdN
                · -- the slot is a new object's: its value may be taken as it should be
                  refine ⟨{ a with tmps := a.tmps.setIfInBounds d (.bool b) }, E, by simpa using h0, h1, h2, ?_, ?_⟩
                  · rintro t (ht | ht)
                    · have hne : t ≠ d := fun e => hdN (e ▸ hun t ht)
                      have : (a.tmps.setIfInBounds d (.bool b)).getD t undef = a.tmps.getD t undef := by
                        simp only [Array.getD_eq_getD_getElem?, Array.getElem?_setIfInBounds, if_neg (Ne.symm hne)]
                      show VRel E _ ((a.tmps.setIfInBounds d (.bool b)).getD t undef)
                      rw [this]; exact h3 t (hun t ht)
                    · rw [hgd t ht, hb]
                      have hdn : d < a.tmps.size := by
                        refine Nat.lt_of_lt_of_le ?_ h0
                        cases hj : all[j]? with
                        | none => simp [hj] at hdj
                        | some oj => simp [hj] at hdj; exact hok oj (List.mem_of_getElem? (by simpa using hj)) d hdj
                      have : (a.tmps.setIfInBounds d (.bool b)).getD d undef = .bool b := by
                        simp [Array.getD_eq_getD_getElem?, hdn]
                      show VRel E _ ((a.tmps.setIfInBounds d (.bool b)).getD d undef)
                      rw [this]; exact .one .bool
                  · intro t ht
                    have hne : t ≠ d := fun e => hdN (e ▸ ht)
                    have : (a.tmps.setIfInBounds d (.bool b)).getD t undef = a.tmps.getD t undef := by
                      simp only [Array.getD_eq_getD_getElem?, Array.getElem?_setIfInBounds, if_neg (Ne.symm hne)]
                    show VRel E _ ((a.tmps.setIfInBounds d (.bool b)).getD t undef)
                    rw [this]; exact h3 t ht
              have hlt' : ∀ t, t ∈ namesOf o ∨ (∃ g w, o.guard = some (g, w) ∧ (all[g]?).bind (·.dst) = some t) → (look st.t t).lt st.H.length = true := by
                rintro t (ht | ht)
                · exact ltOf t ht
                · rw [hgd t ht, hb]; rfl
              have hy : ∀ (a : Act) (E : Env), (∀ t, t ∈ namesOf o ∨ (∃ g w, o.guard = some (g, w) ∧ (all[g]?).bind (·.dst) = some t) → VRel E (look st.t t) (a.tmps.getD t undef)) → yielded all a.tmps j = some b := by
                intro a E hl
                have := hl d (.inr ⟨j, want, hg, hdj⟩)
                rw [hb] at this
                exact yielded_of hdj (bool_inv (one_inv this))
              by_cases hbw : b = want
              · subst hbw
                have hl : ∀ t, look ((d, V.one (C.bool b)) :: st.t) t = look st.t t := look_assume hb
                obtain ⟨x, hq, hd⟩ := awpQ_ok (st := ⟨(d, .one (.bool b)) :: st.t, st.H⟩) hio (h.1 rfl)
                  (fun a E hh => by have := hy a E (fun t ht => by rw [← hl t]; exact hh t ht); simp [Region.wanted, hg, this]) (by obtain ⟨a, E, _, h1, h2, h3, _⟩ := hlvd; exact ⟨a, E, h1, h2, fun t ht => by simp only [hl]; exact h3 t (.inl ht)⟩)
                refine fin ⟨(d, .one (.bool b)) :: st.t, st.H⟩ x rfl hl ?_ hlt' hlvd hd
                have e : look ((d, V.one (C.bool b)) :: st.t) = look st.t := funext hl
                simp only [e] at hq
                exact hq
              · have hbn : b = !want := bool_ne hbw
                have hl : ∀ t, look ((d, V.one (C.bool (!want))) :: st.t) t = look st.t t := look_assume (by rw [hb, hbn])
                refine fin ⟨(d, .one (.bool (!want))) :: st.t, st.H⟩ (.tup []) rfl hl (fun a E hE hH hh Kn Q hn => ?_) hlt' hlvd (h.2 hbn)
                simp only [wpOp, hio]
                have hw : Region.wanted o (yielded all a.tmps) = false := by
                  simp only [Region.wanted, hg, hy a E hh]; simp [hbw]
                simp only [hw, Bool.false_eq_true, if_false]
                exact hn undef E (.tup rfl (by simp)) hH hE (Trans.refl E)
            · rename_i hb
              have hlvd : ∃ (a : Act) (E : Env), n ≤ a.tmps.size ∧ HRel E ∧ E.H = st.H ∧ (∀ t, t ∈ namesOf o ∨ (∃ g w, o.guard = some (g, w) ∧ (all[g]?).bind (·.dst) = some t) → VRel E (look st.t t) (a.tmps.getD t undef)) ∧ ∀ t, (∀ x ∈ N, x.d ≠ t) → VRel E (look st.t t) (a.tmps.getD t undef) := by
                obtain ⟨a, E, h0, h1, h2, h3⟩ := hlive
                by_cases hdN : ∀ x ∈ N, x.d ≠ d
                · refine ⟨a, E, h0, h1, h2, ?_, h3⟩
                  rintro t (ht | ht)
                  · exact h3 t (hun t ht)
                  · rw [hgd t ht]; exact h3 d hdN
                · refine ⟨{ a with tmps := a.tmps.setIfInBounds d (.tuple #[]) }, E, by simpa using h0, h1, h2, ?_, ?_⟩
                  · rintro t (ht | ht)
                    · have hne : t ≠ d := fun e => hdN (e ▸ hun t ht)
                      have : (a.tmps.setIfInBounds d (.tuple #[])).getD t undef = a.tmps.getD t undef := by
                        simp only [Array.getD_eq_getD_getElem?, Array.getElem?_setIfInBounds, if_neg (Ne.symm hne)]
                      show VRel E _ ((a.tmps.setIfInBounds d (.tuple #[])).getD t undef)
                      rw [this]; exact h3 t (hun t ht)
                    · rw [hgd t ht, hb]
                      have hdn : d < a.tmps.size := by
                        refine Nat.lt_of_lt_of_le ?_ h0
                        cases hj : all[j]? with
                        | none => simp [hj] at hdj
                        | some oj => simp [hj] at hdj; exact hok oj (List.mem_of_getElem? (by simpa using hj)) d hdj
                      have : (a.tmps.setIfInBounds d (.tuple #[])).getD d undef = .tuple #[] := by
                        simp [Array.getD_eq_getD_getElem?, hdn]
                      show VRel E _ ((a.tmps.setIfInBounds d (.tuple #[])).getD d undef)
                      rw [this]; exact .tup rfl (by simp)
                  · intro t ht
                    have hne : t ≠ d := fun e => hdN (e ▸ ht)
                    have : (a.tmps.setIfInBounds d (.tuple #[])).getD t undef = a.tmps.getD t undef := by
                      simp only [Array.getD_eq_getD_getElem?, Array.getElem?_setIfInBounds, if_neg (Ne.symm hne)]
                    show VRel E _ ((a.tmps.setIfInBounds d (.tuple #[])).getD t undef)
                    rw [this]; exact h3 t ht
              refine fin st (.tup []) rfl (fun _ => rfl) (fun a E hE hH hh Kn Q hn => ?_) ?_ hlvd h
              · simp only [wpOp, hio]
                have ht := hh d (.inr ⟨j, want, hg, hdj⟩)
                rw [hb] at ht
                have hv : a.tmps.getD d undef = .tuple #[] := by
                  generalize a.tmps.getD d undef = v at ht
                  cases ht with
                  | tup hn _ => congr 1; exact Array.eq_empty_of_size_eq_zero (by simpa using hn)
                have hw : Region.wanted o (yielded all a.tmps) = false := by simp [Region.wanted, hg, yielded_skip hdj hv]
                simp only [hw, Bool.false_eq_true, if_false]
                exact hn undef E (.tup rfl (by simp)) hH hE (Trans.refl E)
              · rintro t (ht | ht)
                · exact ltOf t ht
                · rw [hgd t ht, hb]; rfl
            · exact h.elim
          · exact h.elim

theorem directB_spec {ops : Array Oper} {i j : Nat} (h : directB ops i j = true) : ∃ o, ops[j]? = some o ∧ ∃ e ∈ o.after, Region.binds .any e = true ∧ e.on = i := by
  unfold directB at h
  split at h
  · rename_i o ho
    simp only [List.any_eq_true, Bool.and_eq_true, beq_iff_eq] at h
    obtain ⟨e, he, hb, rfl⟩ := h
    exact ⟨o, ho, e, by simpa using he, hb, rfl⟩
  · cases h

structure DrawOk (ops : Array Oper) : Prop where
  back : ∀ (j : Nat) (o : Oper), ops[j]? = some o → ∀ e ∈ o.after, Region.binds .any e = true → e.on < j
  guard : ∀ (j : Nat) (o : Oper) (g : Nat) (w : Bool), ops[j]? = some o → o.guard = some (g, w) → g < j ∧ directB ops g j = true
  war : ∀ (i j : Nat) (oi oj : Oper) (d : Nat), i < j → ops[i]? = some oi → ops[j]? = some oj →
    (oi.dst = some d ∧ (d ∈ namesOf oj ∨ oj.dst = some d ∨ ∃ g w, oj.guard = some (g, w) ∧ (ops[g]?).bind (·.dst) = some d)) ∨
    (oj.dst = some d ∧ (d ∈ namesOf oi ∨ ∃ g w, oi.guard = some (g, w) ∧ (ops[g]?).bind (·.dst) = some d)) → directB ops i j = true

theorem drawB_spec {ops : Array Oper} (h : drawB ops = true) : DrawOk ops := by
  unfold drawB at h
  rw [List.all_eq_true] at h
  refine ⟨fun j o hj e he hb => ?_, fun j o g w hj hg => ?_, fun i j oi oj d hij hi hj hc => ?_⟩
  · have hlt : j < ops.size := (Array.getElem?_eq_some_iff.1 hj).1
    have := h j (List.mem_range.2 hlt)
    simp only [hj, Bool.and_eq_true] at this
    have := this.1.1
    rw [List.all_eq_true] at this
    have := this e (by simpa using he)
    simpa [hb] using this
  · have hlt : j < ops.size := (Array.getElem?_eq_some_iff.1 hj).1
    have := h j (List.mem_range.2 hlt)
    simp only [hj, hg, Bool.and_eq_true, decide_eq_true_eq] at this
    exact this.1.2
  · have hlt : j < ops.size := (Array.getElem?_eq_some_iff.1 hj).1
    have := h j (List.mem_range.2 hlt)
    simp only [hj, Bool.and_eq_true] at this
    have h2 := this.2
    rw [List.all_eq_true] at h2
    have h3 := h2 i (List.mem_range.2 hij)
    simp only [hi] at h3
    cases hdir : directB ops i j with
    | true => rfl
    | false =>
      simp only [hdir, Bool.or_false, Bool.and_eq_true] at h3
      obtain ⟨⟨⟨h1, h4⟩, h2⟩, h3⟩ := h3
      rcases hc with ⟨hd, hc⟩ | ⟨hd, hc⟩
      · simp only [hd, Bool.not_eq_true', Bool.or_eq_false_iff] at h1
        rcases hc with hc | hc | ⟨g, w, hg, hgd⟩
        · have := h1.1; simp [hc] at this
        · have := h1.2; simp [hc] at this
        · simp only [hd, hg, hgd, Bool.not_eq_true'] at h4; simp at h4
      · rcases hc with hc | ⟨g, w, hg, hgd⟩
        · simp only [hd, Bool.not_eq_true'] at h2; simp [hc] at h2
        · simp only [hd, hg, hgd, Bool.not_eq_true'] at h3; simp at h3

theorem getD_set {listed : Array Bool} {i j : Nat} (hi : i < listed.size) : (listed.setIfInBounds i true).getD j false = (decide (i = j) || listed.getD j false) := by
  simp only [Array.getD_eq_getD_getElem?, Array.getElem?_setIfInBounds]
  by_cases e : i = j
  · subst e; simp [hi]
  · simp [e]

def unl (listed : Array Bool) : Nat := listed.toList.countP (· == false)

theorem unl_set {listed : Array Bool} {i : Nat} (hi : i < listed.size) (h : listed.getD i true = false) : unl (listed.setIfInBounds i true) + 1 = unl listed := by
  have hg : listed[i] = false := by simpa [Array.getD_eq_getD_getElem?, hi] using h
  unfold unl
  have hl : i < listed.toList.length := by simpa using hi
  have : listed.toList = listed.toList.take i ++ false :: listed.toList.drop (i + 1) := by
    rw [← hg]
    conv => lhs; rw [← List.take_append_drop i listed.toList]
    rw [List.drop_eq_getElem_cons hl]; simp
  have h2 : (listed.setIfInBounds i true).toList = listed.toList.take i ++ true :: listed.toList.drop (i + 1) := by
    rw [Array.toList_setIfInBounds, List.set_eq_take_append_cons_drop, if_pos hl]
  rw [h2]
  conv => rhs; rw [this]
  simp [List.countP_append, List.countP_cons]
  omega

theorem unl_zero {listed : Array Bool} (h : unl listed = 0) {j : Nat} (hj : j < listed.size) : listed.getD j false = true := by
  unfold unl at h
  rw [List.countP_eq_zero] at h
  have := h listed[j] (by simp)
  simpa [Array.getD_eq_getD_getElem?, hj] using this

/-- Of two operations the first comes ahead of the second, whatever the order. -/
inductive Before (ops : Array Oper) : Nat → Nat → Prop
  | one {i j : Nat} (h : directB ops i j = true) : Before ops i j
  | trans {i k j : Nat} (h : Before ops i k) (h2 : directB ops k j = true) : Before ops i j

theorem mem_union {a b : List Nat} {x : Nat} : x ∈ unionN a b ↔ x ∈ a ∨ x ∈ b := by
  unfold unionN
  simp only [List.mem_append, List.mem_filter]
  constructor
  · rintro (h | ⟨h, _⟩); exact .inl h; exact .inr h
  · rintro (h | h)
    · exact .inl h
    · by_cases hx : x ∈ a
      · exact .inl hx
      · exact .inr ⟨h, by simp [hx]⟩
theorem mem_foldl_union {β : Type} (g : β → List Nat) : ∀ (es : List β) (acc : List Nat) (x : Nat), x ∈ es.foldl (fun acc e => unionN acc (g e)) acc ↔ x ∈ acc ∨ ∃ e ∈ es, x ∈ g e
  | [], acc, x => by simp
  | e :: es, acc, x => by
    rw [List.foldl_cons, mem_foldl_union g es, mem_union]
    constructor
    · rintro ((h | h) | ⟨e', h1, h2⟩)
      · exact .inl h
      · exact .inr ⟨e, by simp, h⟩
      · exact .inr ⟨e', by simp [h1], h2⟩
    · rintro (h | ⟨e', h1, h2⟩)
      · exact .inl (.inl h)
      · rcases List.mem_cons.1 h1 with rfl | h1
        · exact .inl (.inr h2)
        · exact .inr ⟨e', h1, h2⟩

theorem preTab_go (ops : Array Oper) : ∀ (rest : List Oper) (tab : List (List Nat)) (k : Nat), tab.length = k → (∀ m, rest[m]? = ops[k + m]?) → (∀ j i, i ∈ tab.getD j [] → Before ops i j) →
    ∀ j i, i ∈ (rest.foldl preStep tab).getD j [] → Before ops i j
  | [], tab, k, hk, hr, ht, j, i, hi => ht j i hi
  | o :: rest, tab, k, hk, hr, ht, j, i, hi => by
    have ho : ops[k]? = some o := by simpa using (hr 0).symm
    refine preTab_go ops rest (preStep tab o) (k + 1) (by simp [preStep, hk]) (fun m => by have := hr (m + 1); simpa [Nat.add_assoc, Nat.add_comm 1] using this) (fun j i hi => ?_) j i hi
    rw [preStep, List.getD_eq_getElem?_getD, List.getElem?_append] at hi
    split at hi
    · exact ht j i (by rw [List.getD_eq_getElem?_getD]; exact hi)
    · rename_i hge
      by_cases hj : j = k
      · subst hj
        rw [hk, Nat.sub_self] at hi
        simp only [List.getElem?_cons_zero, Option.getD_some] at hi
        rw [mem_foldl_union] at hi
        rcases hi with hi | ⟨e, he, hi⟩
        · simp at hi
        · obtain ⟨he1, he2⟩ := List.mem_filter.1 he
          have hdir : directB ops e.on j = true := by
            unfold directB
            simp only [ho, List.any_eq_true, Bool.and_eq_true, beq_iff_eq]
            exact ⟨e, he1, he2, rfl⟩
          rcases List.mem_cons.1 hi with rfl | hi
          · exact .one hdir
          · exact .trans (ht _ _ hi) hdir
      · have : ∃ q, j - tab.length = q + 1 := ⟨j - tab.length - 1, by omega⟩
        obtain ⟨q, hq⟩ := this
        rw [hq] at hi
        simp at hi

theorem tailB_spec {ops : Array Oper} {k : Nat} (h : tailB ops k = true) : ∀ j, k ≤ j → j < ops.size → ∀ i, i < j → Before ops i j := by
  intro j hk hj i hi
  unfold tailB at h
  rw [List.all_eq_true] at h
  have := h j (List.mem_range.2 hj)
  simp only [Bool.or_eq_true, decide_eq_true_eq] at this
  rcases this with h1 | h1
  · omega
  · rw [List.all_eq_true] at h1
    have h2 := h1 i (List.mem_range.2 hi)
    refine preTab_go ops ops.toList [] 0 rfl (fun m => by simp) (fun j i hi => by simp at hi) j i ?_
    simpa [preTab] using h2

theorem Before.listed {ops : Array Oper} {listed : Array Bool} (hc : ∀ (j : Nat) (o : Oper), ops[j]? = some o → listed.getD j false = true → ∀ e ∈ o.after, Region.binds .any e = true → listed.getD e.on false = true) {i j : Nat} (h : Before ops i j) :
    listed.getD j false = true → listed.getD i false = true := by
  have one : ∀ {i j : Nat}, directB ops i j = true → listed.getD j false = true → listed.getD i false = true := by
    intro i j hdir hl
    obtain ⟨o, ho, e, he, hb, rfl⟩ := directB_spec hdir
    exact hc j o ho hl e he hb
  induction h with
  | one h => exact one h
  | trans h h2 ih => exact fun hl => ih (one h2 hl)
theorem Before.ready {ops : Array Oper} {listed : Array Bool} (hc : ∀ (j : Nat) (o : Oper), ops[j]? = some o → listed.getD j false = true → ∀ e ∈ o.after, Region.binds .any e = true → listed.getD e.on false = true) {i j : Nat} {o : Oper} (ho : ops[j]? = some o)
    (hr : ∀ e ∈ o.after, Region.binds .any e = true → listed.getD e.on false = true) (h : Before ops i j) : listed.getD i false = true := by
  have one : ∀ {i : Nat}, directB ops i j = true → listed.getD i false = true := by
    intro i hdir
    obtain ⟨o', ho', e, he, hb, rfl⟩ := directB_spec hdir
    rw [ho] at ho'; cases ho'
    exact hr e he hb
  cases h with
  | one h => exact one h
  | trans h h2 => exact h.listed hc (one h2)

theorem tail_any {P : Program} {ctx : Env} {n : Cf} {ops : Array Oper} {K : St → Prop} {Q : Exit → Act → World → Prop} {k0 : Nat} (hd : DrawOk ops) (hok : ∀ o ∈ ops.toList, ∀ d, o.dst = some d → d < n.n)
    (ht : ∀ j, k0 ≤ j → j < ops.size → ∀ i, i < j → Before ops i j) (hQ : ∀ st' a' E', K st' → SR ctx n st' a' E' → Q .normal a' E'.w) :
    ∀ (fuel j : Nat) (listed : Array Bool) (a : Act) (E : Env) (st : St), k0 ≤ j → j ≤ ops.size → listed.size = ops.size → unl listed ≤ fuel → (∀ i, i < ops.size → (listed.getD i false = true ↔ i < j)) → SR ctx n st a E → awpOps P ops (ops.toList.drop j) st K →
      wpAny P .any ops Q fuel listed a E.w := by
  have fin : ∀ (j : Nat) (listed : Array Bool) (a : Act) (E : Env) (st : St), (∀ i, i < ops.size → (listed.getD i false = true ↔ i < j)) → (∀ i, i < ops.size → listed.getD i false = true) → SR ctx n st a E → awpOps P ops (ops.toList.drop j) st K → Q .normal a E.w := by
    intro j listed a E st hl hall hS hw
    have : ops.toList.drop j = [] := by
      refine List.drop_eq_nil_of_le ?_
      rw [Array.length_toList]
      rcases Nat.lt_or_ge j ops.size with h | h
      · have := (hl j h).1 (hall j h); omega
      · exact h
    rw [this] at hw
    exact hQ st a E hw hS
  have closed : ∀ (j : Nat) (listed : Array Bool), j ≤ ops.size → (∀ i, i < ops.size → (listed.getD i false = true ↔ i < j)) → ∀ (q : Nat) (o : Oper), ops[q]? = some o → listed.getD q false = true → ∀ e ∈ o.after, Region.binds .any e = true → listed.getD e.on false = true := by
    intro j listed hj hl q o ho hq e he hb
    have hqs : q < ops.size := (Array.getElem?_eq_some_iff.1 ho).1
    have h1 := (hl q hqs).1 hq
    have h2 := hd.back q o ho e he hb
    exact (hl e.on (by omega)).2 (by omega)
  have nil : ∀ (j : Nat) (listed : Array Bool), listed.size = ops.size → j ≤ ops.size → (∀ i, i < ops.size → (listed.getD i false = true ↔ i < j)) → Region.ready .any ops listed = [] → ∀ i, i < ops.size → listed.getD i false = true := by
    intro j listed hs hj hl hr i hi
    rcases Nat.lt_or_ge j ops.size with h | h
    · exfalso
      have hmem : j ∈ Region.ready .any ops listed := by
        rw [mem_ready]
        have hlf : listed.getD j false = false := by
          cases hh : listed.getD j false with
          | false => rfl
          | true => have := (hl j h).1 hh; omega
        refine ⟨by simp only [Array.getD_eq_getD_getElem?] at hlf ⊢; rw [Array.getElem?_eq_getElem (by rw [hs]; exact h)] at hlf ⊢; simpa using hlf, ops[j], by simp [h], fun e he hb => ?_⟩
        have := hd.back j ops[j] (by simp [h]) e he hb
        exact (hl e.on (by omega)).2 this
      rw [hr] at hmem; cases hmem
    · exact (hl i hi).2 (by omega)
  intro fuel
  induction fuel with
  | zero =>
    intro j listed a E st hk hj hs hu hl hS hw
    have hall : ∀ i, i < ops.size → listed.getD i false = true := fun i hi => unl_zero (by omega) (by rw [hs]; exact hi)
    refine ⟨?_, fin j listed a E st hl hall hS hw⟩
    apply List.eq_nil_iff_forall_not_mem.2
    intro i hi
    rw [mem_ready] at hi
    obtain ⟨h1, o, ho, _⟩ := hi
    have hlt := (Array.getElem?_eq_some_iff.1 ho).1
    have h2 := hall i hlt
    simp only [Array.getD_eq_getD_getElem?, Array.getElem?_eq_getElem (show i < listed.size by rw [hs]; exact hlt)] at h1 h2
    simp_all
  | succ fuel ih =>
    intro j listed a E st hk hj hs hu hl hS hw
    refine ⟨fun hr => fin j listed a E st hl (nil j listed hs hj hl hr) hS hw, fun i hi => ?_⟩
    rw [mem_ready] at hi
    obtain ⟨hi0, o, ho, hafter⟩ := hi
    have hilt : i < ops.size := (Array.getElem?_eq_some_iff.1 ho).1
    have hils : i < listed.size := by rw [hs]; exact hilt
    have hif : listed.getD i false = false := by
      simp only [Array.getD_eq_getD_getElem?, Array.getElem?_eq_getElem hils] at hi0 ⊢; simpa using hi0
    have hge : j ≤ i := by
      rcases Nat.lt_or_ge i j with h | h
      · have := (hl i hilt).2 h; rw [hif] at this; cases this
      · exact h
    have hij : i = j := by
      rcases Nat.lt_or_eq_of_le hge with h | h
      · have := (ht i (by omega) hilt j h).ready (closed j listed hj hl) ho hafter
        have := (hl j (by omega)).1 this; omega
      · exact h.symm
    subst hij
    have hdrop : ops.toList.drop i = o :: ops.toList.drop (i + 1) := by
      rw [List.drop_eq_getElem_cons (by simpa using hilt)]
      congr 1
      have := Array.getElem?_eq_some_iff.1 ho
      obtain ⟨h1, h2⟩ := this
      simpa using h2
    rw [hdrop] at hw
    simp only [awpOps] at hw
    have hl' : ∀ q, q < ops.size → ((listed.setIfInBounds i true).getD q false = true ↔ q < i + 1) := by
      intro q hq
      rw [getD_set hils, Bool.or_eq_true, decide_eq_true_eq, hl q hq]; omega
    have hu' : unl (listed.setIfInBounds i true) ≤ fuel := by have := unl_set hils hi0; omega
    have hod := hok o (List.mem_of_getElem? (by simpa using ho))
    obtain ⟨st', hS', hcase⟩ := guarded2_ok hS hw
    simp only [wpOp, ho]
    rcases hcase with ⟨hwant, hx⟩ | ⟨hwant, hx⟩
    · simp only [hwant, if_true]
      left
      exact awpOp_ok hS' hod hx Q _ fun st2 a2 E2 hK hS2 => ih (i + 1) _ a2 E2 st2 (by omega) (by omega) (by simpa using hs) hu' hl' hS2 hK
    · simp only [hwant, Bool.false_eq_true, if_false]
      exact ih (i + 1) _ _ E _ (by omega) (by omega) (by simpa using hs) hu' hl' (hS'.skip2 hod) hx

/-- What holds when some operations have been carried out. -/
structure Inv (ctx : Env) (n : Nat) (ops : Array Oper) (T : Nat → V) (l0 : Nat → V) (H : List O) (M kt : Nat) (z f : Nat → O) (role : Nat → Option (Bool × Nat)) (listed : Array Bool) (a : Act) (E : Env) : Prop where
  size : listed.size = ops.size
  closed : ∀ (j : Nat) (o : Oper), ops[j]? = some o → listed.getD j false = true → ∀ e ∈ o.after, Region.binds .any e = true → listed.getD e.on false = true
  sub : ∀ j, listed.getD j false = true → j < kt
  len : n ≤ a.tmps.size
  defers : a.defers = []
  rel : HRel E
  H : E.H = H ++ (List.range M).map (gS z f (baseN []) role (fun j => listed.getD j false = true))
  tr : Trans ctx E
  tm : ∀ t, VRel E (tv ops T l0 (fun j => listed.getD j false = true) t ops.size) (a.tmps.getD t undef)

theorem range_set {M p : Nat} {g g' : Nat → O} {x : O} (hp : p < M) (h1 : g' p = x) (h2 : ∀ q, q ≠ p → g' q = g q) : (List.range M).map g' = ((List.range M).map g).set p x := by
  apply List.ext_getElem?
  intro q
  rw [List.getElem?_set]
  by_cases hqp : p = q
  · subst hqp
    rw [if_pos rfl, if_pos (by simpa using hp)]
    simp [hp, h1]
  · rw [if_neg hqp]
    simp only [List.getElem?_map]
    cases hq : (List.range M)[q]? with
    | none => rfl
    | some y =>
      have : y = q := by
        have := (List.getElem?_eq_some_iff.1 hq)
        obtain ⟨h, e⟩ := this
        simpa using e.symm
      subst this
      simp [h2 y (Ne.symm hqp)]

theorem draw_any {P : Program} {ctx : Env} {n : Nat} {ops : Array Oper} {T l0 : Nat → V} {H : List O} {Q : Exit → Act → World → Prop} {M kt : Nat} {z f : Nat → O} {role : Nat → Option (Bool × Nat)} (hd : DrawOk ops) (hok : ∀ o ∈ ops.toList, ∀ d, o.dst = some d → d < n)
    (hHl : ∀ o ∈ H, o.lt H.length = true) (X : Xt P ops H [] 0 kt M l0 T role z f) (hkt : kt ≤ ops.size) (late : Nat → Prop) (hbef : ∀ i j, kt ≤ j → j < ops.size → i < kt → ¬ late i → Before ops i j) (hrole : ∀ i, late i → role i = none)
    (hQ : ∀ (fuel : Nat) (listed : Array Bool) (a : Act) (E : Env), unl listed ≤ fuel → listed.size = ops.size → (∀ (j : Nat) (o : Oper), ops[j]? = some o → listed.getD j false = true → ∀ e ∈ o.after, Region.binds .any e = true → listed.getD e.on false = true) →
      (∀ i, listed.getD i false = true → i < kt) → (∀ i, i < kt → ¬ late i → listed.getD i false = true) → n ≤ a.tmps.size → a.defers = [] → HRel E →
      E.H = H ++ (List.range M).map (gS z f (baseN []) role (fun i => 0 ≤ i ∧ i < kt)) → Trans ctx E → (∀ t, (∀ j, j < kt → late j → listed.getD j false = false → (ops[j]?).bind (·.dst) ≠ some t) → VRel E (tv ops T l0 (fun _ => True) t kt) (a.tmps.getD t undef)) → wpAny P .any ops Q fuel listed a E.w) :
    ∀ (fuel : Nat) (listed : Array Bool) (a : Act) (E : Env), unl listed ≤ fuel → Inv ctx n ops T l0 H M kt z f role listed a E → wpAny P .any ops Q fuel listed a E.w := by
  have dstOf : ∀ {j t : Nat}, (ops[j]?).bind (·.dst) = some t → ∃ oj, ops[j]? = some oj ∧ oj.dst = some t := by
    intro j t h
    cases hj : ops[j]? with
    | none => simp [hj] at h
    | some oj => simp [hj] at h; exact ⟨oj, rfl, h⟩
  have done : ∀ (fuel : Nat) (listed : Array Bool) (a : Act) (E : Env), unl listed ≤ fuel → Inv ctx n ops T l0 H M kt z f role listed a E → (∀ j, j < kt → ¬ late j → listed.getD j false = true) → wpAny P .any ops Q fuel listed a E.w := by
    intro fuel listed a E hu hI hall
    refine hQ fuel listed a E hu hI.size hI.closed hI.sub hall hI.len hI.defers hI.rel ?_ hI.tr fun t ht => ?_
    · rw [hI.H]
      congr 2
      funext p
      have e : ∀ b, (∃ i, listed.getD i false = true ∧ role i = some (b, p)) ↔ ∃ i, (0 ≤ i ∧ i < kt) ∧ role i = some (b, p) := fun b => by
        constructor
        · rintro ⟨i, h1, h2⟩; exact ⟨i, ⟨Nat.zero_le _, hI.sub i h1⟩, h2⟩
        · rintro ⟨i, h1, h2⟩; exact ⟨i, hall i h1.2 (fun hl => by rw [hrole i hl] at h2; cases h2), h2⟩
      exact gS_congr (e false) (e true) rfl rfl rfl
    · have := hI.tm t
      rw [tv_skip (i := kt) hkt (fun j hj _ _ hl => by have := hI.sub j hl; omega)] at this
      rwa [tv_agree (fun j hj hd => ?_)] at this
      cases hl : listed.getD j false with
      | true => rfl
      | false =>
        by_cases hlj : late j
        · exact (ht j hj hlj hl hd).elim
        · rw [hall j hj hlj] at hl; cases hl
  intro fuel
  induction fuel with
  | zero =>
    intro listed a E hu hI
    exact done 0 listed a E hu hI fun j hj _ => unl_zero (by omega) (by rw [hI.size]; omega)
  | succ fuel ih =>
    intro listed a E hu hI
    by_cases hfull : ∀ j, j < kt → ¬ late j → listed.getD j false = true
    · exact done (fuel + 1) listed a E hu hI hfull
    refine ⟨fun hr => ?_, fun i hi => ?_⟩
    · exfalso
      apply hfull
      suffices hx : ∀ j, j < kt → listed.getD j false = true from fun j hj _ => hx j hj
      intro j
      induction j using Nat.strongRecOn with
      | _ j ihj =>
        intro hj
        cases hl : listed.getD j false with
        | true => rfl
        | false =>
          have hjs : j < ops.size := by omega
          have hmem : j ∈ Region.ready .any ops listed := by
            rw [mem_ready]
            refine ⟨by simp only [Array.getD_eq_getD_getElem?] at hl ⊢; rw [Array.getElem?_eq_getElem (by rw [hI.size]; exact hjs)] at hl ⊢; simpa using hl, ops[j], by simp [hjs], fun e he hb => ?_⟩
            have hlt := hd.back j ops[j] (by simp [hjs]) e he hb
            exact ihj e.on hlt (by omega)
          rw [hr] at hmem; cases hmem
    rw [mem_ready] at hi
    obtain ⟨hi0, o, ho, hafter⟩ := hi
    have hilt : i < ops.size := (Array.getElem?_eq_some_iff.1 ho).1
    have hils : i < listed.size := by rw [hI.size]; exact hilt
    have hif : listed.getD i false = false := by
      simp only [Array.getD_eq_getD_getElem?, Array.getElem?_eq_getElem hils] at hi0 ⊢; simpa using hi0
    have hod : ∀ d, o.dst = some d → d < n := hok o (List.mem_of_getElem? (by simpa using ho))
    have hikt : i < kt := by
      rcases Nat.lt_or_ge i kt with h | h
      · exact h
      · exfalso
        exact hfull fun j hj hlj => (hbef j i h hilt hj hlj).ready hI.closed ho hafter
    have later : ∀ j, directB ops i j = true → listed.getD j false = true → False := by
      intro j hdir hl
      obtain ⟨oj, hoj, e, he, hb, rfl⟩ := directB_spec hdir
      have := hI.closed j oj hoj hl e he hb
      rw [hif] at this; cases this
    have sooner : ∀ j, directB ops j i = true → listed.getD j false = true := by
      intro j hdir
      obtain ⟨oi, hoi, e, he, hb, rfl⟩ := directB_spec hdir
      rw [ho] at hoi; cases hoi
      exact hafter e he hb
    -- the operands
    have opn : ∀ t, t ∈ namesOf o ∨ (∃ g w, o.guard = some (g, w) ∧ (ops[g]?).bind (·.dst) = some t) → VRel E (tv ops T l0 (fun _ => True) t i) (a.tmps.getD t undef) := by
      intro t ht
      have h1 : tv ops T l0 (fun j => listed.getD j false = true) t ops.size = tv ops T l0 (fun j => listed.getD j false = true) t i := by
        refine tv_skip (Nat.le_of_lt hilt) fun j hij hj hdj hl => ?_
        obtain ⟨oj, hoj, hdj⟩ := dstOf hdj
        rcases Nat.lt_or_eq_of_le hij with hlt | rfl
        · refine later j (hd.war i j o oj t hlt ho hoj (.inr ⟨hdj, ?_⟩)) hl
          rcases ht with ht | ⟨g, w, hg, hgd⟩
          · exact .inl ht
          · exact .inr ⟨g, w, hg, hgd⟩
        · rw [hif] at hl; cases hl
      have h2 : tv ops T l0 (fun j => listed.getD j false = true) t i = tv ops T l0 (fun _ => True) t i := by
        refine tv_agree fun j hj hdj => ?_
        obtain ⟨oj, hoj, hdj⟩ := dstOf hdj
        rcases ht with ht | ⟨g, w, hg, hgd⟩
        · exact sooner j (hd.war j i oj o t hj hoj ho (.inl ⟨hdj, .inl ht⟩))
        · exact sooner j (hd.war j i oj o t hj hoj ho (.inl ⟨hdj, .inr (.inr ⟨g, w, hg, hgd⟩)⟩))
      have := hI.tm t
      rw [h1, h2] at this
      exact this
    have lF : ∀ t, tvF ops T l0 0 t (i - 0) = tv ops T l0 (fun _ => True) t i := fun t => by rw [Nat.sub_zero, tvF_zero]
    -- once it is carried out
    have next : ∀ v E', VRel E' (T i) v → E'.H = H ++ (List.range M).map (gS z f (baseN []) role (fun j => (listed.setIfInBounds i true).getD j false = true)) → HRel E' → Trans E E' → wpAny P .any ops Q fuel (listed.setIfInBounds i true) (a.put o.dst v) E'.w := by
      intro v E' hv hH' hh tr
      refine ih (listed.setIfInBounds i true) (a.put o.dst v) E' (by have := unl_set hils hi0; omega) ⟨by simp [hI.size], ?_, ?_, ?_, ?_, hh, hH', hI.tr.trans tr, ?_⟩
      · intro j oj hoj hl e he hb
        rw [getD_set hils] at hl ⊢
        rw [Bool.or_eq_true] at hl ⊢
        rcases hl with hl | hl
        · have : i = j := by simpa using hl
          subst this
          rw [ho] at hoj; cases hoj
          exact .inr (hafter e he hb)
        · exact .inr (hI.closed j oj hoj hl e he hb)
      · intro j hl
        rw [getD_set hils, Bool.or_eq_true] at hl
        rcases hl with hl | hl
        · have : i = j := by simpa using hl
          omega
        · exact hI.sub j hl
      · cases hdd : o.dst <;> simpa [Act.put, hdd] using hI.len
      · cases hdd : o.dst <;> simpa [Act.put, hdd] using hI.defers
      · intro t
        by_cases hdt : o.dst = some t
        · have htn := hod t hdt
          have hlt : t < a.tmps.size := Nat.lt_of_lt_of_le htn hI.len
          rw [hdt, getD_put hlt, if_pos rfl]
          have h1 : tv ops T l0 (fun j => (listed.setIfInBounds i true).getD j false = true) t ops.size = tv ops T l0 (fun j => (listed.setIfInBounds i true).getD j false = true) t (i + 1) := by
            refine tv_skip hilt fun j hij hj hdj hl => ?_
            obtain ⟨oj, hoj, hdj⟩ := dstOf hdj
            rw [getD_set hils, Bool.or_eq_true] at hl
            rcases hl with hl | hl
            · have : i = j := by simpa using hl
              omega
            · exact later j (hd.war i j o oj t (by omega) ho hoj (.inl ⟨hdt, .inr (.inl hdj)⟩)) hl
          rw [h1, tv, if_pos ⟨by rw [getD_set hils]; simp, by simp [ho, hdt]⟩]
          exact hv
        · have h1 : tv ops T l0 (fun j => (listed.setIfInBounds i true).getD j false = true) t ops.size = tv ops T l0 (fun j => listed.getD j false = true) t ops.size := by
            refine tv_congr fun j hj hdj => ?_
            obtain ⟨oj, hoj, hdj⟩ := dstOf hdj
            have hne : i ≠ j := by rintro rfl; rw [ho] at hoj; cases hoj; exact hdt hdj
            rw [getD_set hils]; simp [hne]
          rw [h1]
          have : (a.put o.dst v).tmps.getD t undef = a.tmps.getD t undef := by
            cases hdd : o.dst with
            | none => rfl
            | some d => rw [getD_put (Nat.lt_of_lt_of_le (hod d hdd) hI.len), if_neg (by rintro rfl; exact hdt hdd)]
          rw [this]
          exact (hI.tm t).trans tr
    have setS : ∀ q b, (∃ j, (listed.setIfInBounds i true).getD j false = true ∧ role j = some (b, q)) ↔ (role i = some (b, q) ∨ ∃ j, listed.getD j false = true ∧ role j = some (b, q)) := by
      intro q b
      constructor
      · rintro ⟨j, hj, hr⟩
        rw [getD_set hils, Bool.or_eq_true] at hj
        rcases hj with hj | hj
        · have : i = j := by simpa using hj
          subst this; exact .inl hr
        · exact .inr ⟨j, hj, hr⟩
      · rintro (hr | ⟨j, hj, hr⟩)
        · exact ⟨i, by rw [getD_set hils]; simp, hr⟩
        · exact ⟨j, by rw [getD_set hils, hj]; simp, hr⟩
    -- who made a new object comes ahead of who writes to it
    have maker : ∀ j q, role j = some (false, q) → ∃ j', role j' = some (true, q) ∧ directB ops j' j = true := by
      intro j q hr
      rcases (X.c3 j q hr).2.2.2 with ⟨x, _, hx, _⟩ | ⟨_, j', oj', oj, d, h1, h2, h3, h4, h5, h6⟩
      · simp at hx
      · exact ⟨j', h2, hd.war j' j oj' oj d h1 h3 h4 (.inl ⟨h5, .inl h6⟩)⟩
    have noI : ∀ b q, (∃ j, listed.getD j false = true ∧ role j = some (b, q)) → role i = some (b, q) → False := by
      rintro b q ⟨j, hj, hr⟩ hri
      have : j = i := by cases b with
        | true => exact X.c2 j i q hr hri
        | false => exact X.c4 j i q hr hri
      subst this; rw [hif] at hj; cases hj
    have hsp := X.spec i o (Nat.zero_le _) hikt ho
    cases hrole : role i with
    | none =>
      rw [hrole] at hsp
      obtain ⟨hq, hlt⟩ := hsp
      refine opQ_lift hq hI.rel hI.H hHl (fun t ht => ?_) fun v E' hv hH' hh tr => next v E' hv ?_ hh tr
      · have h1 := opn t ht
        have h2 := hlt t ht
        have e := lF t
        exact ⟨by rw [e]; exact h1, h2⟩
      · rw [hH']
        congr 2
        funext q
        have e : ∀ b, (∃ i, listed.getD i false = true ∧ role i = some (b, q)) ↔ ∃ j, (listed.setIfInBounds i true).getD j false = true ∧ role j = some (b, q) := fun b => by
          rw [setS q b, hrole]; simp
        exact gS_congr (e false) (e true) rfl rfl rfl
    | some bp =>
      obtain ⟨b, p⟩ := bp
      rw [hrole] at hsp
      have getM : ∀ (g : Nat → O), p < M → ((List.range M).map g)[p]? = some (g p) := fun g hp => by simp [hp]
      cases b with
      | true =>
        have hpM := (X.c1 i p hrole).2.2.2
        have n1 : ¬ ∃ j, listed.getD j false = true ∧ role j = some (false, p) := by
          rintro ⟨j, hj, hr⟩
          obtain ⟨j', h1, h2⟩ := maker j p hr
          have : j' = i := X.c2 j' i p h1 hrole
          subst this
          exact later j h2 hj
        have n2 : ¬ ∃ j, listed.getD j false = true ∧ role j = some (true, p) := fun h => noI true p h hrole
        have hg : gS z f (baseN []) role (fun j => listed.getD j false = true) p = .cells 0 0 [] := by
          rw [gS_b n1 n2]; rfl
        refine hsp a E _ hI.rel hI.H (by rw [getM _ hpM, hg]) (fun t ht => by have := opn t (.inl ht); rwa [← lF t] at this) _ Q fun v E' hv hH' hh tr => next v E' hv ?_ hh tr
        rw [hH']
        congr 1
        refine (range_set hpM ?_ fun q hq => ?_).symm
        · exact gS_z (fun h => ((setS p false).1 h).elim (fun e => by rw [hrole] at e; cases e) n1) ((setS p true).2 (.inl hrole))
        · have e : ∀ b, (∃ j, (listed.setIfInBounds i true).getD j false = true ∧ role j = some (b, q)) ↔ ∃ i, listed.getD i false = true ∧ role i = some (b, q) := fun b => by
            rw [setS q b, hrole]
            constructor
            · rintro (h | h)
              · simp at h; exact (hq h.2.symm).elim
              · exact h
            · exact .inr
          exact gS_congr (e false) (e true) rfl rfl rfl
      | false =>
        have hpM := (X.c3 i p hrole).2.2.1
        have n1 : ¬ ∃ j, listed.getD j false = true ∧ role j = some (false, p) := fun h => noI false p h hrole
        have n2 : ∃ j, listed.getD j false = true ∧ role j = some (true, p) := by
          obtain ⟨j', h1, h2⟩ := maker i p hrole
          exact ⟨j', sooner j' h2, h1⟩
        have hg : gS z f (baseN []) role (fun j => listed.getD j false = true) p = z p := by
          rw [gS_z n1 n2]
        refine hsp a E _ hI.rel hI.H (by rw [getM _ hpM, hg]) (fun t ht => by have := opn t (.inl ht); rwa [← lF t] at this) _ Q fun v E' hv hH' hh tr => next v E' hv ?_ hh tr
        rw [hH']
        congr 1
        refine (range_set hpM ?_ fun q hq => ?_).symm
        · exact gS_f ((setS p false).2 (.inl hrole))
        · have e : ∀ b, (∃ j, (listed.setIfInBounds i true).getD j false = true ∧ role j = some (b, q)) ↔ ∃ i, listed.getD i false = true ∧ role i = some (b, q) := fun b => by
            rw [setS q b, hrole]
            constructor
            · rintro (h | h)
              · simp at h; exact (hq h.2.symm).elim
              · exact h
            · exact .inr
          exact gS_congr (e false) (e true) rfl rfl rfl

end Go.Lz
