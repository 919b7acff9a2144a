/- LzM: regions that draw their order in which calls turn objects: sound. -/
import Derived.Test.YtakkdadfikcpoaaDoorLz12
namespace Go.Lz
set_option linter.unusedVariables false
set_option linter.unusedSimpArgs false

/-- What an operation does, whatever the place: a value, and the objects behind it. -/
def OpE (P : Program) (all : Array Oper) (H H1 : List O) (i : Nat) (o : Oper) (l : Nat → V) (x : V) : Prop :=
  ∀ (a : Act) (E : Env), HRel E → E.H = H → (∀ t, t ∈ namesOf o → VRel E (l t) (a.tmps.getD t undef)) →
    ∀ (K : Act → World → Prop) (Q : Exit → Act → World → Prop), (∀ v E', VRel E' x v → E'.H = H1 → HRel E' → Trans E E' → K (a.put o.dst v) E'.w) → wpOp P all Q i K a E.w

theorem opE_user {P : Program} {all : Array Oper} {i : Nat} {o : Oper} {st : St} {H1 : List O} {x : V} {f : Operand} {args : Array Operand} {ats : Array TypeId} {g : FuncId} {cap : List C} (hi : all[i]? = some o) (hg : o.guard = none)
    (hop : o.op = .call { callee := .value f, args, argTypes := ats }) (hf : st.ρ f = .one (.fn g cap)) (hc : Ct P g (args.toList.map st.ρ ++ cap.map V.one) st.H (fun v H' => v = x ∧ H' = H1)) : OpE P all st.H H1 i o (look st.t) x := by
  intro a E hE hH hl Kn Q hn
  have hwant : Region.wanted o (yielded all a.tmps) = true := by simp [Region.wanted, hg]
  simp only [wpOp, hi, hwant, if_true]
  have hρ : ∀ y ∈ o.op.operands, VRel E (st.ρ y) (a.eval y) := by
    intro y hy
    cases y with
    | tmp t => exact hl t (by simp only [namesOf, List.mem_filterMap]; exact ⟨.tmp t, by simpa using hy, rfl⟩)
    | const v => exact V.ofV_rel E v
    | global g => exact .un
    | func f => exact .one (.fn rfl (by simp))
  have hfr := hρ f (by simp [hop, Op.operands, Call.operands])
  rw [hf] at hfr
  obtain ⟨vs, hv, hvn, hvr⟩ := fn_inv hfr
  left
  unfold Oper.wp
  rw [callee_run hop hv hc.1]
  have hsz : (args.map a.eval ++ vs).size = (args.toList.map st.ρ ++ cap.map V.one).length := by simp [hvn]
  refine Calls.mono (hc.2 E (args.map a.eval ++ vs) hE hH hsz fun j y hj => ?_) ?_
  · rw [List.getElem?_append] at hj
    split at hj
    · rename_i hlt
      simp at hlt
      simp only [List.getElem?_map, Option.map_eq_some_iff] at hj
      obtain ⟨p, hp, rfl⟩ := hj
      have hp' : args[j]? = some p := by simpa using hp
      have : (args.map a.eval ++ vs).getD j undef = a.eval p := by
        rw [Array.getD_eq_getD_getElem?, Array.getElem?_append_left (by simpa using hlt), Array.getElem?_map, hp']; rfl
      rw [this]
      refine hρ p ?_
      simp only [hop, Op.operands, Call.operands]
      exact Array.mem_append.2 (.inr (Array.mem_of_getElem? hp'))
    · rename_i hlt
      simp at hlt
      simp only [List.getElem?_map, Option.map_eq_some_iff, List.length_map, Array.length_toList] at hj
      obtain ⟨c, hc, rfl⟩ := hj
      have : (args.map a.eval ++ vs).getD j undef = vs.getD (j - args.size) undef := by
        rw [Array.getD_eq_getD_getElem?, Array.getD_eq_getD_getElem?, Array.getElem?_append_right (by simpa using hlt)]; simp
      rw [this]; exact .one (hvr _ c hc)
  · rintro e w' ⟨v, y, E', rfl, rfl, ⟨rfl, hH'⟩, hx, hh, tr⟩
    exact hn v E' hx hH' hh tr
theorem opE_step {P : Program} {all : Array Oper} {i : Nat} {o : Oper} {st : St} {H : List O} (hi : all[i]? = some o) (hg : o.guard = none) (hp : (stepF P o.pos o.op st.ρ H).pre) :
    OpE P all H (stepF P o.pos o.op st.ρ H).h i o (look st.t) (stepF P o.pos o.op st.ρ H).v := by
  intro a E hE hH hl Kn Q hn
  have hwant : Region.wanted o (yielded all a.tmps) = true := by simp [Region.wanted, hg]
  have hst : st.ρ = (fun x => match x with | .tmp i => look st.t i | .const v => V.ofV v | .func f => .one (.fn f []) | .global _ => .un) := by
    funext x; cases x <;> rfl
  rw [hst, ← hH] at hp
  rw [hst, ← hH] at hn
  simp only [wpOp, hi, hwant, if_true]
  left
  obtain ⟨_, hwp⟩ := step_okQ (P := P) (o := o) (a := a) hE (fun t ht => hl t ht) hp
  exact hwp Kn Q fun v E' hv hH' hh tr => hn v E' hv hH' hh tr

/-- What is known of operation i. -/
structure FloAt (P : Program) (all : Array Oper) (S Fl FE : List Nat) (l : Nat → V) (T : Nat → V) (Hs : Nat → List O) (i : Nat) (o : Oper) : Prop where
  eff : effAt all i = true → OpE P all (Hs i) (Hs (i + 1)) i o l (T i)
  ag : FE.contains i = true → agree S (Hs i) (Hs (i + 1))
  quiet : effAt all i = false → Hs (i + 1) = Hs i
  one : effAt all i = false → OpE P all (Hs i) (Hs i) i o l (T i)
  flo : effAt all i = false → Fl.contains i = true → ∀ H', agree S (Hs i) H' → OpE P all H' H' i o l (T i)

theorem preTab_spec {ops : Array Oper} {i j : Nat} (h : i ∈ (preTab ops.toList).getD j []) : Before ops i j :=
  preTab_go ops ops.toList [] 0 rfl (fun m => by simp) (fun j i hi => by simp at hi) j i (by simpa [preTab] using h)
theorem floB_spec {all : Array Oper} (h : floB all = true) : (∀ (j : Nat) (o : Oper), all[j]? = some o → o.guard = none) ∧ ∀ (i j : Nat), i < j → j < all.size → effAt all i = true → effAt all j = true → ((preTab all.toList).getD j []).contains i = true := by
  unfold floB at h
  rw [List.all_eq_true] at h
  refine ⟨fun j o hj => ?_, fun i j hij hj hi hje => ?_⟩
  · have hlt : j < all.size := (Array.getElem?_eq_some_iff.1 hj).1
    have := h j (List.mem_range.2 hlt)
    simp only [hj, Bool.and_eq_true] at this
    simpa using this.1
  · have := h j (List.mem_range.2 hj)
    rw [Bool.and_eq_true] at this
    have h2 := this.2
    rw [hje] at h2
    simp only [Bool.not_true, Bool.false_or, List.all_eq_true] at h2
    have := h2 i (List.mem_range.2 hij)
    simpa [hi] using this

theorem flo_extract {P : Program} {all : Array Oper} {S Fl FE : List Nat} {K : St → Prop} (hg : ∀ (j : Nat) (o : Oper), all[j]? = some o → o.guard = none) : ∀ (rest : List Oper) (k : Nat) (st : St), (∀ m, rest[m]? = all[k + m]?) → k + rest.length = all.size → awpF P S Fl FE k rest st K →
    ∃ (T : Nat → V) (Hs : Nat → List O) (stE : St), Hs k = st.H ∧ (∀ (i : Nat) (o : Oper), k ≤ i → all[i]? = some o → FloAt P all S Fl FE (fun t => tvF all T (look st.t) k t (i - k)) T Hs i o) ∧ K stE ∧ stE.H = Hs all.size ∧ ∀ t, look stE.t t = tvF all T (look st.t) k t (all.size - k)
  | [], k, st, hr, hn, h => by
    simp at hn
    refine ⟨fun _ => .un, fun _ => st.H, st, rfl, fun i o hi ho => ?_, h, rfl, fun t => ?_⟩
    · have := (Array.getElem?_eq_some_iff.1 ho).1; omega
    · rw [hn, Nat.sub_self]; rfl
  | o :: rest, k, st, hr, hn, h => by
    have ho : all[k]? = some o := by have := hr 0; simpa using this.symm
    have hr' : ∀ m, rest[m]? = all[k + 1 + m]? := fun m => by have := hr (m + 1); simpa [Nat.add_assoc, Nat.add_comm 1 m] using this
    have hn' : k + 1 + rest.length = all.size := by simp at hn; omega
    have hgk := hg k o ho
    have hix : all.size - (rest.length + 1) = k := by omega
    have heff : effAt all k = effF o.op := by simp [effAt, ho]
    -- the operation, and what is behind it
    obtain ⟨x, H1, hE, hA, hQ, hO, hF, hrest⟩ : ∃ x H1, (effF o.op = true → OpE P all st.H H1 k o (look st.t) x) ∧ (FE.contains k = true → agree S st.H H1) ∧ (effF o.op = false → H1 = st.H) ∧ (effF o.op = false → OpE P all st.H st.H k o (look st.t) x) ∧
        (effF o.op = false → Fl.contains k = true → ∀ H', agree S st.H H' → OpE P all H' H' k o (look st.t) x) ∧ awpF P S Fl FE (k + 1) rest (st.put o.dst x H1) K := by
      simp only [awpF] at h
      cases he : effF o.op with
      | true =>
        rw [he] at h
        simp only at h
        split at h
        · rename_i f args ats hop
          split at h
          · rename_i g cap hf
            obtain ⟨x, H1, hc, ha, hk⟩ := h
            exact ⟨x, H1, fun _ => opE_user ho hgk hop hf hc, ha, fun h => (by cases h), fun h => (by cases h), fun h => (by cases h), hk⟩
          · exact h.elim
        · obtain ⟨hp, ha, hk⟩ := h
          exact ⟨_, _, fun _ => opE_step ho hgk hp, ha, fun h => (by cases h), fun h => (by cases h), fun h => (by cases h), hk⟩
      | false =>
        rw [he] at h
        simp only at h
        obtain ⟨hp, hh, hfl, hk⟩ := h
        refine ⟨_, st.H, fun h => (by cases h), fun _ _ _ => rfl, fun _ => rfl, fun _ => ?_, fun _ hf H' hag => ?_, hk⟩
        · have := opE_step (st := st) ho hgk hp
          rwa [hh] at this
        · obtain ⟨q1, q2, q3⟩ := hfl hf H' hag
          have := opE_step (st := st) ho hgk q1
          rwa [q2, q3] at this
    obtain ⟨T, Hs, stE, e1, e2, e3, e4, e5⟩ := flo_extract hg rest (k + 1) (st.put o.dst x H1) hr' hn' hrest
    have hput : ∀ t, look (st.put o.dst x H1).t t = if (all[k]?).bind (·.dst) = some t then x else look st.t t := fun t => by rw [look_put, ho]; rfl
    have e1' : Hs (k + 1) = H1 := by rw [e1]; cases o.dst <;> rfl
    refine ⟨fun i => if i = k then x else T i, fun i => if i = k then st.H else Hs i, stE, by simp, fun i oi hi hoi => ?_, e3, ?_, fun t => ?_⟩
    · by_cases hik : i = k
      · subst hik
        rw [ho] at hoi; cases hoi
        have l0 : (fun t => tvF all (fun j => if j = i then x else T j) (look st.t) i t (i - i)) = look st.t := by funext t; rw [Nat.sub_self]; rfl
        rw [l0]
        have n1 : i + 1 ≠ i := by omega
        refine ⟨fun h => ?_, fun ha => ?_, fun h => ?_, fun h => ?_, fun h hf H' hag => ?_⟩
        · simp only [if_true, if_neg n1, e1']; exact hE (by rw [← heff]; exact h)
        · simp only [if_true, if_neg n1, e1']; exact hA ha
        · simp only [if_true, if_neg n1, e1']; exact hQ (by rw [← heff]; exact h)
        · simp only [if_true]; exact hO (by rw [← heff]; exact h)
        · simp only [if_true] at hag ⊢; exact hF (by rw [← heff]; exact h) hf H' hag
      · have hlt : k + 1 ≤ i := by omega
        have F := e2 i oi hlt hoi
        have lE : (fun t => tvF all (fun j => if j = k then x else T j) (look st.t) k t (i - k)) = fun t => tvF all T (look (st.put o.dst x H1).t) (k + 1) t (i - (k + 1)) := by
          funext t
          rw [show i - k = (i - (k + 1)) + 1 by omega, tvF_shift]
          simp only [if_true]
          rw [tvF_congr (l' := look (st.put o.dst x H1).t) (fun t => (hput t).symm)]
          exact tvF_congrT fun m hm => by rw [if_neg (by omega)]
        rw [lE]
        have n1 : i + 1 ≠ k := by omega
        refine ⟨fun h => ?_, fun ha => ?_, fun h => ?_, fun h => ?_, fun h hf H' hag => ?_⟩
        · simp only [if_neg hik, if_neg n1]; exact F.eff h
        · simp only [if_neg hik, if_neg n1]; exact F.ag ha
        · simp only [if_neg hik, if_neg n1]; exact F.quiet h
        · simp only [if_neg hik]; exact F.one h
        · simp only [if_neg hik] at hag ⊢; exact F.flo h hf H' hag
    · have : all.size ≠ k := by have := (Array.getElem?_eq_some_iff.1 ho).1; omega
      simp only [if_neg this]; exact e4
    · rw [e5]
      have hlt := (Array.getElem?_eq_some_iff.1 ho).1
      rw [show all.size - k = (all.size - (k + 1)) + 1 by omega, tvF_shift]
      simp only [if_true]
      rw [tvF_congr (l' := look (st.put o.dst x H1).t) (fun t => (hput t).symm)]
      exact (tvF_congrT fun m hm => by rw [if_neg (by omega)]).symm

theorem flo_any {P : Program} {ctx : Env} {n : Nat} {ops : Array Oper} {T l0 : Nat → V} {S Fl FE : List Nat} {Hs : Nat → List O} {Q : Exit → Act → World → Prop} (hd : DrawOk ops) (hfb : floB ops = true) (hfl0 : floL ops Fl FE = true) (hok : ∀ o ∈ ops.toList, ∀ d, o.dst = some d → d < n)
    (X : ∀ (i : Nat) (o : Oper), ops[i]? = some o → FloAt P ops S Fl FE (fun t => tv ops T l0 (fun _ => True) t i) T Hs i o)
    (hQ : ∀ (a : Act) (E : Env), n ≤ a.tmps.size → a.defers = [] → HRel E → E.H = Hs ops.size → Trans ctx E → (∀ t, VRel E (tv ops T l0 (fun _ => True) t ops.size) (a.tmps.getD t undef)) → Q .normal a E.w) :
    ∀ (fuel : Nat) (listed : Array Bool) (a : Act) (E : Env), unl listed ≤ fuel → listed.size = ops.size → (∀ (j : Nat) (o : Oper), ops[j]? = some o → listed.getD j false = true → ∀ e ∈ o.after, Region.binds .any e = true → listed.getD e.on false = true) →
      n ≤ a.tmps.size → a.defers = [] → HRel E → (∃ m, m ≤ ops.size ∧ E.H = Hs m ∧ (∀ e, e < m → effAt ops e = true → listed.getD e false = true) ∧ ∀ e, m ≤ e → effAt ops e = true → listed.getD e false = false) → Trans ctx E →
      (∀ t, VRel E (tv ops T l0 (fun j => listed.getD j false = true) t ops.size) (a.tmps.getD t undef)) → wpAny P .any ops Q fuel listed a E.w := by
  obtain ⟨hg, hchain⟩ := floB_spec hfb
  have dstOf : ∀ {j t : Nat}, (ops[j]?).bind (·.dst) = some t → ∃ oj, ops[j]? = some oj ∧ oj.dst = some t := by
    intro j t h
    cases hj : ops[j]? with
    | none => simp [hj] at h
    | some oj => simp [hj] at h; exact ⟨oj, rfl, h⟩
  have pre : ∀ {i j : Nat}, ((preTab ops.toList).getD j []).contains i = true → Before ops i j := fun {i j} h => preTab_spec (by simpa using h)
  have before_lt : ∀ {i j : Nat}, Before ops i j → i < j := by
    intro i j h
    have one : ∀ {i j : Nat}, directB ops i j = true → i < j := fun {i j} hdir => by
      obtain ⟨o, ho, e, he, hb, rfl⟩ := directB_spec hdir
      exact hd.back j o ho e he hb
    induction h with
    | one h => exact one h
    | trans h h2 ih => exact Nat.lt_trans ih (one h2)
  have const : ∀ {a b : Nat}, a ≤ b → b ≤ ops.size → (∀ e, a ≤ e → e < b → effAt ops e = false) → Hs b = Hs a := by
    intro a b hab
    induction hab with
    | refl => intro _ _; rfl
    | @step b hab ih =>
      intro hb hq
      have hb' : b < ops.size := hb
      have := (X b ops[b] (by simp [hb'])).quiet (hq b hab (Nat.lt_succ_self b))
      rw [this]
      exact ih (Nat.le_of_lt hb') fun e h1 h2 => hq e h1 (Nat.lt_succ_of_lt h2)
  have flE : ∀ e, e < ops.size → effAt ops e = true → floE ops e = true → FE.contains e = true := fun e he hee hf => by
    unfold floL at hfl0
    have := List.all_eq_true.1 hfl0 e (List.mem_range.2 he)
    rw [hee, hf] at this
    simpa using this
  have flQ : ∀ i, i < ops.size → effAt ops i = false → floQ ops i = true → Fl.contains i = true := fun i hi hie hf => by
    unfold floL at hfl0
    have := List.all_eq_true.1 hfl0 i (List.mem_range.2 hi)
    rw [hie, hf] at this
    simpa using this
  have agc : ∀ {a b : Nat}, a ≤ b → b ≤ ops.size → (∀ e, a ≤ e → e < b → effAt ops e = true → floE ops e = true) → ∀ i ∈ S, (Hs b)[i]? = (Hs a)[i]? := by
    intro a b hab
    induction hab with
    | refl => intro _ _ i _; rfl
    | @step b hab ih =>
      intro hb hq i hi
      have hb' : b < ops.size := hb
      have hX := X b ops[b] (by simp [hb'])
      have : (Hs (b + 1))[i]? = (Hs b)[i]? := by
        cases hee : effAt ops b with
        | true => exact hX.ag (flE b hb' hee (hq b hab (Nat.lt_succ_self b) hee)) i hi
        | false => rw [hX.quiet hee]
      rw [this]
      exact ih (Nat.le_of_lt hb') (fun e h1 h2 => hq e h1 (Nat.lt_succ_of_lt h2)) i hi
  have fin : ∀ (listed : Array Bool) (a : Act) (E : Env), n ≤ a.tmps.size → a.defers = [] → HRel E → (∃ m, m ≤ ops.size ∧ E.H = Hs m ∧ (∀ e, e < m → effAt ops e = true → listed.getD e false = true) ∧ ∀ e, m ≤ e → effAt ops e = true → listed.getD e false = false) → Trans ctx E →
      (∀ t, VRel E (tv ops T l0 (fun j => listed.getD j false = true) t ops.size) (a.tmps.getD t undef)) → (∀ i, i < ops.size → listed.getD i false = true) → Q .normal a E.w := by
    rintro listed a E hlen hdf hE ⟨m, hm, hH, h1, h2⟩ tr htm hall
    refine hQ a E hlen hdf hE ?_ tr fun t => ?_
    · rw [hH]
      refine (const hm (Nat.le_refl _) fun e he hlt => ?_).symm
      cases hef : effAt ops e with
      | false => rfl
      | true => have := h2 e he hef; rw [hall e hlt] at this; cases this
    · have := htm t
      rwa [tv_agree (fun j hj _ => hall j hj)] at this
  have nil : ∀ (listed : Array Bool), listed.size = ops.size → Region.ready .any ops listed = [] → ∀ i, i < ops.size → listed.getD i false = true := by
    intro listed hs hr j
    induction j using Nat.strongRecOn with
    | _ j ihj =>
      intro hj
      cases hl : listed.getD j false with
      | true => rfl
      | false =>
        have hmem : j ∈ Region.ready .any ops listed := by
          rw [mem_ready]
          refine ⟨by simp only [Array.getD_eq_getD_getElem?] at hl ⊢; rw [Array.getElem?_eq_getElem (by rw [hs]; exact hj)] at hl ⊢; simpa using hl, ops[j], by simp [hj], fun e he hb => ?_⟩
          have hlt := hd.back j ops[j] (by simp [hj]) e he hb
          exact ihj e.on hlt (by omega)
        rw [hr] at hmem; cases hmem
  intro fuel
  induction fuel with
  | zero =>
    intro listed a E hu hs hc hlen hdf hE hm tr htm
    have hall : ∀ i, i < ops.size → listed.getD i false = true := fun i hi => unl_zero (by omega) (by rw [hs]; exact hi)
    refine ⟨?_, fin listed a E hlen hdf hE hm tr htm hall⟩
    apply List.eq_nil_iff_forall_not_mem.2
    intro i hi
    rw [mem_ready] at hi
    obtain ⟨h1, o, ho, _⟩ := hi
    have hlt := (Array.getElem?_eq_some_iff.1 ho).1
    have h2 := hall i hlt
    simp only [Array.getD_eq_getD_getElem?, Array.getElem?_eq_getElem (show i < listed.size by rw [hs]; exact hlt)] at h1 h2
    simp_all
  | succ fuel ih =>
    intro listed a E hu hs hc hlen hdf hE hm tr htm
    refine ⟨fun hr => fin listed a E hlen hdf hE hm tr htm (nil listed hs hr), fun i hi => ?_⟩
    rw [mem_ready] at hi
    obtain ⟨hi0, o, ho, hafter⟩ := hi
    have hilt : i < ops.size := (Array.getElem?_eq_some_iff.1 ho).1
    have hils : i < listed.size := by rw [hs]; exact hilt
    have hif : listed.getD i false = false := by
      simp only [Array.getD_eq_getD_getElem?, Array.getElem?_eq_getElem hils] at hi0 ⊢; simpa using hi0
    have hod : ∀ d, o.dst = some d → d < n := hok o (List.mem_of_getElem? (by simpa using ho))
    have later : ∀ j, directB ops i j = true → listed.getD j false = true → False := by
      intro j hdir hl
      obtain ⟨oj, hoj, e, he, hb, rfl⟩ := directB_spec hdir
      have := hc j oj hoj hl e he hb
      rw [hif] at this; cases this
    have sooner : ∀ j, directB ops j i = true → listed.getD j false = true := by
      intro j hdir
      obtain ⟨oi, hoi, e, he, hb, rfl⟩ := directB_spec hdir
      rw [ho] at hoi; cases hoi
      exact hafter e he hb
    have opn : ∀ t, t ∈ namesOf o → VRel E (tv ops T l0 (fun _ => True) t i) (a.tmps.getD t undef) := by
      intro t ht
      have h1 : tv ops T l0 (fun j => listed.getD j false = true) t ops.size = tv ops T l0 (fun j => listed.getD j false = true) t i := by
        refine tv_skip (Nat.le_of_lt hilt) fun j hij hj hdj hl => ?_
        obtain ⟨oj, hoj, hdj⟩ := dstOf hdj
        rcases Nat.lt_or_eq_of_le hij with hlt | rfl
        · exact later j (hd.war i j o oj t hlt ho hoj (.inr ⟨hdj, .inl ht⟩)) hl
        · rw [hif] at hl; cases hl
      have h2 : tv ops T l0 (fun j => listed.getD j false = true) t i = tv ops T l0 (fun _ => True) t i := by
        refine tv_agree fun j hj hdj => ?_
        obtain ⟨oj, hoj, hdj⟩ := dstOf hdj
        exact sooner j (hd.war j i oj o t hj hoj ho (.inl ⟨hdj, .inl ht⟩))
      have := htm t
      rw [h1, h2] at this
      exact this
    have next : ∀ v E', VRel E' (T i) v → (∃ m, m ≤ ops.size ∧ E'.H = Hs m ∧ (∀ e, e < m → effAt ops e = true → (listed.setIfInBounds i true).getD e false = true) ∧ ∀ e, m ≤ e → effAt ops e = true → (listed.setIfInBounds i true).getD e false = false) →
        HRel E' → Trans E E' → wpAny P .any ops Q fuel (listed.setIfInBounds i true) (a.put o.dst v) E'.w := by
      intro v E' hv hm' hh tr'
      refine ih (listed.setIfInBounds i true) (a.put o.dst v) E' (by have := unl_set hils hi0; omega) (by simp [hs]) ?_ ?_ ?_ hh hm' (tr.trans tr') ?_
      · intro j oj hoj hl e he hb
        rw [getD_set hils] at hl ⊢
        rw [Bool.or_eq_true] at hl ⊢
        rcases hl with hl | hl
        · have : i = j := by simpa using hl
          subst this
          rw [ho] at hoj; cases hoj
          exact .inr (hafter e he hb)
        · exact .inr (hc j oj hoj hl e he hb)
      · cases hdd : o.dst <;> simpa [Act.put, hdd] using hlen
      · cases hdd : o.dst <;> simpa [Act.put, hdd] using hdf
      · intro t
        by_cases hdt : o.dst = some t
        · have htn := hod t hdt
          have hlt : t < a.tmps.size := Nat.lt_of_lt_of_le htn hlen
          rw [hdt, getD_put hlt, if_pos rfl]
          have h1 : tv ops T l0 (fun j => (listed.setIfInBounds i true).getD j false = true) t ops.size = tv ops T l0 (fun j => (listed.setIfInBounds i true).getD j false = true) t (i + 1) := by
            refine tv_skip hilt fun j hij hj hdj hl => ?_
            obtain ⟨oj, hoj, hdj⟩ := dstOf hdj
            rw [getD_set hils, Bool.or_eq_true] at hl
            rcases hl with hl | hl
            · have : i = j := by simpa using hl
              omega
            · exact later j (hd.war i j o oj t (by omega) ho hoj (.inl ⟨hdt, .inr (.inl hdj)⟩)) hl
          rw [h1, tv, if_pos ⟨by rw [getD_set hils]; simp, by simp [ho, hdt]⟩]
          exact hv
        · have h1 : tv ops T l0 (fun j => (listed.setIfInBounds i true).getD j false = true) t ops.size = tv ops T l0 (fun j => listed.getD j false = true) t ops.size := by
            refine tv_congr fun j hj hdj => ?_
            obtain ⟨oj, hoj, hdj⟩ := dstOf hdj
            have hne : i ≠ j := by rintro rfl; rw [ho] at hoj; cases hoj; exact hdt hdj
            rw [getD_set hils]; simp [hne]
          rw [h1]
          have : (a.put o.dst v).tmps.getD t undef = a.tmps.getD t undef := by
            cases hdd : o.dst with
            | none => rfl
            | some d => rw [getD_put (Nat.lt_of_lt_of_le (hod d hdd) hlen), if_neg (by rintro rfl; exact hdt hdd)]
          rw [this]
          exact (htm t).trans tr'
    obtain ⟨m, hmle, hH, h1, h2⟩ := hm
    have Xi := X i o ho
    have setE : ∀ e, effAt ops e = true → e ≠ i → (listed.setIfInBounds i true).getD e false = listed.getD e false := fun e _ hne => by rw [getD_set hils]; simp [Ne.symm hne]
    cases hef : effAt ops i with
    | true =>
      have below : ∀ e, e < i → effAt ops e = true → listed.getD e false = true := fun e he hee => (pre (hchain e i he hilt hee hef)).ready hc ho hafter
      have above : ∀ e, i < e → effAt ops e = true → listed.getD e false = false := fun e he hee => by
        cases hl : listed.getD e false with
        | false => rfl
        | true =>
          have hes : e < ops.size := by
            unfold effAt at hee
            cases hoe : ops[e]? with
            | none => rw [hoe] at hee; cases hee
            | some oe => exact (Array.getElem?_eq_some_iff.1 hoe).1
          have := (pre (hchain i e he hes hef hee)).listed hc hl
          rw [hif] at this; cases this
      have hHi : E.H = Hs i := by
        rw [hH]
        rcases Nat.le_total m i with h | h
        · refine (const h (Nat.le_of_lt hilt) fun e he hlt => ?_).symm
          cases hee : effAt ops e with
          | false => rfl
          | true => have := h2 e he hee; rw [below e hlt hee] at this; cases this
        · refine const h hmle fun e he hlt => ?_
          cases hee : effAt ops e with
          | false => rfl
          | true =>
            have := h1 e hlt hee
            rcases Nat.lt_or_eq_of_le he with hx | hx
            · rw [above e hx hee] at this; cases this
            · rw [← hx, hif] at this; cases this
      refine Xi.eff hef a E hE hHi opn _ Q fun v E' hv hH' hh tr' => next v E' hv ⟨i + 1, hilt, hH', fun e he hee => ?_, fun e he hee => ?_⟩ hh tr'
      · by_cases hei : e = i
        · subst hei; rw [getD_set hils]; simp
        · rw [setE e hee hei]; exact below e (by omega) hee
      · rw [setE e hee (by omega)]; exact above e (by omega) hee
    | false =>
      have keep : ∃ m, m ≤ ops.size ∧ Hs m = Hs m ∧ (∀ e, e < m → effAt ops e = true → (listed.setIfInBounds i true).getD e false = true) ∧ ∀ e, m ≤ e → effAt ops e = true → (listed.setIfInBounds i true).getD e false = false :=
        ⟨m, hmle, rfl, fun e he hee => by rw [setE e hee (by rintro rfl; rw [hef] at hee; cases hee)]; exact h1 e he hee, fun e he hee => by rw [setE e hee (by rintro rfl; rw [hef] at hee; cases hee)]; exact h2 e he hee⟩
      have keep' : ∀ E' : Env, E'.H = Hs m → ∃ m, m ≤ ops.size ∧ E'.H = Hs m ∧ (∀ e, e < m → effAt ops e = true → (listed.setIfInBounds i true).getD e false = true) ∧ ∀ e, m ≤ e → effAt ops e = true → (listed.setIfInBounds i true).getD e false = false := fun E' hE' =>
        ⟨m, hmle, hE', fun e he hee => by rw [setE e hee (by rintro rfl; rw [hef] at hee; cases hee)]; exact h1 e he hee, fun e he hee => by rw [setE e hee (by rintro rfl; rw [hef] at hee; cases hee)]; exact h2 e he hee⟩
      cases hfl : floQ ops i with
      | true =>
        have incomp : ∀ e, e < ops.size → effAt ops e = true → ¬ Before ops e i → ¬ Before ops i e → floE ops e = true := by
          intro e hes hee n1 n2
          unfold floE
          rw [List.any_eq_true]
          refine ⟨i, List.mem_range.2 hilt, ?_⟩
          have c1 : ((preTab ops.toList).getD i []).contains e = false := by
            cases hx : ((preTab ops.toList).getD i []).contains e with
            | false => rfl
            | true => exact (n1 (pre hx)).elim
          have c2 : ((preTab ops.toList).getD e []).contains i = false := by
            cases hx : ((preTab ops.toList).getD e []).contains i with
            | false => rfl
            | true => exact (n2 (pre hx)).elim
          simp only [hef, c1, c2, Bool.not_false, Bool.and_self]
        have hag : agree S (Hs i) (Hs m) := by
          intro q hq
          rcases Nat.le_total m i with h | h
          · refine (agc h (Nat.le_of_lt hilt) (fun e he hlt hee => incomp e (by omega) hee (fun hb => ?_) (fun hb => ?_)) q hq).symm
            · have := hb.ready hc ho hafter; rw [h2 e he hee] at this; cases this
            · have := before_lt hb; omega
          · refine agc h hmle (fun e he hlt hee => incomp e (by omega) hee (fun hb => ?_) (fun hb => ?_)) q hq
            · have := before_lt hb; omega
            · have := hb.listed hc (h1 e hlt hee); rw [hif] at this; cases this
        exact Xi.flo hef (flQ i hilt hef hfl) (Hs m) hag a E hE hH opn _ Q fun v E' hv hH' hh tr' => next v E' hv (keep' E' hH') hh tr'
      | false =>
        have comp : ∀ e, effAt ops e = true → Before ops e i ∨ Before ops i e := by
          intro e hee
          have hes : e < ops.size := by
            unfold effAt at hee
            cases hoe : ops[e]? with
            | none => rw [hoe] at hee; cases hee
            | some oe => exact (Array.getElem?_eq_some_iff.1 hoe).1
          unfold floQ at hfl
          rw [List.any_eq_false] at hfl
          have := hfl e (List.mem_range.2 hes)
          rw [hee] at this
          by_cases hx : ((preTab ops.toList).getD i []).contains e = true
          · exact .inl (pre hx)
          · refine .inr (pre ?_)
            cases hy : ((preTab ops.toList).getD e []).contains i with
            | true => rfl
            | false =>
              exfalso; apply this
              simp only [Bool.not_eq_true] at hx
              simp only [hx, hy, Bool.not_false, Bool.and_self]
        have hHi : Hs m = Hs i := by
          rcases Nat.le_total m i with h | h
          · refine (const h (Nat.le_of_lt hilt) fun e he hlt => ?_).symm
            cases hee : effAt ops e with
            | false => rfl
            | true =>
              have h3 := h2 e he hee
              rcases comp e hee with hb | hb
              · have := hb.ready hc ho hafter; rw [h3] at this; cases this
              · have := before_lt hb; omega
          · refine const h hmle fun e he hlt => ?_
            cases hee : effAt ops e with
            | false => rfl
            | true =>
              have h3 := h1 e hlt hee
              rcases comp e hee with hb | hb
              · have := before_lt hb; omega
              · have := hb.listed hc h3; rw [hif] at this; cases this
        have one := Xi.one hef
        rw [← hHi] at one
        exact one a E hE hH opn _ Q fun v E' hv hH' hh tr' => next v E' hv (keep' E' hH') hh tr'
theorem flo_ok {P : Program} {ctx : Env} {n : Cf} {id : Nat} {ops : Array Oper} {st : St} {a : Act} {E : Env} {K : St → Prop} {S Fl FE : List Nat} {Q : Exit → Act → World → Prop} (hm : P.follows .mixedOrders = true) (hd : drawB ops = true) (hf : floB ops = true) (hfl : floL ops Fl FE = true)
    (hok : ∀ o ∈ ops.toList, ∀ d, o.dst = some d → d < n.n) (hw : awpF P S Fl FE 0 ops.toList st K) (h : SR ctx n st a E) (hQ : ∀ st' a' E', K st' → SR ctx n st' a' E' → Q .normal a' E'.w) :
    (Code.region id ops true).wp P Q a E.w := by
  have hD := drawB_spec hd
  obtain ⟨T, Hs, stE, e1, e2, e3, e4, e5⟩ := flo_extract (floB_spec hf).1 ops.toList 0 st (fun m => by simp) (by simp) hw
  refine wp_region_any hm ?_
  obtain ⟨t0, hh0⟩ := grow_world h.rel { E.w with drawn := E.w.drawn + 1 } (Nat.le_refl _) rfl rfl rfl (fun _ _ => rfl)
  have X : ∀ (i : Nat) (o : Oper), ops[i]? = some o → FloAt P ops S Fl FE (fun t => tv ops T (look st.t) (fun _ => True) t i) T Hs i o := fun i o ho => by
    have := e2 i o (Nat.zero_le _) ho
    have l : (fun t => tvF ops T (look st.t) 0 t (i - 0)) = fun t => tv ops T (look st.t) (fun _ => True) t i := by funext t; rw [Nat.sub_zero, tvF_zero]
    rwa [l] at this
  have noL : ∀ j, (Array.replicate ops.size false).getD j false = true → False := by
    intro j hl
    simp only [Array.getD_eq_getD_getElem?, Array.getElem?_replicate] at hl
    split at hl <;> simp at hl
  refine flo_any (ctx := ctx) (n := n.n) hD hf hfl hok X (fun a' E' hl hdf hE' hH' tr' htm => hQ stE a' E' e3 ⟨hl, h.hm, hdf, fun t => ?_, hH'.trans e4.symm, hE', tr'⟩) ops.size (Array.replicate ops.size false) a _ ?_ (by simp) ?_ h.len h.defers hh0 ⟨0, Nat.zero_le _, ?_, fun e he => by omega, fun e _ _ => ?_⟩ (h.tr.trans t0) fun t => ?_
  · rw [e5 t, Nat.sub_zero, tvF_zero]; exact htm t
  · simp [unl]
    exact Nat.le_trans (List.countP_le_length) (by simp)
  · exact fun j o _ hl => (noL j hl).elim
  · rw [e1, ← h.H]
  · cases hx : (Array.replicate ops.size false).getD e false with
    | false => rfl
    | true => exact (noL e hx).elim
  · have : tv ops T (look st.t) (fun j => (Array.replicate ops.size false).getD j false = true) t ops.size = look st.t t := by
      rw [tv_skip (i := 0) (Nat.zero_le _) (fun j _ _ _ hl => (noL j hl).elim)]
      rfl
    rw [this]
    exact (h.tm t).trans t0
end Go.Lz
