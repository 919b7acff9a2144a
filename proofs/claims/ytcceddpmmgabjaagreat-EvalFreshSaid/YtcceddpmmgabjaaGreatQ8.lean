/- The parts of a proof: VF, LzC, LzX, VA, V15L, P15L, ST, TL4 -/
import Derived.Test.YtcceddpmmgabjaaGreatQ7
import Derived.Test.YtcceddpmmgabjaaGreatRows
section
/- VF -/
namespace Go.Lz
set_option linter.unusedVariables false
set_option linter.unusedSimpArgs false
open Go.Proofs Go.RowKit
attribute [-go_sem] q_cond g_b gd_b
set_option maxRecDepth 100000
set_option maxHeartbeats 1000000
theorem has1_ok {p : api_Program} {e : api_Expr} {b : Bool} (hwalk : Pu Tryz.prog 194 [.agg (e_api_Program p), .agg (e_api_Expr e), .un] (.one (.bool b))) : Pu Tryz.prog 193 [.un, .one (.iptr (e_api_Program p) 0), .one (.iptr (e_api_Expr e) 0)] (.tup []) := by
  have F := trivial; have R := trivial
  refine pA Tryz.func193 ?_
  simp only [Tryz.f193]
  refine tt ?_
  refine cS hwalk ?_
  exact fin
theorem label0_ok {p : api_Program} {labels : List Int} {e : api_Expr} {lr : List Int} {r : Int} (hall : Pu Tryz.prog 175 [.agg (e_api_Program p), .one (.sl (labels.map eI))] (.one (.sl (lr.map eI))))
    (hwalk : Pu Tryz.prog 194 [.agg (e_api_Program p), .agg (e_api_Expr e), .un] (.one (.bool true))) (hAll : Pu Tryz.prog 177 [.agg (e_api_Lattice p.Lattice), .one (.sl [])] (.one (.int .i64 r))) :
    Pu Tryz.prog 149 [.agg (e_api_Program p), .one (.sl (labels.map eI)), .agg (e_api_Expr e)] (.one (.int .i64 r)) := by
  have F := trivial; have R := trivial
  refine pu_of_scalar (.inl ⟨_, _, rfl⟩) (ct_marks 4 Tryz.func149 fun E a hH hs => ?_)
  simp only [Tryz.f149]
  have hs : SR E ⟨39, 0⟩ ⟨argsT 0 [.agg (e_api_Program p), .one (.sl (labels.map eI)), .agg (e_api_Expr e)], []⟩ a E := hs
  refine step_reg hs (st' := ?s1) ?h1 ?r1
  case h1 =>
    intro K k
    refine tt ?_
    exact k
  case r1 =>
  intro a1 E1 hs1
  refine step_reg hs1 (st' := ?s2) ?h2 ?r2
  case h2 =>
    intro K k
    refine tt ?_
    exact k
  case r2 =>
  intro a2 E2 hs2
  refine step_reg hs2 (st' := ?s3) ?h3 ?r3
  case h3 =>
    intro K k
    refine tt ?_
    refine cS hall ?_
    refine tt ?_
    exact k
  case r3 =>
  intro a3 E3 hs3
  refine step_reg hs3 (st' := ?s4) ?h4 ?r4
  case h4 =>
    intro K k
    refine tt ?_
    exact k
  case r4 =>
  intro a4 E4 hs4
  refine wp_seq ?_
  refine step_reg hs4 (st' := ?s5) ?h5 ?r5
  case h5 =>
    intro K k
    refine tt ?_
    refine iS Tryz.func176 ?_
    simp only [Tryz.f176]
    refine tt ?_
    exact k
  case r5 =>
  intro a5 E5 hs5
  refine wp_block ((wpIn_wide (n := 4)).1 ?_)
  obtain ⟨vs, hv18, hvn, hvr⟩ := fn_inv (hs5.ρ (.tmp 18))
  obtain ⟨v6, hv6⟩ : ∃ v, v = vs.getD 0 undef := ⟨_, rfl⟩
  obtain ⟨v7, hv7⟩ : ∃ v, v = vs.getD 1 undef := ⟨_, rfl⟩
  have c6 := view_ok hs5.rel (hvr 0 _ rfl)
  have c7 := view_ok hs5.rel (hvr 1 _ rfl)
  rw [hs5.H, ← hv6] at c6
  rw [hs5.H, ← hv7] at c7
  simp -implicitDefEqProofs only [go_sem, Nat.reduceAdd, Nat.reduceMul, Nat.reduceLeDiff, Nat.reduceEqDiff, Nat.reduceLT, Int.reduceLE, Int.reduceLT, Int.reduceNeg, Int.reduceEq, Int.reduceAdd, Int.reduceSub, Int.reduceToNat, reduceCtorEq, ↓reduceIte] at c6 c7
  refine wpIn_rangeFunc_ownF (α := Empty) rfl (by omega) hv18 trivial (run_callFunc ⟨Tryz.f193, Tryz.func193, by kernel_rfl, by kernel_rfl⟩) (encs := fun x => x.elim) (Kp := fun _ _ => True) (S := fun _ => True) (Sp := fun _ => False) (N := 0) (w0 := E5.w) ?_ (fun _ _ => trivial) (fun _ _ _ _ _ _ _ _ => trivial) (Below.refl _ _) (fun x => x.elim)
    (fun _ W => Below E5.w.heap.size E5.w W) (fun _ _ _ => False) (ownFrom_below (Nat.le_refl _) (Nat.le_refl _)) (fun _ _ _ _ _ h => h.elim) (Below.refl _ _) (fun x => x.elim) (fun _ x => x.elim) (fun _ _ x => x.elim) ?_ (fun _ _ _ _ _ h => h.elim)
  · intro l J Jx W hb hJ hJx hround hJ0
    refine callsIn_wide.2 ?_
    obtain ⟨t, hh⟩ := grow_world (shut_rel hs5.rel) W hb.size hb.os hb.tape hb.output (fun b h => hb.block b h)
    have hargs : ∀ (j : Nat) (x : V), [V.un, V.one (.iptr (e_api_Program p) 0), V.one (.iptr (e_api_Expr e) 0)][j]? = some x → VRel ({ E5.shut with w := W } : Env) x ((#[Value.func (.yield l) #[] #[]] ++ vs).getD j undef) := by
      intro j x hx
      match j with
      | 0 => simp at hx; subst hx; exact .un
      | 1 => simp at hx; subst hx; exact .one (by rw [e_api_Program_def, show (#[Value.func (.yield l) #[] #[]] ++ vs).getD 1 undef = v6 by rw [hv6]; simp [Array.getElem?_append]]; exact c6.trans t)
      | 2 => simp at hx; subst hx; exact .one (by rw [e_api_Expr_def, show (#[Value.func (.yield l) #[] #[]] ++ vs).getD 2 undef = v7 by rw [hv7]; simp [Array.getElem?_append]]; exact c7.trans t)
      | j + 3 => simp at hx
    have hc := (has1_ok hwalk).2 ({ E5.shut with w := W } : Env) (#[Value.func (.yield l) #[] #[]] ++ vs) hh rfl (by simp [hvn]) hargs
    refine Calls.mono hc ?_
    rintro e' w' ⟨v, x, E', rfl, rfl, _, hv, hh', tr'⟩
    exact ⟨⟨v, rfl⟩, .inl ⟨[], trivial, hJ _ W _ none hJ0 (grown_of tr' rfl) (fun r e => by cases e)⟩⟩
  · intro D xs W hle _ hI hD
    have hae : ({ a5 with defers := { target := Target.collected D, args := #[] } :: a5.defers } : Act) = addD [{ target := Target.collected D, args := #[] }] a5 := by simp [addD, hs5.defers]
    rw [hae]
    show Code.wp Tryz.prog _ _ (addD [{ target := .collected D, args := #[] }] a5) W
    obtain ⟨t6, hh6⟩ := grow_world hs5.rel W hI.size hI.os hI.tape hI.output (fun b h => hI.block b h)
    have hs6 : SR ⟨W, E5.Fr, E5.bd, E5.H⟩ ⟨39, 8⟩ _ a5 ⟨W, E5.Fr, E5.bd, E5.H⟩ := ⟨hs5.len, by rw [hs5.H]; exact Nat.le_refl _, hs5.defers, fun i => (hs5.tm i).trans t6, hs5.H, hh6, Trans.refl _⟩
    refine wp_seq (wp_region (wpOps_add (Q := fun e a' w' => e = .normal ∧ ∃ E', E'.w = w' ∧ SR ⟨W, E5.Fr, E5.bd, E5.H⟩ ⟨39, 8⟩ ?s7 a' E') ?hq _ a5 W (reg_ops (id := 9) hs6 (st' := ?s7) ?h7 ?hQ)))
    case h7 =>
      intro K k
      refine tt ?_
      refine cS hAll ?_
      refine tt ?_
      exact k
    case hQ => exact fun a' E' h => ⟨rfl, E', rfl, h⟩
    case hq =>
      rintro e' a' w' ⟨rfl, E7, rfl, hs7⟩
      refine wp_ret ?_
      have hD7 : E7.w.heap[D]? = some (.deferred (some [])) := by
        rw [hs7.tr.keep D (Array.getElem?_eq_some_iff.1 hD).1 (not_own_deferred hh6 hD)]; exact hD
      have hs8 : SR E ⟨39, 0⟩ _ a' E7 := ⟨hs7.len, by rw [hH]; exact Nat.le_refl _, hs7.defers, hs7.tm, hs7.H, hs7.rel, (hs5.tr.trans t6).trans hs7.tr⟩
      have h9 := leave_mark (P := Tryz.prog) (n := 4) (fn := Tryz.f149) (K := fun v _ => v = .one (.int .i64 r)) hs8 hD7 (Nat.le_trans hs5.tr.size hle) (by simp [go_sem, Nat.reduceAdd, Nat.reduceMul, Nat.reduceLeDiff, Nat.reduceEqDiff, Nat.reduceLT, Int.reduceLE, Int.reduceLT, Int.reduceNeg, Int.reduceEq, Int.reduceAdd, Int.reduceSub, Int.reduceToNat, reduceCtorEq, ↓reduceIte, resK, resOf, Tryz.f149])
      show LeavesInM _ _ _ _ a'.tmps _ (a'.defers ++ _) _ _
      rw [hs7.defers]
      exact h9
end Go.Lz

end
section
/- LzC: slices.Clone: a row of one's own. -/
namespace Go.Lz
set_option linter.unusedVariables false
set_option linter.unusedSimpArgs false
/-- A call whose body is walked some other way. -/
theorem ct_of_sem {P : Program} {f : FuncId} {fn : Func} {c : Code} (hf : P.funcs[f]? = some fn) (hb : fn.body = some c) (hname : (fn.name == "runtime.NumGoroutine") = false) (hok : okC fn.ntmps c = true)
    {args : List V} {H : List O} {K : V → List O → Prop} (h : ∀ (E : Env) (a : Act), E.H = H → (∀ (j : Nat) (x : V), args[j]? = some x → VRel E x (a.tmps.getD j undef)) → SR E ⟨fn.ntmps, H.length⟩ ⟨argsT 0 args, H⟩ a E → c.wp P (Reaches P ⟨fn.ntmps, H.length⟩ (endK P fn.results.toList K) E) a E.w) : Ct P f args H K := by
  refine ⟨⟨fn, hf, hname, by simp [hb]⟩, fun E vs hE hH hn hv => ?_⟩
  have hs : SR E ⟨fn.ntmps, H.length⟩ ⟨argsT 0 args, H⟩ { tmps := vs ++ Array.replicate (fn.ntmps - vs.size) undef, defers := [] } E := by
    refine ⟨by simp; omega, by rw [hH]; exact Nat.le_refl _, rfl, fun i => ?_, hH, hE, Trans.refl E⟩
    simp only [look_argsT, Nat.zero_le, if_true, Nat.sub_zero]
    simp only [List.getD_eq_getElem?_getD]
    cases hx : args[i]? with
    | none => simp only [Option.getD_none]; exact .un
    | some x =>
      have hlt : i < vs.size := by rw [hn]; exact (List.getElem?_eq_some_iff.1 hx).1
      have := hv i x hx
      simp only [Option.getD_some]
      rw [Array.getD_eq_getD_getElem?] at this ⊢
      rw [Array.getElem?_append_left hlt]; exact this
  refine calls_of_wp hf hb (wp_mono (h E _ hH (fun j x hx => by
    have := hs.tm j
    rw [look_argsT] at this
    simpa [List.getD_eq_getElem?_getD, hx] using this) hs) ?_)
  rintro e a' w' ⟨x, st', E', rfl, rfl, hq, hs'⟩
  have fin : resK P fn.results.toList st' K → a'.defers = [] ∧ ∃ v, (results fn a'.tmps).run P E'.w = .ok v E'.w ∧ (∃ v' x E'', Ending.returned v = .returned v' ∧ E''.w = E'.w ∧ K x E''.H ∧ VRel E'' x v' ∧ HRel E'' ∧ Trans E E'') := by
    intro hk
    obtain ⟨v, y, h1, h2, h3⟩ := res_ok hs' hk
    exact ⟨hs'.defers, v, h1, v, y, E', rfl, rfl, h3, h2, hs'.rel, hs'.tr⟩
  cases x with
  | normal => exact fin hq
  | exit id => exact hq.elim
  | ret => exact fin hq
  | goto l => exact hq.elim
/-- An empty slice without room. -/
theorem good_b0 {P : Program} {E : Env} (hE : HRel E) {t e s b : Nat} (ht : tSl P t = some (e, s, b)) : Good P E (Instr.buildSlice t 0 #[]) ⟨True, True, .one (.slf []), E.H⟩ := by
  intro _
  obtain ⟨ie, hu, hie, hs, hb⟩ := tSl_spec ht
  have hrun : (Instr.buildSlice t 0 #[]).run P E.w = .ok (.slice (some ⟨E.w.heap.size, 0, none⟩) 0 0) (E.w.alloc (.cells ((Array.range 0).map fun _ => (default : Value)) e)) := by
    simp [Instr.buildSlice, run_underlying hu, sizeOf, typeInfo, hie, newRow, Instr.fill]
  obtain ⟨tr, hh⟩ := grow_world hE (E.w.alloc (.cells ((Array.range 0).map fun _ => (default : Value)) e)) (by simp) rfl rfl rfl (fun b hb => by first | exact heap_alloc_old E.w _ b hb | exact heap_alloc_old E.w _ hb)
  exact ⟨trivial, _, ⟨E.w.alloc (.cells ((Array.range 0).map fun _ => (default : Value)) e), E.Fr, E.bd, E.H⟩, hrun, rfl, .one (.slf (.sl (fun _ _ => undef) 0 rfl (Nat.zero_le _) (Nat.zero_le _) (by simp) (fun h => (h rfl).elim) (by simp [at2])) ⟨_, rfl⟩), hh, tr⟩
/-- Is a slice nil? -/
theorem run_nil {P : Program} {t e s b : Nat} (ht : tSl P t = some (e, s, b)) {ad : Option Addr} {n cap : Nat} (w : World) : (binOp .eql t (.slice ad n cap) (.slice none 0 0)).run P w = .ok (.bool ad.isNone) w := by
  obtain ⟨ie, hu, hie, hs, hb⟩ := tSl_spec ht
  rw [show binOp .eql t (.slice ad n cap) (.slice none 0 0) = (do pure (.bool (← Op.equal t (.slice ad n cap) (.slice none 0 0)))) from rfl, Op.equal, Op.maxDepth]
  rw [show (10000 : Nat) = 9999 + 1 from rfl, Op.equalIn]
  cases ad <;> simp [run_underlying hu]
theorem sl_nil {E : Env} {rows : List (List C)} {v : Value} (h : VRel E (.one (.sl rows)) v) : ∃ ad n cap, v = .slice ad n cap ∧ (ad = none → rows = []) := by
  cases (one_inv h) with
  | sl vals sz hn hcap hlim hsz hb hv =>
    refine ⟨_, _, _, rfl, fun h => ?_⟩
    subst h
    by_cases e : rows = []
    · exact e
    · obtain ⟨_, _, h1, _⟩ := hb e; cases h1

/-- Its code, for a type of slices. -/
def cloneR0 (t : TypeId) : Code := .region 0 #[{ dst := some 2, op := .assign (.const (.slice none 0 0)), type := t, pos := "slices.go:355", after := #[], guard := none }] false
def cloneO3 (t : TypeId) : Oper := { dst := some 3, op := .move (.tmp 0), type := t, pos := "slices.go:357", after := #[], guard := none }
def cloneO4 (t b : TypeId) : Oper := { dst := some 4, op := .binOp .eql t (.tmp 3) (.const (.slice none 0 0)) t, type := b, pos := "slices.go:357", after := #[{ on := 0, ground := .data }], guard := none }
def cloneR1 (t b : TypeId) : Code := .region 1 #[cloneO3 t, cloneO4 t b] false
def cloneR2 (t : TypeId) : Code := .region 2 #[{ dst := some 2, op := .assign (.const (.slice none 0 0)), type := t, pos := "slices.go:358", after := #[], guard := none }] false
def cloneO5 (t : TypeId) : Oper := { dst := some 5, op := .buildSlice t 0 #[], type := t, pos := "slices.go:362", after := #[], guard := none }
def cloneOps (t : TypeId) : Array Oper := #[cloneO5 t,
  { dst := some 6, op := .move (.tmp 0), type := t, pos := "slices.go:362", after := #[], guard := none },
  { dst := some 7, op := .call { callee := .builtin .append, args := #[.tmp 5, .tmp 6], argTypes := #[t, t] }, type := t, pos := "slices.go:362", after := #[{ on := 0, ground := .data }, { on := 1, ground := .data }], guard := none },
  { dst := some 2, op := .assign (.tmp 7), type := t, pos := "slices.go:362", after := #[{ on := 2, ground := .data }, { on := 2, ground := .chain }, { on := 0, ground := .phase }, { on := 1, ground := .phase }, { on := 2, ground := .phase }], guard := none }]
def cloneR3 (t : TypeId) : Code := .region 3 (cloneOps t) false
def cloneC (t b : TypeId) : Code := (cloneR0 t).seq (((cloneR1 t b).seq (.cond (.tmp 4) ((cloneR2 t).seq .ret) .skip)).seq ((cloneR3 t).seq .ret))
theorem wpOps_cons {P : Program} {ops : Array Oper} {Q : Exit → Act → World → Prop} {i : Nat} {l : List Nat} {a : Act} {w : World} {o : Oper} (ho : ops[i]? = some o) (hg : o.guard = none) (h : o.wp P a w (wpOps P ops Q l) Q) : wpOps P ops Q (i :: l) a w := by
  simp only [wpOps, ho, Region.wanted, hg, if_true]
  exact .inl h
theorem wpOp_of_run {P : Program} {o : Oper} {a : Act} {w w' : World} {v : Value} {next : Act → World → Prop} {Q : Exit → Act → World → Prop} (h : (execOp a.eval o).run P w = .ok (.value v) w') (hn : next (a.put o.dst v) w') : o.wp P a w next Q := by
  unfold Oper.wp
  rw [h]
  exact hn
/-- What a clone is. -/
def cloneV (H : List O) (rows : List (List C)) : V := .one (.msl H.length 0 0 rows.length)
def cloneH (H : List O) (s : Nat) (rows : List (List C)) : List O := H ++ [.cells 0 s rows]
theorem clone_ok {P : Program} {f : FuncId} {fn : Func} {t b e s by_ : Nat} {z : V} {zs : List C} {rows : List (List C)} {H : List O} (hf : P.funcs[f]? = some fn) (hb : fn.body = some (cloneC t b)) (hname : (fn.name == "runtime.NumGoroutine") = false) (hnt : fn.ntmps = 8) (hres : fn.results = #[.tmp 2])
    (ht : tSl P t = some (e, s, by_)) (hz : tZ P e = some z) (hzs : z.cs = some zs) (hl : zs.length = s) (hs0 : 0 < s) (hr : ∀ r ∈ rows, r.length = s) (hlim : rows.length * by_ ≤ 140737488355328) (hlim2 : rows.length ≤ lim) :
    Ct P f [.one (.sl rows)] H fun v H' => v = cloneV H rows ∧ H' = cloneH H s rows := by
  refine ct_of_sem hf hb hname (by rw [hnt]; rfl) fun E a hEH harg hs => ?_
  rw [hnt, hres] at *
  have hv0 := harg 0 _ rfl
  obtain ⟨ad, n, cap, e0, hnil⟩ := sl_nil hv0
  -- the end: an empty row gets a place
  have fin : ∀ (st : St) (a' : Act) (E' : Env), SR E ⟨8, H.length⟩ st a' E' → (st.H = H ∧ rows = [] ∧ look st.t 2 = .one (.slf []) ∨ st.H = cloneH H s rows ∧ look st.t 2 = cloneV H rows) →
      Reaches P ⟨8, H.length⟩ (endK P #[ResultVar.tmp 2].toList fun v H' => v = cloneV H rows ∧ H' = cloneH H s rows) E .ret a' E'.w := by
    rintro st a' E' hs' (⟨h1, h2, h3⟩ | ⟨h1, h2⟩)
    · obtain ⟨E2, hw, hs2⟩ := SR.seed (n := ⟨8, H.length⟩) hs' 2 s h3
      refine ⟨.ret, _, E2, rfl, hw, ?_, hs2⟩
      subst h2
      simp [endK, resK, resOf, look, cloneV, cloneH, h1]
    · refine ⟨.ret, st, E', rfl, rfl, ?_, hs'⟩
      simp [endK, resK, resOf, h1, h2]
  refine wp_seq (wp_mono (awp_sound (cloneR0 t) _ (fun e st' => e = .normal ∧ st' = ⟨(2, .one (.slf [])) :: argsT 0 [.one (.sl rows)], H⟩) ⟨trivial, fun _ => ⟨rfl, rfl⟩⟩ rfl E a E hs) ?_)
  rintro _ a1 _ ⟨_, _, E1, rfl, rfl, ⟨rfl, rfl⟩, hs1⟩
  refine wp_seq (wp_seq ?_)
  -- is it nil?
  have hv1 : VRel E1 (.one (.sl rows)) (a1.tmps.getD 0 undef) := hs1.tm 0
  refine wp_region ?_
  show wpOps P #[cloneO3 t, cloneO4 t b] _ [0, 1] a1 E1.w
  have hs2 := hs1.put (o := cloneO3 t) (by simp [cloneO3]) (x := .one (.sl rows)) (v := a1.tmps.getD 0 undef) hv1 hs1.H hs1.rel (Trans.refl E1)
  refine wpOps_cons (o := cloneO3 t) rfl rfl (wpOp_of_run (v := a1.tmps.getD 0 undef) (w' := E1.w) (by simp [cloneO3, execOp, Act.eval, Array.getD_eq_getD_getElem?]) ?_)
  generalize a1.put (cloneO3 t).dst (a1.tmps.getD 0 undef) = a2 at hs2 ⊢
  obtain ⟨ad, n, cap, e2, hnil⟩ := sl_nil (show VRel E1 (.one (.sl rows)) (a2.eval (.tmp 3)) from hs2.ρ (.tmp 3))
  refine wpOps_cons (o := cloneO4 t b) rfl rfl (wpOp_of_run (v := .bool ad.isNone) (w' := E1.w) ?_ ?_)
  · have h6 : (execOp a2.eval (cloneO4 t b)) = (do pure (.value (← binOp .eql t (.slice ad n cap) (.slice none 0 0)))) := by
      simp [cloneO4, execOp, e2, eqGuard]; rfl
    rw [h6]
    simp [run_nil ht]
  have hs3 := hs2.put (o := cloneO4 t b) (by simp [cloneO4]) (x := .one (.bool ad.isNone)) (v := .bool ad.isNone) (.one .bool) hs1.H hs1.rel (Trans.refl E1)
  generalize a2.put (cloneO4 t b).dst (.bool ad.isNone) = a3 at hs3 ⊢
  show (Code.cond (.tmp 4) ((cloneR2 t).seq .ret) .skip).wp P _ a3 E1.w
  have hc : a3.eval (.tmp 4) = .bool ad.isNone := by
    have := hs3.ρ (.tmp 4)
    exact bool_inv (one_inv this)
  refine wp_cond hc ?_
  cases had : ad with
  | none =>
    simp only [Option.isNone_none, if_true]
    refine wp_seq (wp_mono (awp_sound (cloneR2 t) _ (fun e st' => e = .normal ∧ st'.H = H ∧ look st'.t 2 = .one (.slf [])) ⟨trivial, fun _ => ⟨rfl, rfl, rfl⟩⟩ rfl E a3 E1 hs3) ?_)
    rintro _ a4 _ ⟨_, _, E4, rfl, rfl, ⟨rfl, h1, h2⟩, hs4⟩
    exact wp_ret (fin _ _ _ hs4 (.inl ⟨h1, hnil had, h2⟩))
  | some ad' =>
    simp only [Option.isNone_some, Bool.false_eq_true, if_false]
    refine wp_skip ?_
    show ((cloneR3 t).seq .ret).wp P _ a3 E1.w
    refine wp_seq (wp_region ?_)
    obtain ⟨_, v5, E5, hrun, hH5, hv5, hh5, tr5⟩ := good_b0 (P := P) hs3.rel ht trivial
    show wpOps P (cloneOps t) _ [0, 1, 2, 3] a3 E1.w
    refine wpOps_cons (o := cloneO5 t) rfl rfl (wpOp_of_run (v := v5) (w' := E5.w) (by simp [cloneO5, execOp, hrun]) ?_)
    have hs5 := hs3.put (o := cloneO5 t) (by simp [cloneO5]) hv5 hH5 hh5 tr5
    refine awpOps_ok (K := fun st' => st'.H = H ∧ rows = [] ∧ look st'.t 2 = .one (.slf []) ∨ st'.H = cloneH H s rows ∧ look st'.t 2 = cloneV H rows) _ (fun st' a' E' hK hs' => wp_ret (fin _ _ _ hs' hK)) (by simp [cloneOps, cloneO5]) [1, 2, 3] ((cloneOps t).toList.drop 1) rfl (fun k i hk => by
      match k with
      | 0 => simp at hk; subst hk; rfl
      | 1 => simp at hk; subst hk; rfl
      | 2 => simp at hk; subst hk; rfl
      | k + 3 => simp at hk) _ _ E5 hs5 ?_
    have hH1 : E1.H = H := hs1.H
    have e3 : ∀ x y : V, (cloneOps t).toList.drop 1 = [{ dst := some 6, op := .move (.tmp 0), type := t, pos := "slices.go:362", after := #[], guard := none },
      { dst := some 7, op := .call { callee := .builtin .append, args := #[.tmp 5, .tmp 6], argTypes := #[t, t] }, type := t, pos := "slices.go:362", after := #[{ on := 0, ground := .data }, { on := 1, ground := .data }], guard := none },
      { dst := some 2, op := .assign (.tmp 7), type := t, pos := "slices.go:362", after := #[{ on := 2, ground := .data }, { on := 2, ground := .chain }, { on := 0, ground := .phase }, { on := 1, ground := .phase }, { on := 2, ground := .phase }], guard := none }] := fun _ _ => rfl
    rw [e3 .un .un]
    have hfz : fzPos "slices.go:362" = false := by decide
    cases rows with
    | nil => simp [awpOps, guarded2, awpOp, bindR, stepF, biZ, biF, hfz, appendF, ht, hz, hzs, hl, hs0, rowsOf, St.ρ, St.put, look, cloneO5, cloneO4, cloneO3, argsT, R.ok, hH1]
    | cons r rs =>
      have hr' : r.length = s ∧ ∀ x ∈ rs, x.length = s := by simpa using hr
      simp at hlim hlim2
      simp [awpOps, guarded2, awpOp, bindR, stepF, biZ, biF, hfz, appendF, ht, hz, hzs, hl, hs0, rowsOf, St.ρ, St.put, look, cloneO5, cloneO4, cloneO3, argsT, R.ok, cloneV, cloneH, hlim, hlim2, hr'.1, hH1]
      exact hr'.2
end Go.Lz

end
section
/- LzX: closed calls, reckoned out over abstract values. -/
namespace Go.Lz
set_option linter.unusedVariables false
set_option linter.unusedSimpArgs false
/-! ### What an operation asks is decided. -/
instance dMk {p f : Prop} {v : V} {h : List O} [d : Decidable p] : Decidable (R.mk p f v h).pre := d
instance dOk {v : V} {h : List O} : Decidable (R.ok v h).pre := .isTrue trivial
instance dBad : Decidable R.bad.pre := .isFalse id
def rowB (H : List O) : C → Bool
  | .iptr _ _ => true
  | .ref id ver r _ => match H[id]? with
    | some (.cells cur _ rows) => decide (ver = cur ∧ r < rows.length)
    | _ => false
  | _ => false
theorem rowB_iff {H : List O} {c : C} {row : List C} {off : Nat} {p : Prop} (h : rowOf H c = some (row, off, p)) : rowB H c = true ↔ p := by
  cases c <;> simp only [rowOf, reduceCtorEq] at h
  case iptr => simp only [Option.some.injEq, Prod.mk.injEq] at h; obtain ⟨_, _, rfl⟩ := h; simp [rowB]
  case ref =>
    split at h
    · rename_i ho; simp only [Option.some.injEq, Prod.mk.injEq] at h; obtain ⟨_, _, rfl⟩ := h; simp [rowB, ho]
    · cases h
def rowsB (H : List O) : C → Bool
  | .msl id ver _ _ => match H[id]? with
    | some (.cells cur _ _) => decide (ver = cur)
    | _ => false
  | _ => true
theorem rowsB_iff {H : List O} {c : C} {rows : List (List C)} {p : Prop} (h : rowsOf H c = some (rows, p)) : rowsB H c = true ↔ p := by
  cases c <;> simp only [rowsOf, reduceCtorEq] at h
  case msl =>
    split at h
    · rename_i ho; simp only [Option.some.injEq, Prod.mk.injEq] at h; obtain ⟨_, rfl⟩ := h; simp [rowsB, ho]
    · cases h
  all_goals (simp only [Option.some.injEq, Prod.mk.injEq] at h; obtain ⟨_, rfl⟩ := h; simp [rowsB])
def dRow {H : List O} {c : C} {row : List C} {off : Nat} {p : Prop} (h : rowOf H c = some (row, off, p)) : Decidable p := decidable_of_iff _ (rowB_iff h)
def dRows {H : List O} {c : C} {rows : List (List C)} {p : Prop} (h : rowsOf H c = some (rows, p)) : Decidable p := decidable_of_iff _ (rowsB_iff h)
section
variable (P : Program) (H : List O)
instance dPick (c a b : V) : Decidable (pickF c a b H).pre := by unfold pickF; repeat' (first | infer_instance | split)
instance dNew (cs : List C) : Decidable (newF cs H).pre := by unfold newF; infer_instance
instance dLoad (t : TypeId) (a : V) : Decidable (loadF P t a H).pre := by
  unfold loadF
  repeat' (first | infer_instance | (rename_i h; have := dRow h; infer_instance) | split)
instance dStore (t : TypeId) (a x : V) : Decidable (storeF P t a x H).pre := by unfold storeF; repeat' (first | infer_instance | split)
instance dInt (op : BinOp) (k : IntKind) (a b : Int) : Decidable (intF op k a b H).pre := by unfold intF; repeat' (first | infer_instance | split)
instance dSh (op : BinOp) (k : IntKind) (a b : Int) : Decidable (shF op k a b H).pre := by unfold shF; repeat' (first | infer_instance | split)
instance dStr (op : BinOp) (a b : List UInt8) : Decidable (strF op a b H).pre := by unfold strF; repeat' (first | infer_instance | split)
instance dEq (op : BinOp) (t : TypeId) (a b : List C) : Decidable (eqF P op t a b H).pre := by unfold eqF; repeat' (first | infer_instance | split)
instance dNil (op : BinOp) (t : TypeId) (b : Bool) : Decidable (nilF P op t b H).pre := by unfold nilF; repeat' (first | infer_instance | split)
instance dBin (op : BinOp) (t : TypeId) (x y : V) : Decidable (binF P op t x y H).pre := by unfold binF; repeat' (first | infer_instance | split)
instance dUn (op : UnOp) (x : V) : Decidable (unF op x H).pre := by unfold unF; repeat' (first | infer_instance | split)
instance dIA (t : TypeId) (x i : V) : Decidable (indexAddrF P t x i H).pre := by unfold indexAddrF; repeat' (first | infer_instance | split)
instance dIx (t : TypeId) (x i : V) : Decidable (indexF P t x i H).pre := by unfold indexF; repeat' (first | infer_instance | split)
instance dFA (t : TypeId) (x : V) (f : Nat) : Decidable (fieldAddrF P t x f H).pre := by unfold fieldAddrF; repeat' (first | infer_instance | split)
instance dF (t : TypeId) (x : V) (f : Nat) : Decidable (fieldF P t x f H).pre := by unfold fieldF; repeat' (first | infer_instance | split)
instance dMake (pl : Bool) (t : TypeId) (l c : V) : Decidable (makeSliceF P pl t l c H).pre := by unfold makeSliceF; repeat' (first | infer_instance | split)
instance dSR (t : TypeId) (rows : List (List C)) (lo hi mx : Option V) : Decidable (sliceRows P t rows lo hi mx H).pre := by unfold sliceRows; repeat' (first | infer_instance | split)
instance dSl (t : TypeId) (x : V) (lo hi mx : Option V) : Decidable (sliceF P t x lo hi mx H).pre := by unfold sliceF; repeat' (first | infer_instance | split)
instance dLen (t : TypeId) (x : V) : Decidable (lenF P t x H).pre := by unfold lenF; repeat' (first | infer_instance | split)
instance dApp (ts : Array TypeId) (s x : V) : Decidable (appendF P ts s x H).pre := by
  unfold appendF
  repeat' (first | infer_instance | split)
  all_goals (have := dRows ‹rowsOf H _ = some (_, _)›; dsimp only; infer_instance)
instance dCopy (ts : Array TypeId) (s x : V) : Decidable (copyF P ts s x H).pre := by
  unfold copyF
  repeat' (first | infer_instance | (rename_i h; have := dRows h; infer_instance) | split)
instance dClear (ts : Array TypeId) (x : V) : Decidable (clearF P ts x H).pre := by unfold clearF; repeat' (first | infer_instance | split)
instance dBi (b : Builtin) (ts : Array TypeId) (args : List V) : Decidable (biF P b ts args H).pre := by unfold biF; repeat' (first | infer_instance | split)
instance dBuild (t : TypeId) (parts : List (Nat × V)) : Decidable (buildF P t parts H).pre := by unfold buildF; repeat' (first | infer_instance | split)
instance dBuildS (own : Bool) (t : TypeId) (n : Nat) (parts : List (Nat × V)) : Decidable (buildSliceF P own t n parts H).pre := by unfold buildSliceF; repeat' (first | infer_instance | split)
instance dStrC (s d : TypeId) (b : List UInt8) : Decidable (strConvF P s d b H).pre := by unfold strConvF; repeat' (first | infer_instance | split)
instance dByC (s d : TypeId) (c : C) : Decidable (bytesConvF P s d c H).pre := by
  unfold bytesConvF
  repeat' (first | infer_instance | (rename_i h _ _; have := dRows h; infer_instance) | split)
instance dMsC (s d : TypeId) (id ver lo hi : Nat) : Decidable (mslConvF P s d id ver lo hi H).pre := by unfold mslConvF; repeat' (first | infer_instance | split)
instance dConv (s d : TypeId) (x : V) : Decidable (convF P s d x H).pre := by unfold convF; repeat' (first | infer_instance | split)
instance dLookR (z : C) (ok : Bool) (o : Option (Option C)) : Decidable (lookR z ok H o).pre := by unfold lookR; repeat' (first | infer_instance | split)
instance dLookup (t : TypeId) (m k : V) (ok : Bool) : Decidable (lookupF P t m k ok H).pre := by unfold lookupF; repeat' (first | infer_instance | split)
instance dMapPut (t : TypeId) (m k v : V) : Decidable (mapPutF P t m k v H).pre := by unfold mapPutF; repeat' (first | infer_instance | split)
instance dMkIf (t : TypeId) (x : V) : Decidable (makeIfF P t x H).pre := by unfold makeIfF; repeat' (first | infer_instance | split)
instance dNoIf (a : TypeId) (ok : Bool) : Decidable (noIfF P a ok H).pre := by unfold noIfF; repeat' (first | infer_instance | split)
instance dIsIf (ok : Bool) (cs : List C) : Decidable (isIfF ok cs H).pre := by unfold isIfF; infer_instance
instance dTA (x : V) (a : TypeId) (ok : Bool) : Decidable (typeAssertF P x a ok H).pre := by unfold typeAssertF; repeat' (first | infer_instance | split)
instance dAnd {p : Prop} {r : R} [d : Decidable p] [e : Decidable r.pre] : Decidable (andR p r).pre := by unfold andR; exact inferInstanceAs (Decidable (p ∧ r.pre))
instance dFzc (c : C) : Decidable (fzPc H c) := by unfold fzPc; repeat' (first | infer_instance | split)
def dFzp : (l : List C) → Decidable (fzP H l)
  | [] => .isTrue trivial
  | c :: r => have := dFzp r; inferInstanceAs (Decidable (fzPc H c ∧ fzP H r))
instance (l : List C) : Decidable (fzP H l) := dFzp H l
instance dAppZ (ts : Array TypeId) (s x : V) : Decidable (appendZ P ts s x H).pre := by unfold appendZ; repeat' (first | infer_instance | split)
instance dBiZ (z : Bool) (b : Builtin) (ts : Array TypeId) (args : List V) : Decidable (biZ P z b ts args H).pre := by unfold biZ; repeat' (first | infer_instance | split)
instance dConvZ (z : Bool) (s d : TypeId) (x : V) : Decidable (convZ P z s d x H).pre := by unfold convZ; repeat' (first | infer_instance | split)
instance dStep (pos : String) (op : Op) (ρ : Operand → V) : Decidable (stepF P pos op ρ H).pre := by unfold stepF; repeat' (first | infer_instance | split)
end
/-! ### Are two the same? -/
mutual
def eqC : C → C → Bool
  | .int k a, .int k' b => decide (k = k') && decide (a = b)
  | .bool a, .bool b => decide (a = b)
  | .str a, .str b => decide (a = b)
  | .sl r, .sl r' => eqRows r r'
  | .slf r, .slf r' => eqRows r r'
  | .iptr r o, .iptr r' o' => eqRow r r' && decide (o = o')
  | .fn f c, .fn f' c' => decide (f = f') && eqRow c c'
  | .nilfn, .nilfn => true
  | .nilif, .nilif => true
  | .nilp, .nilp => true
  | .nilm, .nilm => true
  | .ref a b c d, .ref a' b' c' d' => decide (a = a' ∧ b = b' ∧ c = c' ∧ d = d')
  | .msl a b c d, .msl a' b' c' d' => decide (a = a' ∧ b = b' ∧ c = c' ∧ d = d')
  | .mp a, .mp a' => decide (a = a')
  | _, _ => false
def eqRow : List C → List C → Bool
  | [], [] => true
  | c :: r, c' :: r' => eqC c c' && eqRow r r'
  | _, _ => false
def eqRows : List (List C) → List (List C) → Bool
  | [], [] => true
  | c :: r, c' :: r' => eqRow c c' && eqRows r r'
  | _, _ => false
end
mutual
theorem eqC_ok : ∀ {a b : C}, eqC a b = true → a = b
  | .int k a, b, h => by cases b <;> simp [eqC] at h; obtain ⟨rfl, rfl⟩ := h; rfl
  | .bool a, b, h => by cases b <;> simp [eqC] at h; subst h; rfl
  | .str a, b, h => by cases b <;> simp [eqC] at h; subst h; rfl
  | .sl r, b, h => by cases b <;> simp [eqC] at h; rw [eqRows_ok h]
  | .slf r, b, h => by cases b <;> simp [eqC] at h; rw [eqRows_ok h]
  | .iptr r o, b, h => by cases b <;> simp [eqC] at h; rw [eqRow_ok h.1, h.2]
  | .fn f c, b, h => by cases b <;> simp [eqC] at h; rw [eqRow_ok h.2, h.1]
  | .ifc t c, b, h => by cases b <;> simp [eqC] at h
  | .nilfn, b, h => by cases b <;> simp [eqC] at h; rfl
  | .nilif, b, h => by cases b <;> simp [eqC] at h; rfl
  | .nilp, b, h => by cases b <;> simp [eqC] at h; rfl
  | .nilm, b, h => by cases b <;> simp [eqC] at h; rfl
  | .ref a1 a2 a3 a4, b, h => by cases b <;> simp [eqC] at h; obtain ⟨rfl, rfl, rfl, rfl⟩ := h; rfl
  | .msl a1 a2 a3 a4, b, h => by cases b <;> simp [eqC] at h; obtain ⟨rfl, rfl, rfl, rfl⟩ := h; rfl
  | .mp a, b, h => by cases b <;> simp [eqC] at h; subst h; rfl
theorem eqRow_ok : ∀ {a b : List C}, eqRow a b = true → a = b
  | [], b, h => by cases b <;> simp [eqRow] at h; rfl
  | c :: r, b, h => by
    cases b with
    | nil => simp [eqRow] at h
    | cons c' r' => simp [eqRow] at h; rw [eqC_ok h.1, eqRow_ok h.2]
theorem eqRows_ok : ∀ {a b : List (List C)}, eqRows a b = true → a = b
  | [], b, h => by cases b <;> simp [eqRows] at h; rfl
  | c :: r, b, h => by
    cases b with
    | nil => simp [eqRows] at h
    | cons c' r' => simp [eqRows] at h; rw [eqRow_ok h.1, eqRows_ok h.2]
end
def eqV : V → V → Bool
  | .one a, .one b => eqC a b
  | .agg a, .agg b => eqRow a b
  | .un, .un => true
  | _, _ => false
theorem eqV_ok {a b : V} (h : eqV a b = true) : a = b := by
  cases a <;> cases b <;> simp [eqV] at h
  · rw [eqC_ok h]
  · rw [eqRow_ok h]
  · rfl
def eqVs : List V → List V → Bool
  | [], [] => true
  | a :: r, b :: r' => eqV a b && eqVs r r'
  | _, _ => false
theorem eqVs_ok : ∀ {a b : List V}, eqVs a b = true → a = b
  | [], b, h => by cases b <;> simp [eqVs] at h; rfl
  | c :: r, b, h => by
    cases b with
    | nil => simp [eqVs] at h
    | cons c' r' => simp [eqVs] at h; rw [eqV_ok h.1, eqVs_ok h.2]
def eqOo : Option O → Option O → Bool
  | none, none => true
  | some (.cells v s r), some (.cells v' s' r') => decide (v = v' ∧ s = s') && eqRows r r'
  | some .dead, some .dead => true
  | _, _ => false
theorem eqOo_ok {a b : Option O} (h : eqOo a b = true) : a = b := by
  cases a with
  | none => cases b <;> simp [eqOo] at h; rfl
  | some a => cases b with
    | none => cases a <;> simp [eqOo] at h
    | some b =>
      cases a <;> cases b <;> simp [eqOo] at h
      · obtain ⟨⟨rfl, rfl⟩, h2⟩ := h; rw [eqRows_ok h2]
      · rfl
def agreeB (S : List Nat) (H H' : List O) : Bool := S.all fun i => eqOo (H'[i]?) (H[i]?)
theorem agreeB_ok {S : List Nat} {H H' : List O} (h : agreeB S H H' = true) : agree S H H' := by
  intro i hi
  simp only [agreeB, List.all_eq_true] at h
  exact eqOo_ok (h i hi)
def eqOs : List O → List O → Bool
  | [], [] => true
  | a :: r, b :: r' => eqOo (some a) (some b) && eqOs r r'
  | _, _ => false
theorem eqOs_ok : ∀ {a b : List O}, eqOs a b = true → a = b
  | [], b, h => by cases b <;> simp [eqOs] at h; rfl
  | c :: r, b, h => by
    cases b with
    | nil => simp [eqOs] at h
    | cons c' r' => simp [eqOs] at h; rw [Option.some.inj (eqOo_ok h.1), eqOs_ok h.2]
/-! ### The reckoning. -/
abbrev CallT := FuncId → List V → List O → Option (V × List O)
def CallOk (P : Program) (call : CallT) : Prop := ∀ g args H v H', call g args H = some (v, H') → Ct P g args H fun x H2 => x = v ∧ H2 = H'
section
variable (P : Program) (call : CallT)
/-- A call: of its own, if it only computes; else with all objects. -/
def pcOf (g : FuncId) (args : List V) : Option V := match call g args [] with
  | some (v, H') => match (v.view H').lt 0 with
    | true => some (v.view H')
    | false => none
  | none => none
def isRef : V → Bool
  | .one (.ref ..) => true
  | .one (.mp _) => true
  | _ => false
def ownFn (g : FuncId) : Bool := match P.funcs[g]? with
  | some fn => ownFnL.contains fn.name
  | none => false
def evCall (g : FuncId) (args : List V) (H : List O) : Option (V × List O) :=
  match ownFn P g || args.any isRef || !ltVs 0 (args.map (V.view H)) with
  | true => call g args H
  | false => match pcOf call g (args.map (V.view H)) with
    | some x => match args.all (fun a => !a.own) || x.scalar with
      | true => some (x, H)
      | false => call g args H
    | none => call g args H
def evOp (o : Oper) (st : St) : Option St :=
  match o.op with
  | .call { callee := .value f, args, argTypes := _ } => match st.ρ f with
    | .one (.fn g cap) => match evCall P call g (args.toList.map st.ρ ++ cap.map V.one) st.H with
      | some (v, H') => some (st.put o.dst v H')
      | none => none
    | _ => none
  | op => if (stepF P o.pos op st.ρ st.H).pre then some (st.put o.dst (stepF P o.pos op st.ρ st.H).v (stepF P o.pos op st.ρ st.H).h) else none
/-- Operations that leave all objects as they are. -/
def keepsB (P : Program) (pos : String) (op : Op) (ρ : Operand → V) : Bool := match op with
  | .makeSlice _ _ _ => mkPos pos
  | .move _ | .assign _ | .pick _ _ _ | .load _ _ | .nilCheck _ | .binOp _ _ _ _ _ | .unOp _ _ _ | .makeFunc _ _ _ | .makeInterface _ _ | .typeAssert _ _ _ _ | .lookup _ _ _ _ | .fieldAddr _ _ _ | .field _ _ _ | .indexAddr _ _ _ | .index _ _ _ | .extract _ _ | .build _ _ => true
  | .convert _ _ x => match ρ x with | .one (.int _ _) => true | _ => false
  | .slice _ x _ _ _ => match ρ x with | .one (.str _) => true | .one (.sl _) => true | .one (.slf _) => true | .one (.msl _ _ _ _) => true | _ => false
  | .call { callee := .builtin .len, args := _, argTypes := _ } => true
  | .call { callee := .builtin .max, args := _, argTypes := _ } => true
  | .call { callee := .builtin .min, args := _, argTypes := _ } => true
  | _ => false
def isBs : Op → Bool
  | .buildSlice _ _ _ => true
  | _ => false
def keptB (pos : String) (op : Op) (st : St) : Bool := match isBs op with
  | true => eqOs (stepF P pos op st.ρ st.H).h st.H
  | false => keepsB P pos op st.ρ
def evQ (o : Oper) (st : St) : Option St :=
  match o.op with
  | .call { callee := .value f, args, argTypes := _ } => match st.ρ f with
    | .one (.fn g cap) => match ltVs 0 ((args.toList.map st.ρ ++ cap.map V.one).map (V.view st.H)) with
      | true => match pcOf call g ((args.toList.map st.ρ ++ cap.map V.one).map (V.view st.H)) with
        | some x => match (args.toList.map st.ρ ++ cap.map V.one).all (fun a => !a.own) || x.scalar with
          | true => some (st.put o.dst x st.H)
          | false => none
        | none => none
      | false => none
    | _ => none
  | op => if (stepF P o.pos op st.ρ st.H).pre ∧ fzPos o.pos = false ∧ cvPos o.pos = false ∧ keptB P o.pos op st = true then some (st.put o.dst (stepF P o.pos op st.ρ st.H).v st.H) else none
def evGuard (all : Array Oper) (o : Oper) (st : St) : Option (Bool × St) :=
  match o.guard with
  | none => some (true, st)
  | some (j, want) => match (all[j]?).bind (·.dst) with
    | some d => match look st.t d with
      | .one (.bool b) => some (b == want, ⟨(d, .one (.bool b)) :: st.t, st.H⟩)
      | .tup [] => some (false, st)
      | _ => none
    | none => none
def evOps (all : Array Oper) : List Oper → St → Option St
  | [], st => some st
  | o :: rest, st => match evGuard all o st with
    | some (true, st1) => match evOp P call o st1 with
      | some st2 => evOps all rest st2
      | none => none
    | some (false, st1) => evOps all rest (st1.put o.dst (.tup []) st1.H)
    | none => none
def freshP : Option (Prop × V × List Fo) → Prop
  | some (p, _, _) => p
  | none => False
instance dFresh (o : Oper) (st : St) (N : List Fo) : Decidable (freshP (freshV P o st N)) := by
  unfold freshV; repeat' (first | (unfold freshP; infer_instance) | split)
/-- Moves that come to the same whatever the objects are. -/
def lateAtB (all : Array Oper) (t : List (Nat × V)) (i : Nat) : Bool := match all[i]? with
  | some o => match o.op, o.dst with
    | .move x, some d => eqV (St.ρ ⟨t, []⟩ x) (look t d)
    | .assign x, some d => eqV (St.ρ ⟨t, []⟩ x) (look t d)
    | _, _ => false
  | none => false
def tailX (all : Array Oper) (k : Nat) (t : List (Nat × V)) : Bool := tailB all k || (lateB all k && (lateSet all k).all (lateAtB all t))
def evDraw (all : Array Oper) : List Oper → List Fo → St → Option St
  | [], N, st => some ⟨st.t, st.H ++ N.map Fo.o⟩
  | o :: rest, N, st => match freshV P o st N with
    | some (_, v, N') => if freshP (freshV P o st N) then evDraw all rest N' (st.put o.dst v st.H) else none
    | none => match effT o.pos o.op with
      | true => match tailX all (all.size - (rest.length + 1)) st.t with
        | true => evOps P call all (o :: rest) ⟨st.t, st.H ++ N.map Fo.o⟩
        | false => none
      | false => match unmet o N with
        | true => match evGuard all o st with
          | some (true, st1) => match evQ P call o st1 with
            | some st2 => evDraw all rest N st2
            | none => none
          | some (false, st1) => evDraw all rest N (st1.put o.dst (.tup []) st1.H)
          | none => none
        | false => none
/-- Operations that come to the same in all memories that agree on some objects. -/
def refIn (S : List Nat) : V → Bool
  | .one (.ref id _ _ _) => S.contains id
  | .one (.iptr _ _) => true
  | _ => false
def stableB (op : Op) (ρ : Operand → V) (S : List Nat) : Bool := match op with
  | .move _ | .assign _ => true
  | .fieldAddr _ x _ => refIn S (ρ x)
  | .load _ x => refIn S (ρ x)
  | .nilCheck x => refIn S (ρ x)
  | _ => false
def evF (S Fl FE : List Nat) : Nat → List Oper → St → Option St
  | _, [], st => some st
  | k, o :: rest, st => match effF o.op with
    | true => match o.op with
      | .call { callee := .value f, args, argTypes := _ } => match st.ρ f with
        | .one (.fn g cap) => match call g (args.toList.map st.ρ ++ cap.map V.one) st.H with
          | some (x, H1) => match !FE.contains k || agreeB S st.H H1 with
            | true => evF S Fl FE (k + 1) rest (st.put o.dst x H1)
            | false => none
          | none => none
        | _ => none
      | op => if (stepF P o.pos op st.ρ st.H).pre ∧ (FE.contains k = false ∨ agreeB S st.H (stepF P o.pos op st.ρ st.H).h = true) then evF S Fl FE (k + 1) rest (st.put o.dst (stepF P o.pos op st.ρ st.H).v (stepF P o.pos op st.ρ st.H).h) else none
    | false => if (stepF P o.pos o.op st.ρ st.H).pre ∧ fzPos o.pos = false ∧ cvPos o.pos = false ∧ keepsB P o.pos o.op st.ρ = true ∧ (Fl.contains k = false ∨ stableB o.op st.ρ S = true) then evF S Fl FE (k + 1) rest (st.put o.dst (stepF P o.pos o.op st.ρ st.H).v st.H) else none
def flOf (all : Array Oper) : List Nat := (List.range all.size).filter fun i => !effAt all i && floQ all i
def feOf (all : Array Oper) : List Nat := (List.range all.size).filter fun i => effAt all i && floE all i
def evFlo (ops : Array Oper) (st : St) : Option St := match floB ops && floL ops (flOf ops) (feOf ops) with
  | true => evF P call (List.range st.H.length) (flOf ops) (feOf ops) 0 ops.toList st
  | false => none
/-- Each slot once. -/
def slimT : List (Nat × V) → List Nat → List (Nat × V)
  | [], _ => []
  | (k, v) :: r, seen => match seen.contains k with
    | true => slimT r seen
    | false => (k, v) :: slimT r (k :: seen)
def St.slim (st : St) : St := ⟨slimT st.t [], st.H⟩
def evC : Nat → Cf → Code → Option Nat → St → Option (Ex × St)
  | 0, _, _, _, _ => none
  | k + 1, n, c, some l, st => match findLabel c l with
    | some rest => match okC n.n rest with
      | true => match evC k n rest none st with
        | some (.goto l', st1) => evC k n c (some l') st1
        | r => r
      | false => none
    | none => none
  | k + 1, n, c, none, st => match c with
    | .skip => some (.normal, st)
    | .label _ => some (.normal, st)
    | .region _ ops draw => match draw with
      | true => match floatAt ops with
        | true => match P.follows .mixedOrders && drawB ops with
          | true => match evFlo P call ops st with
            | some st1 => some (.normal, st1)
            | none => none
          | false => none
        | false => match P.follows .mixedOrders && drawB ops with
          | true => match evDraw P call ops ops.toList [] st with
            | some st1 => some (.normal, st1)
            | none => none
          | false => none
      | false => match evOps P call ops ops.toList st with
        | some st1 => some (.normal, st1)
        | none => none
    | .seq a b => match evC k n a none st with
      | some (.normal, st1) => evC k n b none st1
      | r => r
    | .cond c x y => match st.ρ c with
      | .one (.bool true) => evC k n x none st
      | .one (.bool false) => evC k n y none st
      | _ => none
    | .block id c => match evC k n c none st with
      | some (.exit i, st1) => if i = id then some (.normal, st1) else some (.exit i, st1)
      | r => r
    | .loop c => match evC k n c none st.slim with
      | some (.normal, st1) => evC k n (.loop c) none st1
      | r => r
    | .scope c => match evC k n c none st with
      | some (.goto l, st1) => evC k n c (some l) st1
      | r => r
    | .goto l => some (.goto l, st)
    | .exit id => some (.exit id, st)
    | .ret => some (.ret, st)
    | _ => none
def resB (st : St) : ResultVar → Option V
  | .tmp i => some (look st.t i)
  | .cell i ty => match look st.t i with
    | .one c => match tAg P ty, rowOf st.H c with
      | some (g, n), some (row, off, _) => match rowB st.H c && decide (off + wd g n ≤ row.length) with
        | true => some (ldV g n row off)
        | false => none
      | _, _ => none
    | _ => none
def resL (st : St) : List ResultVar → Option (List V)
  | [] => some []
  | r :: rs => match resB P st r, resL st rs with
    | some x, some xs => some (x :: xs)
    | _, _ => none
def endB (rs : List ResultVar) (st : St) : Option V := match rs with
  | [r] => resB P st r
  | rs => match resL P st rs with
    | some xs => some (.tup xs)
    | none => none
def evBody (f : FuncId) (args : List V) (H : List O) : Option (V × List O) :=
  match P.funcs[f]? with
  | some fn => match fn.body with
    | some c => match !(fn.name == "runtime.NumGoroutine") && okC fn.ntmps c with
      | true => match evC P call 1000000 ⟨fn.ntmps, H.length⟩ c none ⟨argsT 0 args, H⟩ with
        | some (.normal, st) => match endB P fn.results.toList st with
          | some x => some (x, st.H)
          | none => none
        | some (.ret, st) => match endB P fn.results.toList st with
          | some x => some (x, st.H)
          | none => none
        | _ => none
      | false => none
    | none => none
  | none => none
end
def evK (P : Program) : Nat → CallT
  | 0 => fun _ _ _ => none
  | k + 1 => evBody P (evK P k)
/-! ### It is sound. -/
section
variable {P : Program} {call : CallT}
theorem pu_of_ct {f : FuncId} {args : List V} {v : V} {H' : List O} (h : Ct P f args [] fun x H2 => x = v ∧ H2 = H') (hl : (v.view H').lt 0 = true) : Pu P f args (v.view H') := by
  refine ⟨h.1, fun E vs hE hH hn hv => Calls.mono (h.2 E vs hE hH hn hv) ?_⟩
  rintro e w' ⟨u, y, E', rfl, rfl, ⟨rfl, rfl⟩, hyv, hh, tr⟩
  refine ⟨u, _, E'.shut, rfl, rfl, ⟨rfl, rfl⟩, vview_ok hh hyv hl, shut_rel hh, ?_⟩
  have e0 : ∀ b, ¬ E.own b := by rintro b ⟨id, o, ho, _⟩; simp [hH] at ho
  refine ⟨tr.fr, tr.size, tr.os, tr.tape, tr.output, fun b hb _ => tr.keep b hb (e0 b), ?_, by simp [hH], by simp [Env.shut], by simp [Env.shut]⟩
  rintro b hb ⟨id, o, ho, _⟩
  simp [Env.shut] at ho
theorem pcOf_ok (hc : CallOk P call) {g : FuncId} {args : List V} {x : V} (h : pcOf call g args = some x) : Pu P g args x ∧ x.lt 0 = true := by
  unfold pcOf at h
  split at h
  · rename_i v H' hv
    split at h
    · rename_i hl
      obtain rfl := Option.some.inj h
      exact ⟨pu_of_ct (hc _ _ _ _ _ hv) hl, hl⟩
    · cases h
  · cases h
theorem evCall_ok (hc : CallOk P call) : CallOk P (evCall P call) := by
  intro g args H v H' h
  unfold evCall at h
  split at h
  · exact hc _ _ _ _ _ h
  · rename_i h0
    simp only [Bool.or_eq_false_iff, Bool.not_eq_false'] at h0
    split at h
    · rename_i x hx
      split at h
      · rename_i hb
        obtain ⟨rfl, rfl⟩ := Prod.mk.inj (Option.some.inj h)
        obtain ⟨hp, hl⟩ := pcOf_ok hc hx
        exact call_pure hp rfl h0.2 hl (by simpa using hb) ⟨rfl, rfl⟩
      · exact hc _ _ _ _ _ h
    · exact hc _ _ _ _ _ h
theorem evOp_ok (hc : CallOk P call) {o : Oper} {st st' : St} {K : St → Prop} (h : evOp P call o st = some st') (hk : K st') : awpOp P o st K := by
  obtain ⟨dst, op, ty, pos, after, guard⟩ := o
  cases op with
  | call c =>
    obtain ⟨callee, args, ats⟩ := c
    cases callee with
    | value f =>
      simp only [evOp] at h
      simp only [awpOp]
      split at h
      · rename_i g cap hf
        split at h
        · rename_i v H' hv
          obtain rfl := Option.some.inj h
          rw [hf]
          exact (evCall_ok hc _ _ _ _ _ hv).mono fun x H2 ⟨e1, e2⟩ => by subst e1; subst e2; exact hk
        · cases h
      · cases h
    | _ =>
      simp only [evOp] at h
      split at h
      · rename_i hp
        obtain rfl := Option.some.inj h
        exact ⟨hp, fun _ => hk⟩
      · cases h
  | _ =>
    simp only [evOp] at h
    split at h
    · rename_i hp
      obtain rfl := Option.some.inj h
      exact ⟨hp, fun _ => hk⟩
    · cases h
theorem guard_ok {all : Array Oper} {o : Oper} {st st1 : St} {b : Bool} {X Y : St → Prop} (h : evGuard all o st = some (b, st1)) (hx : b = true → X st1) (hy : b = false → Y st1) : guarded2 all o st X Y := by
  unfold evGuard at h
  unfold guarded2
  split at h
  · rename_i hg
    obtain ⟨rfl, rfl⟩ := Prod.mk.inj (Option.some.inj h)
    simp only [hg]
    exact hx rfl
  · rename_i j want hg
    simp only [hg]
    split at h
    · rename_i d hd
      simp only [hd]
      split at h
      · rename_i c hl
        obtain ⟨rfl, rfl⟩ := Prod.mk.inj (Option.some.inj h)
        simp only [hl]
        refine ⟨fun e => ?_, fun e => ?_⟩
        · subst e; exact hx (by simp)
        · subst e; exact hy (by cases want <;> rfl)
      · rename_i hl
        obtain ⟨rfl, rfl⟩ := Prod.mk.inj (Option.some.inj h)
        simp only [hl]
        exact hy rfl
      · cases h
    · cases h
theorem evOps_ok (hc : CallOk P call) {all : Array Oper} {K : St → Prop} : ∀ {l : List Oper} {st st' : St}, evOps P call all l st = some st' → K st' → awpOps P all l st K
  | [], st, st', h, hk => by
    obtain rfl := Option.some.inj h
    exact hk
  | o :: rest, st, st', h, hk => by
    unfold evOps at h
    unfold awpOps
    split at h
    · rename_i st1 hg
      split at h
      · rename_i st2 ho
        exact guard_ok hg (fun _ => evOp_ok hc ho (evOps_ok hc h hk)) (fun e => by cases e)
      · cases h
    · rename_i st1 hg
      exact guard_ok hg (fun e => by cases e) (fun _ => evOps_ok hc h hk)
    · cases h
end
section
variable (P : Program) (H : List O)
theorem kMk {p f : Prop} {v : V} : (R.mk p f v H).pre → (R.mk p f v H).h = H := fun _ => rfl
theorem kOk {v : V} : (R.ok v H).pre → (R.ok v H).h = H := fun _ => rfl
theorem kBad : R.bad.pre → R.bad.h = H := fun h => h.elim
theorem kLoad (t : TypeId) (a : V) : (loadF P t a H).pre → (loadF P t a H).h = H := by
  unfold loadF; repeat' (first | exact kMk H | exact kOk H | exact kBad H | split)
theorem kPick (c a b : V) : (pickF c a b H).pre → (pickF c a b H).h = H := by
  unfold pickF; repeat' (first | exact kMk H | exact kOk H | exact kBad H | split)
theorem kInt (op : BinOp) (k : IntKind) (a b : Int) : (intF op k a b H).pre → (intF op k a b H).h = H := by
  unfold intF; repeat' (first | exact kMk H | exact kOk H | exact kBad H | split)
theorem kSh (op : BinOp) (k : IntKind) (a b : Int) : (shF op k a b H).pre → (shF op k a b H).h = H := by
  unfold shF; repeat' (first | exact kMk H | exact kOk H | exact kBad H | split)
theorem kStr (op : BinOp) (a b : List UInt8) : (strF op a b H).pre → (strF op a b H).h = H := by
  unfold strF; repeat' (first | exact kMk H | exact kOk H | exact kBad H | split)
theorem kEq (op : BinOp) (t : TypeId) (a b : List C) : (eqF P op t a b H).pre → (eqF P op t a b H).h = H := by
  unfold eqF; repeat' (first | exact kMk H | exact kOk H | exact kBad H | split)
theorem kNil (op : BinOp) (t : TypeId) (b : Bool) : (nilF P op t b H).pre → (nilF P op t b H).h = H := by
  unfold nilF; repeat' (first | exact kMk H | exact kOk H | exact kBad H | split)
theorem kUn (op : UnOp) (x : V) : (unF op x H).pre → (unF op x H).h = H := by
  unfold unF; repeat' (first | exact kMk H | exact kOk H | exact kBad H | split)
theorem kIA (t : TypeId) (x i : V) : (indexAddrF P t x i H).pre → (indexAddrF P t x i H).h = H := by
  unfold indexAddrF; repeat' (first | exact kMk H | exact kOk H | exact kBad H | split)
theorem kIx (t : TypeId) (x i : V) : (indexF P t x i H).pre → (indexF P t x i H).h = H := by
  unfold indexF; repeat' (first | exact kMk H | exact kOk H | exact kBad H | split)
theorem kFA (t : TypeId) (x : V) (f : Nat) : (fieldAddrF P t x f H).pre → (fieldAddrF P t x f H).h = H := by
  unfold fieldAddrF; repeat' (first | exact kMk H | exact kOk H | exact kBad H | split)
theorem kF (t : TypeId) (x : V) (f : Nat) : (fieldF P t x f H).pre → (fieldF P t x f H).h = H := by
  unfold fieldF; repeat' (first | exact kMk H | exact kOk H | exact kBad H | split)
theorem kSR (t : TypeId) (rows : List (List C)) (lo hi mx : Option V) : (sliceRows P t rows lo hi mx H).pre → (sliceRows P t rows lo hi mx H).h = H := by
  unfold sliceRows; repeat' (first | exact kMk H | exact kOk H | exact kBad H | split)
theorem kLen (t : TypeId) (x : V) : (lenF P t x H).pre → (lenF P t x H).h = H := by
  unfold lenF; repeat' (first | exact kMk H | exact kOk H | exact kBad H | split)
theorem kBuild (t : TypeId) (parts : List (Nat × V)) : (buildF P t parts H).pre → (buildF P t parts H).h = H := by
  unfold buildF; repeat' (first | exact kMk H | exact kOk H | exact kBad H | split)
theorem kLookR (z : C) (ok : Bool) (o : Option (Option C)) : (lookR z ok H o).pre → (lookR z ok H o).h = H := by
  unfold lookR; repeat' (first | exact kMk H | exact kOk H | exact kBad H | split)
theorem kMkIf (t : TypeId) (x : V) : (makeIfF P t x H).pre → (makeIfF P t x H).h = H := by
  unfold makeIfF; repeat' (first | exact kMk H | exact kOk H | exact kBad H | split)
theorem kNoIf (a : TypeId) (ok : Bool) : (noIfF P a ok H).pre → (noIfF P a ok H).h = H := by
  unfold noIfF; repeat' (first | exact kMk H | exact kOk H | exact kBad H | split)
theorem kIsIf (ok : Bool) (cs : List C) : (isIfF ok cs H).pre → (isIfF ok cs H).h = H := by
  unfold isIfF; repeat' (first | exact kMk H | exact kOk H | exact kBad H | split)
theorem kBin (op : BinOp) (t : TypeId) (x y : V) : (binF P op t x y H).pre → (binF P op t x y H).h = H := by
  unfold binF; repeat' (first | exact kMk H | exact kOk H | exact kBad H | exact kEq P H _ _ _ _ | exact kNil P H _ _ _ | exact kSh H _ _ _ _ | exact kInt H _ _ _ _ | exact kStr H _ _ _ | split)
theorem kLookup (t : TypeId) (m k : V) (ok : Bool) : (lookupF P t m k ok H).pre → (lookupF P t m k ok H).h = H := by
  unfold lookupF; repeat' (first | exact kBad H | exact kLookR H _ _ _ | split)
theorem kTA (x : V) (a : TypeId) (ok : Bool) : (typeAssertF P x a ok H).pre → (typeAssertF P x a ok H).h = H := by
  unfold typeAssertF; repeat' (first | exact kBad H | exact kNoIf P H _ _ | exact kIsIf H _ _ | split)
theorem keepsB_ok {pos : String} {op : Op} {ρ : Operand → V} (hz : fzPos pos = false) (hv : cvPos pos = false) (hp : (stepF P pos op ρ H).pre) (hk : keepsB P pos op ρ = true) : (stepF P pos op ρ H).h = H := by
  cases op <;> simp only [keepsB, Bool.false_eq_true] at hk
  case makeSlice t l c =>
    revert hp
    simp only [stepF, hk, makeSliceF]
    repeat' (first | exact kMk H | exact kOk H | exact kBad H | split)
  case move => rfl
  case assign => rfl
  case pick => exact kPick H _ _ _ hp
  case load => exact kLoad P H _ _ hp
  case nilCheck x =>
    revert hp
    simp only [stepF]
    repeat' (first | exact kMk H | exact kOk H | exact kBad H | split)
  case binOp => exact kBin P H _ _ _ _ hp
  case unOp => exact kUn H _ _ hp
  case makeFunc fn first cap =>
    revert hp
    cases fn <;> simp only [stepF]
    all_goals (repeat' (first | exact kMk H | exact kOk H | exact kBad H | split))
  case makeInterface => exact kMkIf P H _ _ hp
  case typeAssert => exact kTA P H _ _ _ hp
  case lookup => exact kLookup P H _ _ _ _ hp
  case fieldAddr => exact kFA P H _ _ _ hp
  case field => exact kF P H _ _ _ hp
  case indexAddr => exact kIA P H _ _ _ hp
  case index => exact kIx P H _ _ _ hp
  case extract x i =>
    revert hp
    simp only [stepF]
    repeat' (first | exact kMk H | exact kOk H | exact kBad H | split)
  case build => exact kBuild P H _ _ hp
  case convert s d x =>
    revert hp hk
    simp only [stepF, hv, convZ]
    cases ρ x with
    | one c =>
      cases c with
      | int k n => intro hp _; revert hp; simp only [convF]; repeat' (first | exact kMk H | exact kOk H | exact kBad H | split)
      | _ => simp
    | _ => simp
  case slice t x lo hi mx =>
    revert hp hk
    simp only [stepF]
    split
    · intro h; exact h.elim
    cases ρ x with
    | one c =>
      cases c <;> intro hp hk <;> revert hp <;> simp only [Bool.false_eq_true] at hk <;> simp only [sliceF]
      all_goals (repeat' (first | exact kMk H | exact kOk H | exact kBad H | exact kSR P H _ _ _ _ _ | split))
    | _ => intro hp hk; simp at hk
  case call c =>
    obtain ⟨callee, args, ats⟩ := c
    cases callee with
    | builtin b =>
      revert hp
      simp only [stepF, hz, biZ]
      cases b <;> simp only [Bool.false_eq_true] at hk
      case len => unfold biF; repeat' (first | contradiction | exact kMk H | exact kOk H | exact kBad H | exact kLen P H _ _ | split)
      case max => unfold biF; repeat' (first | contradiction | exact kMk H | exact kOk H | exact kBad H | split)
      case min => unfold biF; repeat' (first | contradiction | exact kMk H | exact kOk H | exact kBad H | split)
    | value f => simp at hk
    | invoke r m => simp at hk
end
section
variable {P : Program} {call : CallT}
theorem keptB_ok {pos : String} {op : Op} {st : St} (hz : fzPos pos = false) (hv : cvPos pos = false) (hp : (stepF P pos op st.ρ st.H).pre) (hk : keptB P pos op st = true) : (stepF P pos op st.ρ st.H).h = st.H := by
  unfold keptB at hk
  split at hk
  · exact eqOs_ok hk
  · exact keepsB_ok P _ hz hv hp hk
theorem evQ_ok (hc : CallOk P call) {o : Oper} {st st' : St} {K : St → Prop} (h : evQ P call o st = some st') (hk : K st') : awpQ P o st K := by
  obtain ⟨dst, op, ty, pos, after, guard⟩ := o
  cases op with
  | call c =>
    obtain ⟨callee, args, ats⟩ := c
    cases callee with
    | value f =>
      simp only [evQ] at h
      simp only [awpQ]
      split at h
      · rename_i g cap hf
        rw [hf]
        split at h
        · rename_i hl
          split at h
          · rename_i x hx
            split at h
            · rename_i hb
              obtain rfl := Option.some.inj h
              obtain ⟨hp, hx0⟩ := pcOf_ok hc hx
              exact ⟨x, call_pure hp rfl hl hx0 (by simpa using hb) ⟨rfl, rfl⟩, hk⟩
            · cases h
          · cases h
        · cases h
      · cases h
    | _ =>
      simp only [evQ] at h
      split at h
      · rename_i hp
        obtain ⟨hp, hz, hv, hq⟩ := hp
        obtain rfl := Option.some.inj h
        have e := keptB_ok hz hv hp hq
        exact ⟨hp, fun _ => ⟨e, by rw [e]; exact hk⟩⟩
      · cases h
  | _ =>
    simp only [evQ] at h
    split at h
    · rename_i hp
      obtain ⟨hp, hz, hv, hq⟩ := hp
      obtain rfl := Option.some.inj h
      have e := keptB_ok hz hv hp hq
      exact ⟨hp, fun _ => ⟨e, by rw [e]; exact hk⟩⟩
    · cases h
theorem tailX_ok {all : Array Oper} {k : Nat} {t : List (Nat × V)} (h : tailX all k t = true) : tailP P all k t := by
  simp only [tailX, Bool.or_eq_true, Bool.and_eq_true] at h
  rcases h with h | ⟨h1, h2⟩
  · exact .inl h
  · refine .inr ⟨h1, ?_⟩
    generalize lateSet all k = L at h2
    induction L with
    | nil => trivial
    | cons i L ih =>
      simp only [List.all_cons, Bool.and_eq_true] at h2
      refine ⟨?_, ih h2.2⟩
      have hi := h2.1
      unfold lateAtB at hi
      unfold lateAt
      split at hi
      · rename_i o ho
        have eρ : ∀ (H : List O) x, St.ρ ⟨t, H⟩ x = St.ρ ⟨t, []⟩ x := fun H x => by cases x <;> rfl
        rw [ho]
        simp only
        split at hi
        · rename_i x d e1 e2
          rw [e1, e2]
          exact fun H => ⟨trivial, rfl, by show St.ρ ⟨t, H⟩ x = _; rw [eρ]; exact eqV_ok hi⟩
        · rename_i x d e1 e2
          rw [e1, e2]
          exact fun H => ⟨trivial, rfl, by show St.ρ ⟨t, H⟩ x = _; rw [eρ]; exact eqV_ok hi⟩
        · cases hi
      · cases hi
theorem evDraw_ok (hc : CallOk P call) {all : Array Oper} {K : St → Prop} : ∀ {l : List Oper} {N : List Fo} {st st' : St}, evDraw P call all l N st = some st' → K st' → awpDraw P all l N st K
  | [], N, st, st', h, hk => by
    obtain rfl := Option.some.inj h
    exact hk
  | o :: rest, N, st, st', h, hk => by
    unfold evDraw at h
    unfold awpDraw
    split at h
    · rename_i p v N' hf
      rw [hf]
      split at h
      · rename_i hp
        rw [hf] at hp
        exact ⟨hp, evDraw_ok hc h hk⟩
      · cases h
    · rename_i hf
      rw [hf]
      simp only
      split at h
      · rename_i he
        rw [he]
        split at h
        · rename_i ht
          exact ⟨tailX_ok ht, evOps_ok hc h hk⟩
        · cases h
      · rename_i he
        rw [he]
        split at h
        · rename_i hu
          refine ⟨hu, ?_⟩
          split at h
          · rename_i st1 hg
            split at h
            · rename_i st2 ho
              exact guard_ok hg (fun _ => evQ_ok hc ho (evDraw_ok hc h hk)) (fun e => by cases e)
            · cases h
          · rename_i st1 hg
            exact guard_ok hg (fun e => by cases e) (fun _ => evDraw_ok hc h hk)
          · cases h
        · cases h
theorem loadF_ag {t : TypeId} {c : C} {H H' : List O} (e : rowOf H' c = rowOf H c) : (loadF P t (.one c) H).pre → (loadF P t (.one c) H').pre ∧ (loadF P t (.one c) H').h = H' ∧ (loadF P t (.one c) H').v = (loadF P t (.one c) H).v := by
  simp only [loadF]
  rw [e]
  cases tAg P t with
  | none => exact fun h => h.elim
  | some q => cases rowOf H c with
    | none => exact fun h => h.elim
    | some r => exact fun h => ⟨h, rfl, rfl⟩
theorem fieldAddrF_ag {t : TypeId} {c : C} {f : Nat} {H H' : List O} (e : ∀ id ver r off, c = .ref id ver r off → H'[id]? = H[id]?) : (fieldAddrF P t (.one c) f H).pre → (fieldAddrF P t (.one c) f H').pre ∧ (fieldAddrF P t (.one c) f H').h = H' ∧ (fieldAddrF P t (.one c) f H').v = (fieldAddrF P t (.one c) f H).v := by
  unfold fieldAddrF
  cases tFd P t f with
  | none => exact fun h => h.elim
  | some q =>
    cases c with
    | ref id ver r off =>
      simp only
      rw [e id ver r off rfl]
      cases H[id]? with
      | none => exact fun h => h.elim
      | some o => cases o with
        | cells cur sz rows => exact fun h => ⟨h, rfl, rfl⟩
        | _ => exact fun h => h.elim
    | iptr row off => exact fun h => ⟨h, rfl, rfl⟩
    | _ => exact fun h => h.elim
theorem stableB_ok {pos : String} {op : Op} {ρ : Operand → V} {H : List O} {S : List Nat} (hp : (stepF P pos op ρ H).pre) (h : stableB op ρ S = true) : stableQ P pos op ρ H S := by
  intro H' hag
  have key : ∀ {x : V}, refIn S x = true → ∃ c, x = .one c ∧ (∀ id ver r off, c = .ref id ver r off → H'[id]? = H[id]?) ∧ rowOf H' c = rowOf H c := by
    intro x hx
    cases x with
    | one c =>
      refine ⟨c, rfl, ?_⟩
      cases c <;> simp only [refIn, Bool.false_eq_true] at hx
      case iptr row off => exact ⟨fun _ _ _ _ e => (by cases e), rfl⟩
      case ref id ver r off =>
        have := hag id (by simpa using hx)
        exact ⟨fun _ _ _ _ e => (by cases e; exact this), by simp only [rowOf, this]⟩
    | _ => simp [refIn] at hx
  cases op <;> simp only [stableB, Bool.false_eq_true] at h
  case move => exact ⟨trivial, rfl, rfl⟩
  case assign => exact ⟨trivial, rfl, rfl⟩
  case fieldAddr t x f =>
    obtain ⟨c, e1, e2, _⟩ := key h
    simp only [stepF, e1] at hp ⊢
    exact fieldAddrF_ag e2 hp
  case load t x =>
    obtain ⟨c, e1, _, e2⟩ := key h
    simp only [stepF, e1] at hp ⊢
    exact loadF_ag e2 hp
  case nilCheck x =>
    obtain ⟨c, e1, e2, _⟩ := key h
    simp only [stepF, e1] at hp ⊢
    cases c with
    | ref id ver r off =>
      simp only at hp ⊢
      rw [e2 id ver r off rfl]
      cases ho : H[id]? with
      | none => rw [ho] at hp; exact hp.elim
      | some o => cases o with
        | cells cur sz rows => rw [ho] at hp; exact ⟨hp, rfl, rfl⟩
        | _ => rw [ho] at hp; exact hp.elim
    | iptr row off => exact ⟨trivial, rfl, rfl⟩
    | _ => exact hp.elim
theorem evF_ok (hc : CallOk P call) {S Fl FE : List Nat} {K : St → Prop} : ∀ {l : List Oper} {k : Nat} {st st' : St}, evF P call S Fl FE k l st = some st' → K st' → awpF P S Fl FE k l st K
  | [], k, st, st', h, hk => by simp only [evF] at h; obtain rfl := Option.some.inj h; exact hk
  | o :: rest, k, st, st', h, hk => by
    obtain ⟨dst, op, ty, pos, after, guard⟩ := o
    simp only [evF] at h
    simp only [awpF]
    split at h
    · rename_i he
      rw [he]
      simp only
      cases op with
      | call c =>
        obtain ⟨callee, args, ats⟩ := c
        cases callee with
        | value f =>
          (try simp only at h); (try simp only)
          split at h
          · rename_i g cap hf
            rw [hf]
            split at h
            · rename_i x H1 hv
              split at h
              · rename_i hb
                refine ⟨x, H1, hc _ _ _ _ _ hv, fun hfe => ?_, evF_ok hc h hk⟩
                rw [hfe] at hb
                exact agreeB_ok (by simpa using hb)
              · cases h
            · cases h
          · cases h
        | _ =>
          (try simp only at h); (try simp only)
          split at h
          · rename_i hb
            exact ⟨hb.1, fun hfe => agreeB_ok (by rcases hb.2 with e | e <;> simp_all), evF_ok hc h hk⟩
          · cases h
      | _ =>
        (try simp only at h); (try simp only)
        split at h
        · rename_i hb
          exact ⟨hb.1, fun hfe => agreeB_ok (by rcases hb.2 with e | e <;> simp_all), evF_ok hc h hk⟩
        · cases h
    · rename_i he
      rw [he]
      simp only
      split at h
      · rename_i hb
        obtain ⟨hp, hz, hv, hq, hs⟩ := hb
        exact ⟨hp, keepsB_ok P _ hz hv hp hq, fun hfl => stableB_ok hp (by rcases hs with e | e <;> simp_all), evF_ok hc h hk⟩
      · cases h
theorem evFlo_ok (hc : CallOk P call) {ops : Array Oper} {st st' : St} {K : St → Prop} (h : evFlo P call ops st = some st') (hk : K st') : floB ops = true ∧ ∃ S Fl FE, floL ops Fl FE = true ∧ awpF P S Fl FE 0 ops.toList st K := by
  unfold evFlo at h
  split at h
  · rename_i hb
    simp only [Bool.and_eq_true] at hb
    exact ⟨hb.1, _, _, _, hb.2, evF_ok hc h hk⟩
  · cases h
theorem look_slim : ∀ (t : List (Nat × V)) (seen : List Nat) (i : Nat), look (slimT t seen) i = if seen.contains i then .un else look t i
  | [], seen, i => by simp [slimT, look]
  | (k, v) :: r, seen, i => by
    unfold slimT
    split
    · rename_i hs
      rw [look_slim r seen i]
      split
      · rfl
      · rename_i hi
        rw [look_cons]
        split
        · rename_i e; subst e; exact absurd hs hi
        · rfl
    · rename_i hs
      rw [look_cons, look_slim r (k :: seen) i, look_cons]
      by_cases e : k = i
      · subst e; have hs' : k ∉ seen := by simpa using hs
        simp [hs, hs']
      · have e' : (i == k) = false := by simp; exact fun h => e h.symm
        simp only [List.contains_cons, e', Bool.false_or, if_neg e]
theorem LoopSem.slim {n : Cf} {c : Code} {st : St} {Q : Ex → St → Prop} (h : LoopSem P n c st.slim Q) : LoopSem P n c st Q := by
  intro hok ctx a E hs
  exact h hok ctx a E ⟨hs.len, hs.hm, hs.defers, fun i => by
    show VRel E (look (slimT st.t []) i) _
    rw [look_slim]; exact hs.tm i, hs.H, hs.rel, hs.tr⟩
theorem evC_ok (hc : CallOk P call) : ∀ (k : Nat) (n : Cf) (c : Code) (lab : Option Nat) (st : St) (e : Ex) (st' : St), evC P call k n c lab st = some (e, st') → ∀ Q : Ex → St → Prop, Q e st' → match lab with
    | none => awp P n c st Q
    | some l => gotoQ P n c Q (.goto l) st
  | 0, _, _, _, _, _, _, h, _, _ => by cases h
  | k + 1, n, c, some l, st, e, st', h, Q, hq => by
    simp only [evC] at h
    split at h
    · rename_i rest hf
      split at h
      · rename_i hok
        refine ⟨rest, hf, hok, scope_unroll hok ?_⟩
        split at h
        · rename_i l' st1 h1
          exact evC_ok hc k n rest none st _ st1 h1 _ (evC_ok hc k n c (some l') st1 e st' h Q hq)
        · rename_i h1
          refine evC_ok hc k n rest none st e st' h _ ?_
          cases e with
          | goto l' => exact absurd h (h1 l' st')
          | _ => exact hq
      · cases h
    · cases h
  | k + 1, n, c, none, st, e, st', h, Q, hq => by
    show awp P n c st Q
    cases c with
    | skip => simp only [evC] at h; obtain ⟨rfl, rfl⟩ := Prod.mk.inj (Option.some.inj h); exact hq
    | label _ => simp only [evC] at h; obtain ⟨rfl, rfl⟩ := Prod.mk.inj (Option.some.inj h); exact hq
    | region _ ops draw =>
      simp only [evC] at h
      cases draw with
      | true =>
        dsimp only at h
        simp only [awp]
        split at h
        · rename_i hf
          rw [hf]
          split at h
          · rename_i hd
            simp only [Bool.and_eq_true] at hd
            split at h
            · rename_i st1 h1
              obtain ⟨rfl, rfl⟩ := Prod.mk.inj (Option.some.inj h)
              obtain ⟨q1, S, Fl, FE, q2, q3⟩ := evFlo_ok hc h1 hq
              exact ⟨hd.1, hd.2, q1, S, Fl, FE, q2, q3⟩
            · cases h
          · cases h
        · rename_i hf
          rw [hf]
          split at h
          · rename_i hd
            simp only [Bool.and_eq_true] at hd
            split at h
            · rename_i st1 h1
              obtain ⟨rfl, rfl⟩ := Prod.mk.inj (Option.some.inj h)
              exact ⟨hd.1, hd.2, evDraw_ok hc h1 hq⟩
            · cases h
          · cases h
      | false =>
        dsimp only at h
        simp only [awp]
        split at h
        · rename_i st1 h1
          obtain ⟨rfl, rfl⟩ := Prod.mk.inj (Option.some.inj h)
          exact evOps_ok hc h1 hq
        · cases h
    | seq a b =>
      simp only [evC] at h
      simp only [awp]
      split at h
      · rename_i st1 h1
        exact evC_ok hc k n a none st _ st1 h1 _ (evC_ok hc k n b none st1 e st' h Q hq)
      · rename_i h1
        refine evC_ok hc k n a none st e st' h _ ?_
        cases e with
        | normal => exact absurd h (h1 st')
        | _ => exact hq
    | cond x a b =>
      simp only [evC] at h
      simp only [awp, condK]
      split at h
      · rename_i hx; rw [hx]; exact ⟨fun _ => evC_ok hc k n a none st e st' h Q hq, fun e => by cases e⟩
      · rename_i hx; rw [hx]; exact ⟨fun e => (by cases e), fun _ => evC_ok hc k n b none st e st' h Q hq⟩
      · cases h
    | block id b =>
      simp only [evC] at h
      simp only [awp]
      split at h
      · rename_i i st1 h1
        refine evC_ok hc k n b none st _ st1 h1 _ ?_
        simp only [blockQ]
        split at h
        · rename_i hi
          obtain ⟨rfl, rfl⟩ := Prod.mk.inj (Option.some.inj h)
          rw [if_pos hi]; exact hq
        · rename_i hi
          obtain ⟨rfl, rfl⟩ := Prod.mk.inj (Option.some.inj h)
          rw [if_neg hi]; exact hq
      · rename_i h1
        refine evC_ok hc k n b none st e st' h _ ?_
        cases e with
        | exit i => exact absurd h (h1 i st')
        | _ => exact hq
    | loop b =>
      simp only [evC] at h
      simp only [awp]
      refine LoopSem.slim (loop_unroll ?_)
      split at h
      · rename_i st1 h1
        exact evC_ok hc k n b none _ _ st1 h1 _ (evC_ok hc k n (.loop b) none st1 e st' h Q hq)
      · rename_i h1
        refine evC_ok hc k n b none _ e st' h _ ?_
        cases e with
        | normal => exact absurd h (h1 st')
        | _ => exact hq
    | scope b =>
      simp only [evC] at h
      simp only [awp]
      split at h
      · rename_i l st1 h1
        exact evC_ok hc k n b none st _ st1 h1 _ (evC_ok hc k n b (some l) st1 e st' h Q hq)
      · rename_i h1
        refine evC_ok hc k n b none st e st' h _ ?_
        cases e with
        | goto l => exact absurd h (h1 l st')
        | _ => exact hq
    | goto l => simp only [evC] at h; obtain ⟨rfl, rfl⟩ := Prod.mk.inj (Option.some.inj h); exact hq
    | exit id => simp only [evC] at h; obtain ⟨rfl, rfl⟩ := Prod.mk.inj (Option.some.inj h); exact hq
    | ret => simp only [evC] at h; obtain ⟨rfl, rfl⟩ := Prod.mk.inj (Option.some.inj h); exact hq
    | _ => simp only [evC] at h; cases h
theorem resB_ok {st : St} {r : ResultVar} {x : V} (h : resB P st r = some x) : ∃ p, resOf P st.H st.t r = some (x, p) ∧ p := by
  cases r with
  | tmp i => simp only [resB] at h; obtain rfl := Option.some.inj h; exact ⟨True, rfl, trivial⟩
  | cell i ty =>
    simp only [resB] at h
    simp only [resOf]
    split at h
    · rename_i c hl
      rw [hl]
      simp only
      split at h
      · rename_i g n row off p h1 h2
        rw [h1, h2]
        simp only
        split at h
        · rename_i hb
          obtain rfl := Option.some.inj h
          simp only [Bool.and_eq_true, decide_eq_true_eq] at hb
          exact ⟨_, rfl, (rowB_iff h2).1 hb.1, hb.2⟩
        · cases h
      · cases h
    · cases h
theorem resL_ok {st : St} : ∀ {rs : List ResultVar} {xs : List V}, resL P st rs = some xs → ∃ ys, rs.mapM (resOf P st.H st.t) = some ys ∧ (∀ y ∈ ys, y.2) ∧ ys.map (·.1) = xs
  | [], xs, h => by obtain rfl := Option.some.inj h; exact ⟨[], rfl, by simp, rfl⟩
  | r :: rs, xs, h => by
    simp only [resL] at h
    split at h
    · rename_i x ys hx hy
      obtain rfl := Option.some.inj h
      obtain ⟨p, h1, h2⟩ := resB_ok hx
      obtain ⟨zs, h3, h4, h5⟩ := resL_ok hy
      refine ⟨(x, p) :: zs, by simp [List.mapM_cons, h1, h3], ?_, by simp [h5]⟩
      intro y hy
      rcases List.mem_cons.1 hy with rfl | hy
      · exact h2
      · exact h4 y hy
    · cases h
theorem endB_ok {rs : List ResultVar} {st : St} {x : V} {K : V → List O → Prop} (h : endB P rs st = some x) (hk : K x st.H) : resK P rs st K := by
  unfold endB at h
  unfold resK
  split at h
  · rename_i r
    obtain ⟨p, h1, h2⟩ := resB_ok h
    simp only [h1]
    exact ⟨h2, hk⟩
  · rename_i hn
    split at h
    · rename_i xs hx
      obtain rfl := Option.some.inj h
      obtain ⟨ys, h1, h2, h3⟩ := resL_ok hx
      split
      · rename_i r; exact absurd rfl (hn r)
      · rw [h1]
        simp only
        exact ⟨h2, by rw [h3]; exact hk⟩
    · cases h
theorem evBody_ok (hc : CallOk P call) : CallOk P (evBody P call) := by
  intro g args H v H' h
  unfold evBody at h
  split at h
  · rename_i fn hf
    split at h
    · rename_i c hb
      split at h
      · rename_i ho
        simp only [Bool.and_eq_true, Bool.not_eq_true'] at ho
        refine ct_of_awp hf hb ho.1 ho.2 ?_
        split at h
        · rename_i st h1
          split at h
          · rename_i x hx
            obtain ⟨rfl, rfl⟩ := Prod.mk.inj (Option.some.inj h)
            exact evC_ok hc _ _ _ none _ _ _ h1 _ (by simp only [endK]; exact endB_ok hx ⟨rfl, rfl⟩)
          · cases h
        · rename_i st h1
          split at h
          · rename_i x hx
            obtain ⟨rfl, rfl⟩ := Prod.mk.inj (Option.some.inj h)
            exact evC_ok hc _ _ _ none _ _ _ h1 _ (by simp only [endK]; exact endB_ok hx ⟨rfl, rfl⟩)
          · cases h
        · cases h
      · cases h
    · cases h
  · cases h
theorem evK_ok : ∀ k, CallOk P (evK P k)
  | 0 => fun _ _ _ _ _ h => by cases h
  | k + 1 => evBody_ok (evK_ok k)
/-- With calls that are known already. -/
def evKO (P : Program) (orc : CallT) : Nat → CallT
  | 0 => orc
  | k + 1 => fun g args H => match orc g args H with
    | some r => some r
    | none => evBody P (evKO P orc k) g args H
theorem evKO_ok {orc : CallT} (ho : CallOk P orc) : ∀ k, CallOk P (evKO P orc k)
  | 0 => ho
  | k + 1 => by
    intro g args H v H' h
    simp only [evKO] at h
    split at h
    · rename_i r hr
      obtain rfl := Option.some.inj h
      exact ho _ _ _ _ _ hr
    · exact evBody_ok (evKO_ok ho k) _ _ _ _ _ h
theorem pu_of_evO {orc : CallT} (ho : CallOk P orc) (k : Nat) {g : FuncId} {args : List V} {x : V} (h : pcOf (evKO P orc k) g args = some x) : Pu P g args x := (pcOf_ok (evKO_ok ho k) h).1
/-- A closed call, reckoned out. -/
theorem pu_of_ev (k : Nat) {g : FuncId} {args : List V} {x : V} (h : pcOf (evK P k) g args = some x) : Pu P g args x := (pcOf_ok (evK_ok k) h).1
end
end Go.Lz

end
section
/- VA: the example of chapter 15, reckoned out. -/
namespace Go.Lz
set_option linter.unusedVariables false
set_option linter.unusedSimpArgs false
open Go.Proofs
set_option maxRecDepth 100000
theorem clone_at {f : FuncId} {fn : Func} {t s b : Nat} {rows : List (List C)} {H : List O} (hf : Tryz.prog.funcs[f]? = some fn) (h : (∀ r ∈ rows, r.length = s) ∧ rows.length * b ≤ 140737488355328 ∧ rows.length ≤ lim) (hb : fn.body = some (cloneC t 4) := by rfl) (hz : (tSl Tryz.prog t).map (fun q => (q.2.1, q.2.2, ((tZ Tryz.prog q.1).bind V.cs).map List.length)) = some (s, b, some s) := by kernel_rfl) (hs : 0 < s := by decide)
    (hname : (fn.name == "runtime.NumGoroutine") = false := by kernel_rfl) (hnt : fn.ntmps = 8 := by rfl) (hres : fn.results = #[.tmp 2] := by rfl) : Ct Tryz.prog f [.one (.sl rows)] H fun v H' => v = cloneV H rows ∧ H' = cloneH H s rows := by
  cases ht : tSl Tryz.prog t with
  | none => rw [ht] at hz; cases hz
  | some q =>
    obtain ⟨e, s', b'⟩ := q
    rw [ht] at hz
    simp only [Option.map_some, Option.some.injEq, Prod.mk.injEq] at hz
    obtain ⟨rfl, rfl, hz⟩ := hz
    cases hz' : tZ Tryz.prog e with
    | none => simp [hz'] at hz
    | some z =>
      rw [hz'] at hz
      cases hzs : z.cs with
      | none => simp [hzs] at hz
      | some zs => exact clone_ok hf hb hname hnt hres ht hz' hzs (by simpa [hzs] using hz) hs h.1 h.2.1 h.2.2
def cloneTab : List (Nat × Nat × Nat) := [(56, 1, 24), (57, 4, 32), (58, 1, 8), (59, 2, 16)]
def orcC : CallT := fun g args H => match args with
  | [.one (.sl rows)] => match cloneTab.find? (fun p => p.1 == g) with
    | some (_, s, b) => if (∀ r ∈ rows, r.length = s) ∧ rows.length * b ≤ 140737488355328 ∧ rows.length ≤ lim then some (cloneV H rows, cloneH H s rows) else none
    | none => none
  | _ => none
theorem orcC_ok : CallOk Tryz.prog orcC := by
  intro g args H v H' h
  unfold orcC at h
  split at h
  · rename_i rows
    split at h
    · rename_i g' s b hf
      split at h
      · rename_i hc
        obtain ⟨rfl, rfl⟩ := Prod.mk.inj (Option.some.inj h)
        have hm := List.mem_of_find?_eq_some hf
        have hg := List.find?_some hf
        simp only [beq_iff_eq] at hg
        subst hg
        simp only [cloneTab, List.mem_cons, Prod.mk.injEq, List.not_mem_nil, or_false] at hm
        rcases hm with ⟨rfl, rfl, rfl⟩ | ⟨rfl, rfl, rfl⟩ | ⟨rfl, rfl, rfl⟩ | ⟨rfl, rfl, rfl⟩
        · exact clone_at Tryz.func56 hc
        · exact clone_at Tryz.func57 hc
        · exact clone_at Tryz.func58 hc
        · exact clone_at Tryz.func59 hc
      · cases h
    · cases h
  · cases h
/-! The label of the term that faults. -/
def oneP15 : api_Program := ⟨⟨[[108, 111, 119], [104, 105, 103, 104]], [⟨0, 1⟩]⟩, [], [⟨[104], ⟨2, 0, 0⟩, 0, 1, 0⟩], [], []⟩
def divE15 : api_Expr := ⟨8, 0, 0, [], [⟨1, 1, 2, [], []⟩, ⟨1, 0, 2, [], []⟩]⟩
theorem label_one : Pu Tryz.prog 149 [.agg (e_api_Program oneP15), .one (.sl (([1] : List Int).map eI)), .agg (e_api_Expr divE15)] (.one (.int .i64 0)) :=
  label0_ok (lr := [1]) (pu_of_ev 20 (by kernel_rfl)) (pu_of_ev 20 (by kernel_rfl)) (pu_of_ev 20 (by kernel_rfl))
def largs : List V := [.agg (e_api_Program oneP15), .one (.sl (([1] : List Int).map eI)), .agg (e_api_Expr divE15)]
def orcE : CallT := fun g args H => match g == 149 && H.isEmpty && eqVs args largs with
  | true => some (.one (.int .i64 0), [])
  | false => orcC g args H
theorem orcE_ok : CallOk Tryz.prog orcE := by
  intro g args H v H' h
  unfold orcE at h
  split at h
  · rename_i hc
    simp only [Bool.and_eq_true, beq_iff_eq, List.isEmpty_iff] at hc
    obtain ⟨⟨rfl, rfl⟩, h3⟩ := hc
    obtain ⟨rfl, rfl⟩ := Prod.mk.inj (Option.some.inj h)
    rw [eqVs_ok h3]
    exact label_one
  · exact orcC_ok _ _ _ _ _ h
def lazarettolaw15_awake : Option Bool := some true
theorem lazarettolaw15_awake_ok {r : Bool} (h : lazarettolaw15_awake = some r) : Pu Tryz.prog 9 [] (.one (.bool r)) := by
  obtain rfl := Option.some.inj h
  exact pu_of_evO orcE_ok 40 (by kernel_rfl)
end Go.Lz

end
section
/- V15L -/
namespace Go.Lz
set_option linter.unusedVariables false
set_option linter.unusedSimpArgs false
open Go.Proofs
attribute [-go_sem] q_cond g_b gd_b
set_option maxRecDepth 100000
set_option maxHeartbeats 4000000
noncomputable section

def lazarettolaw15_EvalFresh (p : api_Program) (now : Int) : Option Bool :=
  (lazarettolaw08_Few p).bind fun r_1 => if r_1 = 0 then ((lazarettolaw15_awake).bind fun r_2 => some r_2) else ((lazarettoref14_May p).bind fun r_3 => if r_3 = true then ((eval_Fresh p now).bind fun r_4 => (lazarettoref15_Fresh p now).bind fun r_5 => (lazarettoref15_Same r_4 r_5).bind fun r_6 => if r_6 = true then ((lazarettolaw15_awake).bind fun r_7 => some r_7) else (some false)) else ((lazarettolaw15_awake).bind fun r_8 => some r_8))
end

theorem lazarettolaw15_EvalFresh_ok {p : api_Program} {now : Int} {r : Bool} (h : lazarettolaw15_EvalFresh p now = some r) :
    Pu Tryz.prog 4 [.agg (e_api_Program p), .one (.int .i64 now)] (.one (.bool r)) := by
  have F := trivial; have R := trivial
  refine pA Tryz.func4 ?_
  simp only [Tryz.f4]
  unfold lazarettolaw15_EvalFresh at h
  refine bi h fun r_1 h hr_1 => ?_
  refine tr ?_
  intros
  refine cS (lazarettolaw08_Few_ok hr_1) ?_
  refine fi h F ?_ ?_ <;> intro h _ F
  refine bi h fun r_2 h hr_2 => ?_
  refine tr ?_
  intros
  refine cS (lazarettolaw15_awake_ok hr_2) ?_
  cases h; exact fin
  refine bi h fun r_3 h hr_3 => ?_
  refine tr ?_
  intros
  refine cS (lazarettoref14_May_ok hr_3) ?_
  refine fv h F ?_ ?_ <;> intro h _ F
  refine bi h fun r_4 h hr_4 => ?_
  refine tr ?_
  intros
  refine cD (eval_Fresh_ok hr_4) ?_
  refine bi h fun r_5 h hr_5 => ?_
  refine tr ?_
  intros
  refine cD (lazarettoref15_Fresh_ok hr_5) ?_
  refine bi h fun r_6 h hr_6 => ?_
  refine tr ?_
  intros
  refine cD (lazarettoref15_Same_ok hr_6) ?_
  refine tr ?_
  intros
  refine fv h F ?_ ?_ <;> intro h _ F
  refine bi h fun r_7 h hr_7 => ?_
  refine tr ?_
  intros
  refine cD (lazarettolaw15_awake_ok hr_7) ?_
  cases h; exact fin
  cases h; exact fin
  refine bi h fun r_8 h hr_8 => ?_
  refine tr ?_
  intros
  refine cS (lazarettolaw15_awake_ok hr_8) ?_
  cases h; exact fin
end Go.Lz

end
section
/- P15L: an empty run of any program. -/
namespace Go.Lz
set_option linter.unusedVariables false
set_option linter.unusedSimpArgs false
theorem freshLaw (p : api_Program) (now : Int) : lazarettolaw15_EvalFresh p now = some true := by
  unfold lazarettolaw15_EvalFresh
  have aw : lazarettolaw15_awake = some true := rfl
  rcases few08 p with e | ⟨e, hd⟩
  · rw [e, aw]; rfl
  obtain ⟨b, hb, hq⟩ := may14 hd
  rw [e, Option.bind_some, if_neg (by decide), hb, Option.bind_some]
  cases b with
  | false => rw [aw]; rfl
  | true =>
    have P := (hq rfl).1.P
    have h1 := P.nv; have h2 := P.nb; have h3 := P.nl
    rw [if_pos rfl, evalFresh now (by omega) (by omega) (by omega), refFresh now (by omega) (by omega) (by omega), Option.bind_some, Option.bind_some, same_self, aw]
    rfl
end Go.Lz

end
section
/- ST: what values of the laws' types are, as data. -/
namespace Go.Lz
set_option linter.unusedVariables false
set_option linter.unusedSimpArgs false
open Go.Proofs
def okI (k : IntKind) (n : Int) : Prop := k.min ≤ n ∧ n ≤ k.max
def okS (s : Str) : Prop := s.length ≤ lim
def okL {α : Type} (p : α → Prop) (xs : List α) : Prop := xs.length ≤ lim ∧ ∀ x ∈ xs, p x
theorem rows_inv {P : Program} {e : TypeId} {α : Type} {f : α → List C} {ok : α → Prop} (h : ∀ cs, Ty P e cs → ∃ x, cs = f x ∧ ok x) : ∀ rows : List (List C), (∀ r ∈ rows, Ty P e r) → ∃ xs : List α, rows = xs.map f ∧ ∀ x ∈ xs, ok x
  | [], _ => ⟨[], rfl, by simp⟩
  | r :: rows, hr => by
    obtain ⟨x, e1, o1⟩ := h r (hr r (by simp))
    obtain ⟨xs, e2, o2⟩ := rows_inv h rows (fun r' hr' => hr r' (by simp [hr']))
    exact ⟨x :: xs, by rw [e1, e2]; rfl, fun y hy => by rcases List.mem_cons.1 hy with rfl | hy; exact o1; exact o2 y hy⟩
theorem rows_invB {P : Program} {e : TypeId} {α : Type} {f : α → List C} {ok : α → Prop} : ∀ rows : List (List C), (∀ r ∈ rows, Ty P e r) → (∀ r ∈ rows, Ty P e r → ∃ x, r = f x ∧ ok x) → ∃ xs : List α, rows = xs.map f ∧ ∀ x ∈ xs, ok x
  | [], _, _ => ⟨[], rfl, by simp⟩
  | r :: rows, hr, h => by
    obtain ⟨x, e1, o1⟩ := h r (by simp) (hr r (by simp))
    obtain ⟨xs, e2, o2⟩ := rows_invB rows (fun r' hr' => hr r' (by simp [hr'])) (fun r' hr' => h r' (by simp [hr']))
    exact ⟨x :: xs, by rw [e1, e2]; rfl, fun y hy => by rcases List.mem_cons.1 hy with rfl | hy; exact o1; exact o2 y hy⟩
def okA2 {α : Type} (p : α → Prop) (x : A2 α) : Prop := p x.a0 ∧ p x.a1
def okA4 {α : Type} (p : α → Prop) (x : A4 α) : Prop := p x.a0 ∧ p x.a1 ∧ p x.a2 ∧ p x.a3
set_option maxRecDepth 100000 in
theorem ti_9 (cs : List C) (h : Ty Tryz.prog 9 cs) : ∃ x : Str, cs = eS x ∧ okS x := by
  obtain ⟨n, rfl, hn⟩ := h.str_inv Tryz.underlying9
  exact ⟨n, rfl, hn⟩
set_option maxRecDepth 100000 in
theorem ti_22 (cs : List C) (h : Ty Tryz.prog 22 cs) : ∃ x : List Str, cs = (eL eS) x ∧ (okL okS) x := by
  obtain ⟨rows, rfl, hl, hr⟩ := h.slice_inv Tryz.underlying22
  obtain ⟨xs, rfl, ho⟩ := rows_inv ti_9 rows hr
  exact ⟨xs, rfl, by simpa using hl, ho⟩
set_option maxRecDepth 100000 in
theorem ti_3 (cs : List C) (h : Ty Tryz.prog 3 cs) : ∃ x : Int, cs = eI x ∧ (okI .i64) x := by
  obtain ⟨n, rfl, hn⟩ := h.int_inv Tryz.underlying3
  exact ⟨n, rfl, hn⟩
theorem tv_3 {X : V} (h : TyV Tryz.prog 3 X) : ∃ x : Int, X = .one (.int .i64 x) ∧ (okI .i64) x := by
  obtain ⟨c, rfl, h2⟩ := h.one_inv (by simp [isAggB, Tryz.underlying3])
  obtain ⟨x, e, o⟩ := ti_3 _ h2
  cases e
  exact ⟨x, rfl, o⟩
set_option maxRecDepth 100000 in
theorem ti_103 (cs : List C) (h : Ty Tryz.prog 103 cs) : ∃ x : A2 Int, cs = (eA2 eI) x ∧ (okA2 (okI .i64)) x := by
  obtain ⟨hl, hf⟩ := h.array_inv Tryz.underlying103
  have e_ : Tryz.prog.cellsOf 103 = 2 := by kernel_rfl
  rw [e_] at hl
  have e_3 : Tryz.prog.cellsOf 3 = 1 := by kernel_rfl
  obtain ⟨c0, c1, rfl⟩ : ∃ c0 c1, cs = [c0, c1] := by
    match cs, hl with
    | [c0, c1], _ => exact ⟨c0, c1, rfl⟩
  have h0 : Ty Tryz.prog 3 [c0] := by
    have := hf 0 (by decide)
    simp only [e_3] at this
    exact this
  obtain ⟨x0, q0, o0⟩ := ti_3 _ h0
  have h1 : Ty Tryz.prog 3 [c1] := by
    have := hf 1 (by decide)
    simp only [e_3] at this
    exact this
  obtain ⟨x1, q1, o1⟩ := ti_3 _ h1
  refine ⟨⟨x0, x1⟩, ?_, ⟨o0, o1⟩⟩
  have hx : (eA2 eI) ⟨x0, x1⟩ = eI x0 ++ eI x1 := by simp [go_sem]
  rw [hx, ← q0, ← q1]; rfl
set_option maxRecDepth 100000 in
theorem ti_23 (cs : List C) (h : Ty Tryz.prog 23 cs) : ∃ x : List (A2 Int), cs = (eL (eA2 eI)) x ∧ (okL (okA2 (okI .i64))) x := by
  obtain ⟨rows, rfl, hl, hr⟩ := h.slice_inv Tryz.underlying23
  obtain ⟨xs, rfl, ho⟩ := rows_inv ti_103 rows hr
  exact ⟨xs, rfl, by simpa using hl, ho⟩
def ok_api_Lattice (x : api_Lattice) : Prop := (okL okS) x.Names ∧ (okL (okA2 (okI .i64))) x.Below
set_option maxRecDepth 100000 in
theorem ti_25 (cs : List C) (h : Ty Tryz.prog 25 cs) : ∃ x : api_Lattice, cs = e_api_Lattice x ∧ ok_api_Lattice x := by
  obtain ⟨hl, hf⟩ := h.struct_inv Tryz.underlying25
  have e_ : Tryz.prog.cellsOf 25 = 2 := by kernel_rfl
  rw [e_] at hl
  have e_22 : Tryz.prog.cellsOf 22 = 1 := by kernel_rfl
  have e_23 : Tryz.prog.cellsOf 23 = 1 := by kernel_rfl
  obtain ⟨c0, c1, rfl⟩ : ∃ c0 c1, cs = [c0, c1] := by
    match cs, hl with
    | [c0, c1], _ => exact ⟨c0, c1, rfl⟩
  have h0 : Ty Tryz.prog 22 [c0] := by
    have := hf _ (List.mem_of_getElem? (i := 0) rfl)
    simp only [e_22] at this
    exact this
  obtain ⟨x0, q0, o0⟩ := ti_22 _ h0
  have h1 : Ty Tryz.prog 23 [c1] := by
    have := hf _ (List.mem_of_getElem? (i := 1) rfl)
    simp only [e_23] at this
    exact this
  obtain ⟨x1, q1, o1⟩ := ti_23 _ h1
  refine ⟨⟨x0, x1⟩, ?_, ⟨o0, o1⟩⟩
  have hx : e_api_Lattice ⟨x0, x1⟩ = (eL eS) x0 ++ (eL (eA2 eI)) x1 := by simp [go_sem]
  rw [hx, ← q0, ← q1]; rfl
def ok_api_Site (x : api_Site) : Prop := okS x.Name ∧ (okI .i64) x.From ∧ (okI .i64) x.To
set_option maxRecDepth 100000 in
theorem ti_129 (cs : List C) (h : Ty Tryz.prog 129 cs) : ∃ x : api_Site, cs = e_api_Site x ∧ ok_api_Site x := by
  obtain ⟨hl, hf⟩ := h.struct_inv Tryz.underlying129
  have e_ : Tryz.prog.cellsOf 129 = 3 := by kernel_rfl
  rw [e_] at hl
  have e_3 : Tryz.prog.cellsOf 3 = 1 := by kernel_rfl
  have e_9 : Tryz.prog.cellsOf 9 = 1 := by kernel_rfl
  obtain ⟨c0, c1, c2, rfl⟩ : ∃ c0 c1 c2, cs = [c0, c1, c2] := by
    match cs, hl with
    | [c0, c1, c2], _ => exact ⟨c0, c1, c2, rfl⟩
  have h0 : Ty Tryz.prog 9 [c0] := by
    have := hf _ (List.mem_of_getElem? (i := 0) rfl)
    simp only [e_9] at this
    exact this
  obtain ⟨x0, q0, o0⟩ := ti_9 _ h0
  have h1 : Ty Tryz.prog 3 [c1] := by
    have := hf _ (List.mem_of_getElem? (i := 1) rfl)
    simp only [e_3] at this
    exact this
  obtain ⟨x1, q1, o1⟩ := ti_3 _ h1
  have h2 : Ty Tryz.prog 3 [c2] := by
    have := hf _ (List.mem_of_getElem? (i := 2) rfl)
    simp only [e_3] at this
    exact this
  obtain ⟨x2, q2, o2⟩ := ti_3 _ h2
  refine ⟨⟨x0, x1, x2⟩, ?_, ⟨o0, o1, o2⟩⟩
  have hx : e_api_Site ⟨x0, x1, x2⟩ = eS x0 ++ eI x1 ++ eI x2 := by simp [go_sem]
  rw [hx, ← q0, ← q1, ← q2]; rfl
set_option maxRecDepth 100000 in
theorem ti_26 (cs : List C) (h : Ty Tryz.prog 26 cs) : ∃ x : List api_Site, cs = (eL e_api_Site) x ∧ (okL ok_api_Site) x := by
  obtain ⟨rows, rfl, hl, hr⟩ := h.slice_inv Tryz.underlying26
  obtain ⟨xs, rfl, ho⟩ := rows_inv ti_129 rows hr
  exact ⟨xs, rfl, by simpa using hl, ho⟩
def ok_api_Type (x : api_Type) : Prop := (okI .i64) x.Kind ∧ (okI .i64) x.Low ∧ (okI .i64) x.Len
set_option maxRecDepth 100000 in
theorem ti_64 (cs : List C) (h : Ty Tryz.prog 64 cs) : ∃ x : api_Type, cs = e_api_Type x ∧ ok_api_Type x := by
  obtain ⟨hl, hf⟩ := h.struct_inv Tryz.underlying64
  have e_ : Tryz.prog.cellsOf 64 = 3 := by kernel_rfl
  rw [e_] at hl
  have e_3 : Tryz.prog.cellsOf 3 = 1 := by kernel_rfl
  obtain ⟨c0, c1, c2, rfl⟩ : ∃ c0 c1 c2, cs = [c0, c1, c2] := by
    match cs, hl with
    | [c0, c1, c2], _ => exact ⟨c0, c1, c2, rfl⟩
  have h0 : Ty Tryz.prog 3 [c0] := by
    have := hf _ (List.mem_of_getElem? (i := 0) rfl)
    simp only [e_3] at this
    exact this
  obtain ⟨x0, q0, o0⟩ := ti_3 _ h0
  have h1 : Ty Tryz.prog 3 [c1] := by
    have := hf _ (List.mem_of_getElem? (i := 1) rfl)
    simp only [e_3] at this
    exact this
  obtain ⟨x1, q1, o1⟩ := ti_3 _ h1
  have h2 : Ty Tryz.prog 3 [c2] := by
    have := hf _ (List.mem_of_getElem? (i := 2) rfl)
    simp only [e_3] at this
    exact this
  obtain ⟨x2, q2, o2⟩ := ti_3 _ h2
  refine ⟨⟨x0, x1, x2⟩, ?_, ⟨o0, o1, o2⟩⟩
  have hx : e_api_Type ⟨x0, x1, x2⟩ = eI x0 ++ eI x1 ++ eI x2 := by simp [go_sem]
  rw [hx, ← q0, ← q1, ← q2]; rfl
def ok_api_Var (x : api_Var) : Prop := okS x.Name ∧ ok_api_Type x.Type_ ∧ (okI .i64) x.Mode ∧ (okI .i64) x.Label ∧ (okI .i64) x.Safe
set_option maxRecDepth 100000 in
theorem ti_66 (cs : List C) (h : Ty Tryz.prog 66 cs) : ∃ x : api_Var, cs = e_api_Var x ∧ ok_api_Var x := by
  obtain ⟨hl, hf⟩ := h.struct_inv Tryz.underlying66
  have e_ : Tryz.prog.cellsOf 66 = 7 := by kernel_rfl
  rw [e_] at hl
  have e_3 : Tryz.prog.cellsOf 3 = 1 := by kernel_rfl
  have e_9 : Tryz.prog.cellsOf 9 = 1 := by kernel_rfl
  have e_64 : Tryz.prog.cellsOf 64 = 3 := by kernel_rfl
  obtain ⟨c0, c1, c2, c3, c4, c5, c6, rfl⟩ : ∃ c0 c1 c2 c3 c4 c5 c6, cs = [c0, c1, c2, c3, c4, c5, c6] := by
    match cs, hl with
    | [c0, c1, c2, c3, c4, c5, c6], _ => exact ⟨c0, c1, c2, c3, c4, c5, c6, rfl⟩
  have h0 : Ty Tryz.prog 9 [c0] := by
    have := hf _ (List.mem_of_getElem? (i := 0) rfl)
    simp only [e_9] at this
    exact this
  obtain ⟨x0, q0, o0⟩ := ti_9 _ h0
  have h1 : Ty Tryz.prog 64 [c1, c2, c3] := by
    have := hf _ (List.mem_of_getElem? (i := 1) rfl)
    simp only [e_64] at this
    exact this
  obtain ⟨x1, q1, o1⟩ := ti_64 _ h1
  have h2 : Ty Tryz.prog 3 [c4] := by
    have := hf _ (List.mem_of_getElem? (i := 2) rfl)
    simp only [e_3] at this
    exact this
  obtain ⟨x2, q2, o2⟩ := ti_3 _ h2
  have h3 : Ty Tryz.prog 3 [c5] := by
    have := hf _ (List.mem_of_getElem? (i := 3) rfl)
    simp only [e_3] at this
    exact this
  obtain ⟨x3, q3, o3⟩ := ti_3 _ h3
  have h4 : Ty Tryz.prog 3 [c6] := by
    have := hf _ (List.mem_of_getElem? (i := 4) rfl)
    simp only [e_3] at this
    exact this
  obtain ⟨x4, q4, o4⟩ := ti_3 _ h4
  refine ⟨⟨x0, x1, x2, x3, x4⟩, ?_, ⟨o0, o1, o2, o3, o4⟩⟩
  have hx : e_api_Var ⟨x0, x1, x2, x3, x4⟩ = eS x0 ++ e_api_Type x1 ++ eI x2 ++ eI x3 ++ eI x4 := by simp [go_sem]
  rw [hx, ← q0, ← q1, ← q2, ← q3, ← q4]; rfl
set_option maxRecDepth 100000 in
theorem ti_27 (cs : List C) (h : Ty Tryz.prog 27 cs) : ∃ x : List api_Var, cs = (eL e_api_Var) x ∧ (okL ok_api_Var) x := by
  obtain ⟨rows, rfl, hl, hr⟩ := h.slice_inv Tryz.underlying27
  obtain ⟨xs, rfl, ho⟩ := rows_inv ti_66 rows hr
  exact ⟨xs, rfl, by simpa using hl, ho⟩
def ok_api_Block (x : api_Block) : Prop := okS x.Name ∧ okS x.Kind ∧ (okI .i64) x.Label
set_option maxRecDepth 100000 in
theorem ti_69 (cs : List C) (h : Ty Tryz.prog 69 cs) : ∃ x : api_Block, cs = e_api_Block x ∧ ok_api_Block x := by
  obtain ⟨hl, hf⟩ := h.struct_inv Tryz.underlying69
  have e_ : Tryz.prog.cellsOf 69 = 3 := by kernel_rfl
  rw [e_] at hl
  have e_3 : Tryz.prog.cellsOf 3 = 1 := by kernel_rfl
  have e_9 : Tryz.prog.cellsOf 9 = 1 := by kernel_rfl
  obtain ⟨c0, c1, c2, rfl⟩ : ∃ c0 c1 c2, cs = [c0, c1, c2] := by
    match cs, hl with
    | [c0, c1, c2], _ => exact ⟨c0, c1, c2, rfl⟩
  have h0 : Ty Tryz.prog 9 [c0] := by
    have := hf _ (List.mem_of_getElem? (i := 0) rfl)
    simp only [e_9] at this
    exact this
  obtain ⟨x0, q0, o0⟩ := ti_9 _ h0
  have h1 : Ty Tryz.prog 9 [c1] := by
    have := hf _ (List.mem_of_getElem? (i := 1) rfl)
    simp only [e_9] at this
    exact this
  obtain ⟨x1, q1, o1⟩ := ti_9 _ h1
  have h2 : Ty Tryz.prog 3 [c2] := by
    have := hf _ (List.mem_of_getElem? (i := 2) rfl)
    simp only [e_3] at this
    exact this
  obtain ⟨x2, q2, o2⟩ := ti_3 _ h2
  refine ⟨⟨x0, x1, x2⟩, ?_, ⟨o0, o1, o2⟩⟩
  have hx : e_api_Block ⟨x0, x1, x2⟩ = eS x0 ++ eS x1 ++ eI x2 := by simp [go_sem]
  rw [hx, ← q0, ← q1, ← q2]; rfl
set_option maxRecDepth 100000 in
theorem ti_28 (cs : List C) (h : Ty Tryz.prog 28 cs) : ∃ x : List api_Block, cs = (eL e_api_Block) x ∧ (okL ok_api_Block) x := by
  obtain ⟨rows, rfl, hl, hr⟩ := h.slice_inv Tryz.underlying28
  obtain ⟨xs, rfl, ho⟩ := rows_inv ti_69 rows hr
  exact ⟨xs, rfl, by simpa using hl, ho⟩
set_option maxRecDepth 100000 in
theorem ti_36 (cs : List C) (h : Ty Tryz.prog 36 cs) : ∃ x : List Int, cs = (eL eI) x ∧ (okL (okI .i64)) x := by
  obtain ⟨rows, rfl, hl, hr⟩ := h.slice_inv Tryz.underlying36
  obtain ⟨xs, rfl, ho⟩ := rows_inv ti_3 rows hr
  exact ⟨xs, rfl, by simpa using hl, ho⟩
inductive ok_api_Expr : api_Expr → Prop
  | mk {x : api_Expr} (h : (okI .i64) x.Op ∧ (okI .i64) x.N ∧ (okI .i64) x.Kind ∧ okS x.Name ∧ x.Args.length ≤ lim) (h0 : ∀ y ∈ x.Args, ok_api_Expr y) : ok_api_Expr x
theorem ok_api_Expr.all {x : api_Expr} (h : ok_api_Expr x) : (okI .i64) x.Op ∧ (okI .i64) x.N ∧ (okI .i64) x.Kind ∧ okS x.Name ∧ (okL ok_api_Expr) x.Args := by
  cases h with
  | mk h h0 => obtain ⟨a0, a1, a2, a3, b0⟩ := h; exact ⟨a0, a1, a2, a3, ⟨b0, h0⟩⟩
set_option maxRecDepth 100000 in
theorem tr_42 : ∀ (n : Nat) (cs : List C), SizeOf.sizeOf cs < n → Ty Tryz.prog 42 cs → ∃ x : api_Expr, cs = e_api_Expr x ∧ ok_api_Expr x
  | 0, cs, hs, h => by omega
  | n + 1, cs, hs, h => by
    obtain ⟨hl, hf⟩ := h.struct_inv Tryz.underlying42
    have e_ : Tryz.prog.cellsOf 42 = 5 := by kernel_rfl
    rw [e_] at hl
    have e_3 : Tryz.prog.cellsOf 3 = 1 := by kernel_rfl
    have e_9 : Tryz.prog.cellsOf 9 = 1 := by kernel_rfl
    have e_40 : Tryz.prog.cellsOf 40 = 1 := by kernel_rfl
    obtain ⟨c0, c1, c2, c3, c4, rfl⟩ : ∃ c0 c1 c2 c3 c4, cs = [c0, c1, c2, c3, c4] := by
      match cs, hl with
      | [c0, c1, c2, c3, c4], _ => exact ⟨c0, c1, c2, c3, c4, rfl⟩
    have h0 : Ty Tryz.prog 3 [c0] := by
      have := hf _ (List.mem_of_getElem? (i := 0) rfl)
      simp only [e_3] at this
      exact this
    obtain ⟨x0, q0, o0⟩ := ti_3 _ h0
    have h1 : Ty Tryz.prog 3 [c1] := by
      have := hf _ (List.mem_of_getElem? (i := 1) rfl)
      simp only [e_3] at this
      exact this
    obtain ⟨x1, q1, o1⟩ := ti_3 _ h1
    have h2 : Ty Tryz.prog 3 [c2] := by
      have := hf _ (List.mem_of_getElem? (i := 2) rfl)
      simp only [e_3] at this
      exact this
    obtain ⟨x2, q2, o2⟩ := ti_3 _ h2
    have h3 : Ty Tryz.prog 9 [c3] := by
      have := hf _ (List.mem_of_getElem? (i := 3) rfl)
      simp only [e_9] at this
      exact this
    obtain ⟨x3, q3, o3⟩ := ti_9 _ h3
    have h4 : Ty Tryz.prog 40 [c4] := by
      have := hf _ (List.mem_of_getElem? (i := 4) rfl)
      simp only [e_40] at this
      exact this
    obtain ⟨rows4, w4, l4, r4⟩ := h4.slice_inv Tryz.underlying40
    cases w4
    obtain ⟨x4, q4, o4⟩ := rows_invB rows4 r4 (fun r hr hy => tr_42 n r (by have := List.sizeOf_lt_of_mem hr; simp at hs; omega) hy)
    subst q4
    refine ⟨⟨x0, x1, x2, x3, x4⟩, ?_, .mk ⟨o0, o1, o2, o3, by simpa using l4⟩ o4⟩
    have hx : e_api_Expr ⟨x0, x1, x2, x3, x4⟩ = eI x0 ++ eI x1 ++ eI x2 ++ eS x3 ++ [.sl (x4.map e_api_Expr)] := by simp [go_sem]
    rw [hx, ← q0, ← q1, ← q2, ← q3]; rfl
theorem ti_42 (cs : List C) (h : Ty Tryz.prog 42 cs) : ∃ x : api_Expr, cs = e_api_Expr x ∧ ok_api_Expr x := tr_42 _ cs (Nat.lt_succ_self _) h
set_option maxRecDepth 100000 in
theorem ti_40 (cs : List C) (h : Ty Tryz.prog 40 cs) : ∃ x : List api_Expr, cs = (eL e_api_Expr) x ∧ (okL ok_api_Expr) x := by
  obtain ⟨rows, rfl, hl, hr⟩ := h.slice_inv Tryz.underlying40
  obtain ⟨xs, rfl, ho⟩ := rows_inv ti_42 rows hr
  exact ⟨xs, rfl, by simpa using hl, ho⟩
inductive ok_api_Stmt : api_Stmt → Prop
  | mk {x : api_Stmt} (h : (okI .i64) x.Kind ∧ okS x.Name ∧ ok_api_Expr x.Target ∧ ok_api_Expr x.Value ∧ (okL ok_api_Expr) x.Args ∧ x.Body.length ≤ lim ∧ x.Else.length ≤ lim) (h0 : ∀ y ∈ x.Body, ok_api_Stmt y) (h1 : ∀ y ∈ x.Else, ok_api_Stmt y) : ok_api_Stmt x
theorem ok_api_Stmt.all {x : api_Stmt} (h : ok_api_Stmt x) : (okI .i64) x.Kind ∧ okS x.Name ∧ ok_api_Expr x.Target ∧ ok_api_Expr x.Value ∧ (okL ok_api_Expr) x.Args ∧ (okL ok_api_Stmt) x.Body ∧ (okL ok_api_Stmt) x.Else := by
  cases h with
  | mk h h0 h1 => obtain ⟨a0, a1, a2, a3, a4, b0, b1⟩ := h; exact ⟨a0, a1, a2, a3, a4, ⟨b0, h0⟩, ⟨b1, h1⟩⟩
set_option maxRecDepth 100000 in
theorem tr_76 : ∀ (n : Nat) (cs : List C), SizeOf.sizeOf cs < n → Ty Tryz.prog 76 cs → ∃ x : api_Stmt, cs = e_api_Stmt x ∧ ok_api_Stmt x
  | 0, cs, hs, h => by omega
  | n + 1, cs, hs, h => by
    obtain ⟨hl, hf⟩ := h.struct_inv Tryz.underlying76
    have e_ : Tryz.prog.cellsOf 76 = 15 := by kernel_rfl
    rw [e_] at hl
    have e_3 : Tryz.prog.cellsOf 3 = 1 := by kernel_rfl
    have e_9 : Tryz.prog.cellsOf 9 = 1 := by kernel_rfl
    have e_40 : Tryz.prog.cellsOf 40 = 1 := by kernel_rfl
    have e_42 : Tryz.prog.cellsOf 42 = 5 := by kernel_rfl
    have e_74 : Tryz.prog.cellsOf 74 = 1 := by kernel_rfl
    obtain ⟨c0, c1, c2, c3, c4, c5, c6, c7, c8, c9, c10, c11, c12, c13, c14, rfl⟩ : ∃ c0 c1 c2 c3 c4 c5 c6 c7 c8 c9 c10 c11 c12 c13 c14, cs = [c0, c1, c2, c3, c4, c5, c6, c7, c8, c9, c10, c11, c12, c13, c14] := by
      match cs, hl with
      | [c0, c1, c2, c3, c4, c5, c6, c7, c8, c9, c10, c11, c12, c13, c14], _ => exact ⟨c0, c1, c2, c3, c4, c5, c6, c7, c8, c9, c10, c11, c12, c13, c14, rfl⟩
    have h0 : Ty Tryz.prog 3 [c0] := by
      have := hf _ (List.mem_of_getElem? (i := 0) rfl)
      simp only [e_3] at this
      exact this
    obtain ⟨x0, q0, o0⟩ := ti_3 _ h0
    have h1 : Ty Tryz.prog 9 [c1] := by
      have := hf _ (List.mem_of_getElem? (i := 1) rfl)
      simp only [e_9] at this
      exact this
    obtain ⟨x1, q1, o1⟩ := ti_9 _ h1
    have h2 : Ty Tryz.prog 42 [c2, c3, c4, c5, c6] := by
      have := hf _ (List.mem_of_getElem? (i := 2) rfl)
      simp only [e_42] at this
      exact this
    obtain ⟨x2, q2, o2⟩ := ti_42 _ h2
    have h3 : Ty Tryz.prog 42 [c7, c8, c9, c10, c11] := by
      have := hf _ (List.mem_of_getElem? (i := 3) rfl)
      simp only [e_42] at this
      exact this
    obtain ⟨x3, q3, o3⟩ := ti_42 _ h3
    have h4 : Ty Tryz.prog 40 [c12] := by
      have := hf _ (List.mem_of_getElem? (i := 4) rfl)
      simp only [e_40] at this
      exact this
    obtain ⟨x4, q4, o4⟩ := ti_40 _ h4
    have h5 : Ty Tryz.prog 74 [c13] := by
      have := hf _ (List.mem_of_getElem? (i := 5) rfl)
      simp only [e_74] at this
      exact this
    obtain ⟨rows5, w5, l5, r5⟩ := h5.slice_inv Tryz.underlying74
    cases w5
    have h6 : Ty Tryz.prog 74 [c14] := by
      have := hf _ (List.mem_of_getElem? (i := 6) rfl)
      simp only [e_74] at this
      exact this
    obtain ⟨rows6, w6, l6, r6⟩ := h6.slice_inv Tryz.underlying74
    cases w6
    obtain ⟨x5, q5, o5⟩ := rows_invB rows5 r5 (fun r hr hy => tr_76 n r (by have := List.sizeOf_lt_of_mem hr; simp at hs; omega) hy)
    obtain ⟨x6, q6, o6⟩ := rows_invB rows6 r6 (fun r hr hy => tr_76 n r (by have := List.sizeOf_lt_of_mem hr; simp at hs; omega) hy)
    subst q5 q6
    refine ⟨⟨x0, x1, x2, x3, x4, x5, x6⟩, ?_, .mk ⟨o0, o1, o2, o3, o4, by simpa using l5, by simpa using l6⟩ o5 o6⟩
    have hx : e_api_Stmt ⟨x0, x1, x2, x3, x4, x5, x6⟩ = eI x0 ++ eS x1 ++ e_api_Expr x2 ++ e_api_Expr x3 ++ (eL e_api_Expr) x4 ++ [.sl (x5.map e_api_Stmt)] ++ [.sl (x6.map e_api_Stmt)] := by simp [go_sem]
    rw [hx, ← q0, ← q1, ← q2, ← q3, ← q4]; rfl
theorem ti_76 (cs : List C) (h : Ty Tryz.prog 76 cs) : ∃ x : api_Stmt, cs = e_api_Stmt x ∧ ok_api_Stmt x := tr_76 _ cs (Nat.lt_succ_self _) h
set_option maxRecDepth 100000 in
theorem ti_74 (cs : List C) (h : Ty Tryz.prog 74 cs) : ∃ x : List api_Stmt, cs = (eL e_api_Stmt) x ∧ (okL ok_api_Stmt) x := by
  obtain ⟨rows, rfl, hl, hr⟩ := h.slice_inv Tryz.underlying74
  obtain ⟨xs, rfl, ho⟩ := rows_inv ti_76 rows hr
  exact ⟨xs, rfl, by simpa using hl, ho⟩
def ok_api_Task (x : api_Task) : Prop := (okI .i64) x.Every ∧ (okI .i64) x.Priority ∧ (okL (okI .i64)) x.Budget ∧ (okL ok_api_Stmt) x.Body
set_option maxRecDepth 100000 in
theorem ti_78 (cs : List C) (h : Ty Tryz.prog 78 cs) : ∃ x : api_Task, cs = e_api_Task x ∧ ok_api_Task x := by
  obtain ⟨hl, hf⟩ := h.struct_inv Tryz.underlying78
  have e_ : Tryz.prog.cellsOf 78 = 4 := by kernel_rfl
  rw [e_] at hl
  have e_3 : Tryz.prog.cellsOf 3 = 1 := by kernel_rfl
  have e_36 : Tryz.prog.cellsOf 36 = 1 := by kernel_rfl
  have e_74 : Tryz.prog.cellsOf 74 = 1 := by kernel_rfl
  obtain ⟨c0, c1, c2, c3, rfl⟩ : ∃ c0 c1 c2 c3, cs = [c0, c1, c2, c3] := by
    match cs, hl with
    | [c0, c1, c2, c3], _ => exact ⟨c0, c1, c2, c3, rfl⟩
  have h0 : Ty Tryz.prog 3 [c0] := by
    have := hf _ (List.mem_of_getElem? (i := 0) rfl)
    simp only [e_3] at this
    exact this
  obtain ⟨x0, q0, o0⟩ := ti_3 _ h0
  have h1 : Ty Tryz.prog 3 [c1] := by
    have := hf _ (List.mem_of_getElem? (i := 1) rfl)
    simp only [e_3] at this
    exact this
  obtain ⟨x1, q1, o1⟩ := ti_3 _ h1
  have h2 : Ty Tryz.prog 36 [c2] := by
    have := hf _ (List.mem_of_getElem? (i := 2) rfl)
    simp only [e_36] at this
    exact this
  obtain ⟨x2, q2, o2⟩ := ti_36 _ h2
  have h3 : Ty Tryz.prog 74 [c3] := by
    have := hf _ (List.mem_of_getElem? (i := 3) rfl)
    simp only [e_74] at this
    exact this
  obtain ⟨x3, q3, o3⟩ := ti_74 _ h3
  refine ⟨⟨x0, x1, x2, x3⟩, ?_, ⟨o0, o1, o2, o3⟩⟩
  have hx : e_api_Task ⟨x0, x1, x2, x3⟩ = eI x0 ++ eI x1 ++ (eL eI) x2 ++ (eL e_api_Stmt) x3 := by simp [go_sem]
  rw [hx, ← q0, ← q1, ← q2, ← q3]; rfl
set_option maxRecDepth 100000 in
theorem ti_29 (cs : List C) (h : Ty Tryz.prog 29 cs) : ∃ x : List api_Task, cs = (eL e_api_Task) x ∧ (okL ok_api_Task) x := by
  obtain ⟨rows, rfl, hl, hr⟩ := h.slice_inv Tryz.underlying29
  obtain ⟨xs, rfl, ho⟩ := rows_inv ti_78 rows hr
  exact ⟨xs, rfl, by simpa using hl, ho⟩
def ok_api_Program (x : api_Program) : Prop := ok_api_Lattice x.Lattice ∧ (okL ok_api_Site) x.Sites ∧ (okL ok_api_Var) x.Vars ∧ (okL ok_api_Block) x.Blocks ∧ (okL ok_api_Task) x.Tasks
set_option maxRecDepth 100000 in
theorem ti_31 (cs : List C) (h : Ty Tryz.prog 31 cs) : ∃ x : api_Program, cs = e_api_Program x ∧ ok_api_Program x := by
  obtain ⟨hl, hf⟩ := h.struct_inv Tryz.underlying31
  have e_ : Tryz.prog.cellsOf 31 = 6 := by kernel_rfl
  rw [e_] at hl
  have e_25 : Tryz.prog.cellsOf 25 = 2 := by kernel_rfl
  have e_26 : Tryz.prog.cellsOf 26 = 1 := by kernel_rfl
  have e_27 : Tryz.prog.cellsOf 27 = 1 := by kernel_rfl
  have e_28 : Tryz.prog.cellsOf 28 = 1 := by kernel_rfl
  have e_29 : Tryz.prog.cellsOf 29 = 1 := by kernel_rfl
  obtain ⟨c0, c1, c2, c3, c4, c5, rfl⟩ : ∃ c0 c1 c2 c3 c4 c5, cs = [c0, c1, c2, c3, c4, c5] := by
    match cs, hl with
    | [c0, c1, c2, c3, c4, c5], _ => exact ⟨c0, c1, c2, c3, c4, c5, rfl⟩
  have h0 : Ty Tryz.prog 25 [c0, c1] := by
    have := hf _ (List.mem_of_getElem? (i := 0) rfl)
    simp only [e_25] at this
    exact this
  obtain ⟨x0, q0, o0⟩ := ti_25 _ h0
  have h1 : Ty Tryz.prog 26 [c2] := by
    have := hf _ (List.mem_of_getElem? (i := 1) rfl)
    simp only [e_26] at this
    exact this
  obtain ⟨x1, q1, o1⟩ := ti_26 _ h1
  have h2 : Ty Tryz.prog 27 [c3] := by
    have := hf _ (List.mem_of_getElem? (i := 2) rfl)
    simp only [e_27] at this
    exact this
  obtain ⟨x2, q2, o2⟩ := ti_27 _ h2
  have h3 : Ty Tryz.prog 28 [c4] := by
    have := hf _ (List.mem_of_getElem? (i := 3) rfl)
    simp only [e_28] at this
    exact this
  obtain ⟨x3, q3, o3⟩ := ti_28 _ h3
  have h4 : Ty Tryz.prog 29 [c5] := by
    have := hf _ (List.mem_of_getElem? (i := 4) rfl)
    simp only [e_29] at this
    exact this
  obtain ⟨x4, q4, o4⟩ := ti_29 _ h4
  refine ⟨⟨x0, x1, x2, x3, x4⟩, ?_, ⟨o0, o1, o2, o3, o4⟩⟩
  have hx : e_api_Program ⟨x0, x1, x2, x3, x4⟩ = e_api_Lattice x0 ++ (eL e_api_Site) x1 ++ (eL e_api_Var) x2 ++ (eL e_api_Block) x3 ++ (eL e_api_Task) x4 := by simp [go_sem]
  rw [hx, ← q0, ← q1, ← q2, ← q3, ← q4]; rfl
theorem tv_31 {X : V} (h : TyV Tryz.prog 31 X) : ∃ x : api_Program, X = .agg (e_api_Program x) ∧ ok_api_Program x := by
  obtain ⟨cs, rfl, h2⟩ := h.agg_inv (by simp [isAggB, Tryz.underlying31])
  obtain ⟨x, rfl, o⟩ := ti_31 _ h2
  exact ⟨x, rfl, o⟩
def ok_api_Memory (x : api_Memory) : Prop := (okL (okL (okI .i64))) x.Cells ∧ (okL (okA4 (okI .i64))) x.Blocks
def ok_api_Event (x : api_Event) : Prop := (okI .i64) x.Site ∧ (okI .i64) x.Value
def ok_api_Run (x : api_Run) : Prop := ok_api_Memory x.Memory ∧ (okL (okI .i64)) x.Left ∧ (okL (okI .i64)) x.Latches ∧ (okL ok_api_Event) x.Events ∧ (okI .i64) x.Now
end Go.Lz


end
section
/- An empty run of any program is the one that the reference says. Over the model of the program as it was translated; no condition. Over the model of the program as it was translated; no condition. -/
namespace Go.Proofs.YtcceddpmmgabjaaGreat
set_option linter.unusedVariables false
set_option linter.unusedSimpArgs false
open Go.Lz Go.ChangeShapes Go.WideShapes Go.ChangeAt Go.RowKit

theorem ownK : ownKnob Tryz.prog.godebug = none := by kernel_rfl
theorem laidOutP : laidOutB Tryz.prog = true := by kernel_rfl

set_option maxRecDepth 100000 in
theorem evalFresh_lifted (os : Os) (started : os.Started) (H : Type) (enc : TypeId × Value → H) :
    ReturnsInHanded {} Tryz.checked os 4 .any (Rows.evalFreshSpec.pre6 enc Tryz.prog Tryz.f4 Rows.evalFreshRow.domain false) (Rows.evalFreshSpec.post enc Tryz.prog Tryz.f4 false true false false) := by
  refine lifted_of_pu (C := Tryz.checked) (S := [31, 25, 22, 9, 23, 103, 3, 26, 129, 27, 66, 64, 28, 69, 29, 78, 36, 74, 76, 42, 40]) (b := 4) ownK started (by kernel_rfl) Tryz.func4
    (ChangeSpec.witness6 (enc := enc) (C := Tryz.checked) false ⟨#[], #[.agg #[.slice none 0 0, .slice none 0 0, .slice none 0 0, .slice none 0 0, .slice none 0 0, .slice none 0 0], .int .i64 0], []⟩ 8 (by kernel_rfl) (by kernel_rfl) (by kernel_rfl) (by kernel_rfl))
    (by kernel_rfl) (by kernel_rfl) laidOutP rfl rfl Tryz.underlying4 ?_ ?_ rfl
  · intro ds hl
    match ds, hl with
    | [d0, d1], _ => rfl
  · intro Xs hT _
    obtain ⟨x0, xs, rfl, hx0, hT⟩ := TysV.cons_inv (P := Tryz.prog) (t := 31) (ts := [3]) hT
    obtain ⟨x1, xs, rfl, hx1, hT⟩ := TysV.cons_inv hT
    obtain rfl := TysV.nil_inv hT
    obtain ⟨p, rfl, o_p⟩ := tv_31 hx0
    obtain ⟨now, rfl, o_now⟩ := tv_3 hx1
    exact lazarettolaw15_EvalFresh_ok (freshLaw p now)

theorem evalFresh_holds : Rows.EvalFreshSaid :=
  OpenClaim.holds_of_wide 4 Tryz.f4 rfl rfl rfl rfl rfl rfl rfl ⟨rfl, rfl, rfl, rfl, rfl⟩ rfl rfl rfl rfl rfl (by kernel_rfl) Tryz.func4 (by kernel_rfl)
    (of_decide_eq_true (by kernel_rfl)) (by unfold Func.isWrapper; first | (rw [if_pos (by decide +kernel)]; kernel_rfl) | (rw [if_neg (by decide +kernel)]; exact ⟨rfl, rfl⟩))
    (fun os started H enc _ => evalFresh_lifted os started H enc)

#print axioms evalFresh_holds
end Go.Proofs.YtcceddpmmgabjaaGreat

end
