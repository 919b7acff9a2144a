/- Lw3: calls that turn objects which are handed to them: contracts over what is lent, and their use in regions that draw their order. -/
import Derived.Test.YtakkdadfikcpoaaDoorLw2
import Derived.Test.YtakkdadfikcpoaaDoorLzL
namespace Go.Lz
set_option linter.unusedVariables false
set_option linter.unusedSimpArgs false
theorem renRow_eK {k : IntKind} {f : Nat → Nat} {n : Int} : renRow f (eK k n) = eK k n := by simp [eK, renRow, C.ren]
theorem renRows_K {k : IntKind} {f : Nat → Nat} : ∀ {l : List Int}, renRows f (l.map (eK k)) = l.map (eK k)
  | [] => by simp [renRows]
  | n :: l => by rw [List.map_cons, renRows, renRow_eK, renRows_K (l := l)]
theorem refsRows_K {k : IntKind} {p : Nat → Bool} : ∀ {l : List Int}, refsRows p (l.map (eK k)) = true
  | [] => by simp [refsRows]
  | n :: l => by rw [List.map_cons, refsRows, refsRows_K (l := l)]; simp [eK, refsRow, C.refs]
section
variable {P : Program} {n : Cf} {Fs : List Fr} {Q : Ex → St → Prop}
/-- A contract over lent objects out of a function's text. -/
theorem pAL {f : FuncId} {fn : Func} {c : Code} {args : List V} {H : List O} {K : V → List O → Prop} (hf : P.funcs[f]? = some fn) (h : awpS P ⟨fn.ntmps, H.length⟩ [.code c] ⟨argsT 0 args, H⟩ (endK P fn.results.toList fun v H' => H.length ≤ H'.length ∧ v.lt H.length = true ∧ ((H'.take H.length).all (O.lt H.length)) = true ∧ K v (H'.take H.length)))
    (hb : fn.body = some c := by rfl) (hname : (fn.name == "runtime.NumGoroutine") = false := by kernel_rfl) (hok : okC fn.ntmps c = true := by kernel_rfl) : Ct P f args H K := ct_of_awpL hf hb hname hok (awp_of_S h)
theorem flA_refl {b : Bool} {S : List Nat} {H : List O} : flA b S H H := by cases b <;> simp [flA, agree]
/-- A call of a function that only computes, in a floating region. -/
theorem cU {f : FuncId} {args args' : List V} {H : List O} {d : Option Nat} {S Fl FE : List Nat} {k : Nat} {rest : List Oper} {t : List (Nat × V)} {x : V} (h : Pu P f args' x) (hk : awpS P n (.flo S Fl FE (k + 1) rest :: Fs) (St.put ⟨t, H⟩ d x H) Q)
    (ha : args.map (V.view H) = args' := by first | (simp [go_sem, F]; done) | rfl) (hl : ltVs 0 args' = true := by first | (simp [go_sem, F]; done) | rfl) (hx : x.lt 0 = true := by simp [go_sem, F]) (hb : args.all (fun a => !a.own) = true ∨ x.scalar = true := by first | (simp [go_sem, F]; done) | exact .inl rfl) : CtF P n f args H d S Fl FE k rest Fs t Q :=
  ⟨x, H, call_pure h ha hl hx hb ⟨rfl, rfl⟩, flA_refl, hk⟩
/-- A call that turns lent objects, in a floating region. -/
theorem cL {f : FuncId} {args0 args : List V} {H H0 H1' : List O} {d : Option Nat} {S Fl FE : List Nat} {k : Nat} {rest : List Oper} {t : List (Nat × V)} {x0 : V} (ids : List Nat) (x : V) (H1 : List O) (h : Ct P f args0 H0 fun v H' => v = x0 ∧ H' = H1')
    (hk : flA (FE.contains k) S H H1 ∧ awpS P n (.flo S Fl FE (k + 1) rest :: Fs) (St.put ⟨t, H⟩ d x H1) Q)
    (hnd : ids.Nodup := by decide) (hlt : ∀ i ∈ ids, i < H.length := by simp)
    (hH0 : lendO ids H = H0 := by first | rfl | simp [lendO, renRows_K, C.ren, renRow, renRows, O.ren, eK])
    (hcl : (ids.all fun i => (H.getD i .dead).refs (fun j => ids.contains j)) = true := by first | rfl | simp [O.refs, refsRows_K, C.refs, refsRow, refsRows, eK])
    (ha : args.map (V.ren fun j => ids.idxOf j) = args0 := by first | rfl | simp [V.ren, C.ren, renRow, renRows, eK, renRows_K])
    (har : (args.all fun x => x.refs (fun j => ids.contains j)) = true := by first | rfl | simp [V.refs, C.refs, refsRow, refsRows, eK, refsRows_K])
    (hl1 : H1'.length = ids.length := by first | rfl | simp)
    (hx1 : x0.refs (fun k => decide (k < ids.length)) = true := by first | rfl | simp [V.refs, C.refs, refsRow, refsRows, eK, refsRows_K])
    (ho1 : (H1'.all fun o => o.refs (fun k => decide (k < ids.length))) = true := by first | rfl | simp [O.refs, C.refs, refsRow, refsRows, eK, refsRows_K])
    (hx : x0.ren (fun k => ids.getD k 0) = x := by first | rfl | simp [V.ren, C.ren, renRow, renRows, eK, renRows_K])
    (hb : backO ids H H1' = H1 := by first | rfl | simp [backO, O.ren, C.ren, renRow, renRows, eK, renRows_K]) : CtF P n f args H d S Fl FE k rest Fs t Q :=
  ⟨x, H1, ct_lend ids h hnd hlt hH0 hcl ha har fun x' H' ⟨e1, e2⟩ => by subst e1; subst e2; exact ⟨hl1, hx1, ho1, hx, hb⟩, hk⟩
/-- A call that turns lent objects, in the text's order. -/
theorem cLS {f : FuncId} {args0 args : List V} {H H0 H1' : List O} {d : Option Nat} {all : Array Oper} {rest : List Oper} {t : List (Nat × V)} {x0 : V} (ids : List Nat) (x : V) (H1 : List O) (h : Ct P f args0 H0 fun v H' => v = x0 ∧ H' = H1')
    (hk : awpS P n (.ops all rest :: Fs) (St.put ⟨t, H1⟩ d x H1) Q)
    (hnd : ids.Nodup := by decide) (hlt : ∀ i ∈ ids, i < H.length := by simp)
    (hH0 : lendO ids H = H0 := by first | rfl | simp [lendO, renRows_K, C.ren, renRow, renRows, O.ren, eK])
    (hcl : (ids.all fun i => (H.getD i .dead).refs (fun j => ids.contains j)) = true := by first | rfl | simp [O.refs, refsRows_K, C.refs, refsRow, refsRows, eK])
    (ha : args.map (V.ren fun j => ids.idxOf j) = args0 := by first | rfl | simp [V.ren, C.ren, renRow, renRows, eK, renRows_K])
    (har : (args.all fun x => x.refs (fun j => ids.contains j)) = true := by first | rfl | simp [V.refs, C.refs, refsRow, refsRows, eK, refsRows_K])
    (hl1 : H1'.length = ids.length := by first | rfl | simp)
    (hx1 : x0.refs (fun k => decide (k < ids.length)) = true := by first | rfl | simp [V.refs, C.refs, refsRow, refsRows, eK, refsRows_K])
    (ho1 : (H1'.all fun o => o.refs (fun k => decide (k < ids.length))) = true := by first | rfl | simp [O.refs, C.refs, refsRow, refsRows, eK, refsRows_K])
    (hx : x0.ren (fun k => ids.getD k 0) = x := by first | rfl | simp [V.ren, C.ren, renRow, renRows, eK, renRows_K])
    (hb : backO ids H H1' = H1 := by first | rfl | simp [backO, O.ren, C.ren, renRow, renRows, eK, renRows_K]) : CtS P n f args H d all rest Fs t Q :=
  ct_lend ids h hnd hlt hH0 hcl ha har fun x' H' ⟨e1, e2⟩ => by subst e1; subst e2; refine ⟨hl1, hx1, ho1, ?_⟩; rw [hx, hb]; exact hk
end
theorem sq_i {P : Program} {pos : String} {op : Op} {t : List (Nat × V)} {H : List O} {S : List Nat} (h : stableQ P pos op (rhoL t) H S) : flS P true pos op t H S := h
theorem sq_ {P : Program} {pos : String} {op : Op} {ρ : Operand → V} {H : List O} {S : List Nat} (h : stableQ P pos op ρ H S := by
    (intro H' hA; (try simp only [agree_c, agree_n, List.getElem?_cons_zero, List.getElem?_cons_succ, and_true] at hA); first | (simp [go_sem, hA]; done) | (simp [go_sem, hA, F]; done) | (simp [go_sem, hA]; omega))) : stableQ P pos op ρ H S := h
end Go.Lz
