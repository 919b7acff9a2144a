/- P10b: the reference's check of names is answered; what it lets in. -/
import Derived.Test.YtmgedefdjobgdaaGreatP10
namespace Go.Lz
set_option linter.unusedVariables false
set_option linter.unusedSimpArgs false
theorem knownAll_all (p : api_Program) : ∀ l : List api_Expr, knownAll p l = l.all (knownN p)
  | [] => rfl
  | e :: es => by rw [knownAll, List.all_cons, knownAll_all p es]
theorem stmtsN_all (p : api_Program) : ∀ l : List api_Stmt, stmtsN p l = l.all (stmtN p)
  | [] => rfl
  | e :: es => by rw [stmtsN, List.all_cons, stmtsN_all p es]
theorem refTerms_step (p : api_Program) (l : List api_Expr) (n : Nat) (ih : ∀ x ∈ l, (lazarettoref10_term_g n).1 p x = some (knownN p x)) : (lazarettoref10_term_g (n + 1)).2 p l = some (knownAll p l) := by
  show lazarettoref10_terms_b (lazarettoref10_term_g n).1 (lazarettoref10_term_g n).2 p l = _
  unfold lazarettoref10_terms_b
  rw [loop_all (xs := l) (p := knownN p) (a := .inl false) (b := .inr ()) (fun i h => by
    simp only [lazarettoref10_terms_L1, Int.ofNat_lt, h, if_true, List.getElem?_eq_getElem h, Option.bind_some, ih _ (List.getElem_mem h)]
    split <;> rfl) (by simp [lazarettoref10_terms_L1]), knownAll_all]
  cases l.all (knownN p) <;> rfl
theorem refTerm_ok (p : api_Program) : ∀ (n : Nat) (e : api_Expr), 2 * depE e ≤ n → (lazarettoref10_term_g n).1 p e = some (knownN p e)
  | 0, e, h => by rw [depE_eq] at h; omega
  | 1, e, h => by rw [depE_eq] at h; omega
  | n + 2, e, h => by
    rw [depE_eq] at h
    have ha := refTerms_step p e.Args n fun x hx => refTerm_ok p n x (by have := depEs_mem hx; omega)
    show lazarettoref10_term_b (lazarettoref10_term_g (n + 1)).1 (lazarettoref10_term_g (n + 1)).2 p e = _
    unfold lazarettoref10_term_b
    simp only [ha, refVar, refBlock, refSite, Option.bind_some, knownN_eq, atOk]
    by_cases h2 : e.Op = 2
    · by_cases hv : varN p e.Name < 0
      · simp [h2, hv, show ¬ 0 ≤ varN p e.Name by omega]
      · simp [h2, hv, show 0 ≤ varN p e.Name by omega]
    by_cases h3 : e.Op = 3
    · by_cases hv : varN p e.Name < 0
      · simp [h3, hv, show ¬ 0 ≤ varN p e.Name by omega]
      · simp [h3, hv, show 0 ≤ varN p e.Name by omega]
    by_cases h4 : e.Op = 4
    · by_cases hv : blockN p e.Name < 0
      · simp [h4, hv, show ¬ 0 ≤ blockN p e.Name by omega]
      · simp [h4, hv, show 0 ≤ blockN p e.Name by omega]
    by_cases h5 : e.Op = 21
    · by_cases hv : siteN p e.Name < 0
      · simp [h5, hv, show ¬ 0 ≤ siteN p e.Name by omega]
      · simp [h5, hv, show 0 ≤ siteN p e.Name by omega]
    simp [h2, h3, h4, h5]
theorem refTerm {p : api_Program} {e : api_Expr} (h : depE e ≤ 1000) : lazarettoref10_term p e = some (knownN p e) := refTerm_ok p 1000000 e (by omega)
theorem refTerms {p : api_Program} {l : List api_Expr} (h : depEs l ≤ 1000) : lazarettoref10_terms p l = some (knownAll p l) :=
  refTerms_step p l 999999 fun x hx => refTerm_ok p _ x (by have := depEs_mem hx; omega)
theorem refStmts_ok (p : api_Program) : ∀ (n : Nat) (l : List api_Stmt), depSs l + 1 ≤ n → depSs l ≤ 1000 → lazarettoref10_stmts_g n p l = some (stmtsN p l)
  | 0, l, h, _ => by omega
  | n + 1, l, h, hd => by
    show lazarettoref10_stmts_b (lazarettoref10_stmts_g n) p l = _
    unfold lazarettoref10_stmts_b
    rw [loop_all (xs := l) (p := stmtN p) (a := .inl false) (b := .inr ()) (fun i hi => ?_) (by simp [lazarettoref10_stmts_L1]), stmtsN_all]
    · cases l.all (stmtN p) <;> rfl
    · simp only [lazarettoref10_stmts_L1, Int.ofNat_lt, hi, if_true, List.getElem?_eq_getElem hi, Option.bind_some]
      have dx := depSs_mem (List.getElem_mem hi)
      generalize l[i] = x at dx
      rw [depS_eq] at dx
      rw [refStmts_ok p n x.Body (by omega) (by omega), refStmts_ok p n x.Else (by omega) (by omega), refTerm (e := x.Target) (by omega), refTerm (e := x.Value) (by omega), refTerms (l := x.Args) (by omega)]
      simp only [refVar, refBlock, Option.bind_some, stmtN_eq, ownOk]
      generalize knownN p x.Target = b1
      generalize knownN p x.Value = b2
      generalize knownAll p x.Args = b3
      generalize stmtsN p x.Body = b4
      generalize stmtsN p x.Else = b5
      by_cases h4 : x.Kind = 4
      · by_cases hv : varN p x.Name < 0
        · simp [h4, hv, show ¬ 0 ≤ varN p x.Name by omega]
        · simp [h4, hv, show 0 ≤ varN p x.Name by omega]
          cases b1 <;> cases b2 <;> cases b3 <;> cases b4 <;> cases b5 <;> rfl
      by_cases h5 : x.Kind = 5
      · by_cases hv : blockN p x.Name < 0
        · simp [h5, hv, show ¬ 0 ≤ blockN p x.Name by omega]
        · simp [h5, hv, show 0 ≤ blockN p x.Name by omega]
          cases b1 <;> cases b2 <;> cases b3 <;> cases b4 <;> cases b5 <;> rfl
      simp only [h4, h5, if_false]
      cases b1 <;> cases b2 <;> cases b3 <;> cases b4 <;> cases b5 <;> rfl
theorem refStmts {p : api_Program} {l : List api_Stmt} (h : depSs l ≤ 1000) : lazarettoref10_stmts p l = some (stmtsN p l) := refStmts_ok p 1000000 l (by omega) h
theorem putN_t {α : Type} {xs : List α} {g : α → Str} {f : List Str × Nat → Option ((List Str × Nat) ⊕ List Str)} (h : xs.length ≤ 1000) (step : ∀ l i (h : i < xs.length), f (l, i) = need ((l.length + 1) * 16 ≤ 140737488355328) (some (.inl (l ++ [g xs[i]], i + 1)))) (last : ∀ l, f (l, xs.length) = some (.inr l)) (l0 : List Str) (h0 : l0.length ≤ 10000) :
    Tot (loop f (l0, 0)) fun r => r.length ≤ l0.length + 1000 := by
  refine Tot.loop (fun x => x.2 ≤ xs.length ∧ x.1.length ≤ l0.length + x.2) (fun x => xs.length - x.2) ⟨Nat.zero_le _, by simp⟩ fun ⟨l, i⟩ ⟨hi, hI⟩ => ?_
  simp only at hi hI
  by_cases h' : i < xs.length
  · rw [step l i h']
    exact Tot.need (by omega) (Tot.mk ⟨⟨h', by simp only [List.length_append, List.length_singleton]; omega⟩, by simp only; omega⟩)
  · have : i = xs.length := by omega
    subst this
    exact ⟨_, last l, show l.length ≤ _ by omega⟩
theorem check10 (p : api_Program) (hv : p.Vars.length ≤ 1000) (hb : p.Blocks.length ≤ 1000) (hs : p.Sites.length ≤ 1000) (hd : ∀ t ∈ p.Tasks, depSs t.Body ≤ 1000) : Tot (lazarettoref10_Check p) fun r => r = 0 → ∀ t ∈ p.Tasks, stmtsN p t.Body = true := by
  unfold lazarettoref10_Check
  refine (putN_t (g := (·.Name)) hv (fun l i h => by simp only [lazarettoref10_Check_L1, Int.ofNat_lt, h, if_true, List.getElem?_eq_getElem h, Option.bind_some]) (fun l => by simp [lazarettoref10_Check_L1]) [] (by simp)).bind fun l1 h1 => ?_
  simp only [List.length_nil] at h1
  refine (putN_t (g := (·.Name)) hb (fun l i h => by simp only [lazarettoref10_Check_L2, Int.ofNat_lt, h, if_true, List.getElem?_eq_getElem h, Option.bind_some]) (fun l => by simp [lazarettoref10_Check_L2]) l1 (by omega)).bind fun l2 h2 => ?_
  refine (putN_t (g := (·.Name)) hs (fun l i h => by simp only [lazarettoref10_Check_L3, Int.ofNat_lt, h, if_true, List.getElem?_eq_getElem h, Option.bind_some]) (fun l => by simp [lazarettoref10_Check_L3]) l2 (by omega)).bind fun l3 h3 => ?_
  refine Tot.bind (Tot.loop (fun i => i ≤ l3.length) (R := fun r => match r with | .inl r => r = 5 | .inr () => True) (fun i => l3.length - i) (Nat.zero_le _) fun i hi => ?_) fun r hr => ?_
  · unfold lazarettoref10_Check_L4
    refine Tot.ite (fun h => ?_) fun _ => Tot.mk trivial
    have h' : i < l3.length := by omega
    refine Tot.bind (Tot.loop (fun k => k ≤ i) (R := fun r => match r with | .inl r => r = 5 | .inr () => True) (fun k => i - k) (Nat.zero_le _) fun k hk => ?_) fun r hr => ?_
    · unfold lazarettoref10_Check_L5
      refine Tot.ite (fun h => ?_) fun _ => Tot.mk trivial
      have hk' : k < i := by omega
      exact (Tot.get h').bind fun x _ => (Tot.get (by omega)).bind fun y _ => Tot.ite (fun _ => Tot.mk rfl) fun _ => Tot.mk ⟨hk', by simp only; omega⟩
    · cases r with
      | inl r => exact Tot.mk hr
      | inr r => exact Tot.mk ⟨h', by simp only; omega⟩
  cases r with
  | inl r =>
    simp only at hr
    subst hr
    exact Tot.mk fun h => by cases h
  | inr r =>
    simp only
    rw [loop_all (xs := p.Tasks) (p := fun t => stmtsN p t.Body) (a := .inl 5) (b := .inr ()) (fun i h => by
      simp only [lazarettoref10_Check_L6, Int.ofNat_lt, h, if_true, List.getElem?_eq_getElem h, Option.bind_some, refStmts (hd _ (List.getElem_mem h))]
      split <;> rfl) (by simp [lazarettoref10_Check_L6])]
    cases hall : p.Tasks.all fun t => stmtsN p t.Body with
    | true => exact Tot.mk fun _ => List.all_eq_true.1 hall
    | false => exact Tot.mk fun h => by cases h
end Go.Lz
