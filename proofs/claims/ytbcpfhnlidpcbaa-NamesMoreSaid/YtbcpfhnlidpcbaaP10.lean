/- P10: names: who is found, how deep terms and statements are, whether all names are there, each once; the laws of chapter 10 in plain words. -/
import Derived.Test.YtbcpfhnlidpcbaaV10
import Derived.Test.YtbcpfhnlidpcbaaLp2
namespace Go.Lz
set_option linter.unusedVariables false
set_option linter.unusedSimpArgs false
theorem tf (c : Prop) : c = True ∨ c = False := (Classical.em c).elim (fun h => .inl (eq_true h)) (fun h => .inr (eq_false h))
/-! The first of which something holds. -/
def findN {α : Type} (xs : List α) (p : α → Bool) : Int := match xs.findIdx? p with | some i => (i : Int) | none => -1
theorem find_some {α : Type} (n : Nat) (xs : List α) (p : α → Bool) (hn : n = xs.length) (d : α) : (List.range n).find? (fun i => p (xs.getD i d)) = xs.findIdx? p := by
  subst hn
  induction xs with
  | nil => rfl
  | cons x xs ih =>
    rw [List.length_cons, List.range_succ_eq_map, List.find?_cons, List.findIdx?_cons]
    simp only [List.getD_cons_zero]
    cases hp : p x with
    | true => rfl
    | false =>
      rw [List.find?_map, ← ih]
      simp only [Function.comp_def, Nat.succ_eq_add_one, List.getD_cons_succ]
      rfl
theorem loop_index {α : Type} {xs : List α} {p : α → Bool} {f : Nat → Option (Nat ⊕ (Int ⊕ Unit))} (step : ∀ i (hi : i < xs.length), f i = some (if p xs[i] then .inr (.inl (i : Int)) else .inl (i + 1))) (last : f xs.length = some (.inr (.inr ()))) :
    (loop f 0).bind (fun e => match e with | .inl e => some e | .inr () => some (-1)) = some (findN xs p) := by
  cases xs with
  | nil => rw [show loop f 0 = _ from loop_inr last]; rfl
  | cons x r =>
    generalize hx : x :: r = xs at step last ⊢
    rw [loop_first xs.length (fun i => p (xs.getD i x)) (fun i => .inl (i : Int)) (.inr ()) (fun i hi => by
      rw [step i hi]; simp [List.getD_eq_getElem?_getD, hi]) last, find_some _ _ _ rfl]
    unfold findN
    cases xs.findIdx? p <;> rfl
theorem findN_nonneg {α : Type} {xs : List α} {p : α → Bool} : 0 ≤ findN xs p ↔ ∃ x ∈ xs, p x = true := by
  unfold findN
  cases h : xs.findIdx? p with
  | none =>
    have := List.findIdx?_eq_none_iff.1 h
    constructor
    · intro h; dsimp only at h; omega
    · rintro ⟨x, hx, hp⟩
      rw [this x hx] at hp; cases hp
  | some i =>
    constructor
    · intro _
      obtain ⟨hi, hp, _⟩ := List.findIdx?_eq_some_iff_getElem.1 h
      exact ⟨xs[i], List.getElem_mem hi, hp⟩
    · intro _; dsimp only; omega
theorem findN_new {α : Type} {xs : List α} {p : α → Bool} {y : α} (h : ¬ 0 ≤ findN xs p) (hy : p y = true) : findN (xs ++ [y]) p = (xs.length : Int) := by
  have h1 : ∀ x ∈ xs, p x = false := fun x hx => by
    cases hp : p x with
    | false => rfl
    | true => exact (h (findN_nonneg.2 ⟨x, hx, hp⟩)).elim
  have : (xs ++ [y]).findIdx? p = some xs.length := by
    rw [List.findIdx?_append, List.findIdx?_eq_none_iff.2 h1]
    simp [hy]
  unfold findN
  rw [this]
theorem ixVar {s : List api_Var} {f : api_Var → Option Bool} {p : api_Var → Bool} (h : ∀ x ∈ s, f x = some (p x)) : slices_IndexFunc_api_Var_api_Var s f = some (findN s p) :=
  loop_index (fun i hi => by simp [slices_IndexFunc_api_Var_api_Var_L1, hi, h _ (List.getElem_mem hi)]; cases p s[i] <;> rfl) (by simp [slices_IndexFunc_api_Var_api_Var_L1])
theorem ixBlock {s : List api_Block} {f : api_Block → Option Bool} {p : api_Block → Bool} (h : ∀ x ∈ s, f x = some (p x)) : slices_IndexFunc_api_Block_api_Block s f = some (findN s p) :=
  loop_index (fun i hi => by simp [slices_IndexFunc_api_Block_api_Block_L1, hi, h _ (List.getElem_mem hi)]; cases p s[i] <;> rfl) (by simp [slices_IndexFunc_api_Block_api_Block_L1])
theorem ixSite {s : List api_Site} {f : api_Site → Option Bool} {p : api_Site → Bool} (h : ∀ x ∈ s, f x = some (p x)) : slices_IndexFunc_api_Site_api_Site s f = some (findN s p) :=
  loop_index (fun i hi => by simp [slices_IndexFunc_api_Site_api_Site_L1, hi, h _ (List.getElem_mem hi)]; cases p s[i] <;> rfl) (by simp [slices_IndexFunc_api_Site_api_Site_L1])
theorem ixExpr {s : List api_Expr} {f : api_Expr → Option Bool} {p : api_Expr → Bool} (h : ∀ x ∈ s, f x = some (p x)) : slices_IndexFunc_api_Expr_api_Expr s f = some (findN s p) :=
  loop_index (fun i hi => by simp [slices_IndexFunc_api_Expr_api_Expr_L1, hi, h _ (List.getElem_mem hi)]; cases p s[i] <;> rfl) (by simp [slices_IndexFunc_api_Expr_api_Expr_L1])
theorem ixStmt {s : List api_Stmt} {f : api_Stmt → Option Bool} {p : api_Stmt → Bool} (h : ∀ x ∈ s, f x = some (p x)) : slices_IndexFunc_api_Stmt_api_Stmt s f = some (findN s p) :=
  loop_index (fun i hi => by simp [slices_IndexFunc_api_Stmt_api_Stmt_L1, hi, h _ (List.getElem_mem hi)]; cases p s[i] <;> rfl) (by simp [slices_IndexFunc_api_Stmt_api_Stmt_L1])
theorem any_iff {α : Type} {s : List α} {p : α → Bool} : decide (0 ≤ findN s p) = s.any p := by
  rw [Bool.eq_iff_iff, decide_eq_true_eq, findN_nonneg, List.any_eq_true]
theorem cfExpr {s : List api_Expr} {f : api_Expr → Option Bool} {p : api_Expr → Bool} (h : ∀ x ∈ s, f x = some (p x)) : slices_ContainsFunc_api_Expr_api_Expr s f = some (s.any p) := by
  unfold slices_ContainsFunc_api_Expr_api_Expr
  rw [ixExpr h, Option.bind_some, any_iff]
theorem cfStmt {s : List api_Stmt} {f : api_Stmt → Option Bool} {p : api_Stmt → Bool} (h : ∀ x ∈ s, f x = some (p x)) : slices_ContainsFunc_api_Stmt_api_Stmt s f = some (s.any p) := by
  unfold slices_ContainsFunc_api_Stmt_api_Stmt
  rw [ixStmt h, Option.bind_some, any_iff]
def varN (p : api_Program) (name : Str) : Int := findN p.Vars fun v => decide (v.Name = name)
def blockN (p : api_Program) (name : Str) : Int := findN p.Blocks fun v => decide (v.Name = name)
def siteN (p : api_Program) (name : Str) : Int := findN p.Sites fun v => decide (v.Name = name)
theorem namesVar (p : api_Program) (name : Str) : names_Var p name = some (varN p name) := by
  unfold names_Var names_find_api_Var
  rw [ixVar (f := names_find_api_Var_1 names_Var_1 name) (p := fun v => decide (v.Name = name)) (fun x _ => rfl)]; rfl
theorem namesBlock (p : api_Program) (name : Str) : names_Block p name = some (blockN p name) := by
  unfold names_Block names_find_api_Block
  rw [ixBlock (f := names_find_api_Block_1 names_Block_1 name) (p := fun v => decide (v.Name = name)) (fun x _ => rfl)]; rfl
theorem namesSite (p : api_Program) (name : Str) : names_Site p name = some (siteN p name) := by
  unfold names_Site names_find_api_Site
  rw [ixSite (f := names_find_api_Site_1 names_Site_1 name) (p := fun v => decide (v.Name = name)) (fun x _ => rfl)]; rfl
theorem refVar (p : api_Program) (name : Str) : lazarettoref10_Var p name = some (varN p name) :=
  loop_index (fun i hi => by by_cases h : p.Vars[i].Name = name <;> simp [lazarettoref10_Var_L1, hi, h]) (by simp [lazarettoref10_Var_L1])
theorem refBlock (p : api_Program) (name : Str) : lazarettoref10_Block p name = some (blockN p name) :=
  loop_index (fun i hi => by by_cases h : p.Blocks[i].Name = name <;> simp [lazarettoref10_Block_L1, hi, h]) (by simp [lazarettoref10_Block_L1])
theorem refSite (p : api_Program) (name : Str) : lazarettoref10_Site p name = some (siteN p name) :=
  loop_index (fun i hi => by by_cases h : p.Sites[i].Name = name <;> simp [lazarettoref10_Site_L1, hi, h]) (by simp [lazarettoref10_Site_L1])

/-! How deep terms and statements are. -/
mutual
def depE : api_Expr → Nat
  | ⟨_, _, _, _, args⟩ => depEs args + 1
def depEs : List api_Expr → Nat
  | [] => 0
  | e :: es => max (depE e) (depEs es)
end
mutual
def depS : api_Stmt → Nat
  | ⟨_, _, target, value, args, body, els⟩ => max (max (depE target) (depE value)) (max (depEs args) (max (depSs body) (depSs els))) + 1
def depSs : List api_Stmt → Nat
  | [] => 0
  | e :: es => max (depS e) (depSs es)
end
theorem depE_eq (e : api_Expr) : depE e = depEs e.Args + 1 := by cases e; rw [depE]
theorem depS_eq (s : api_Stmt) : depS s = max (max (depE s.Target) (depE s.Value)) (max (depEs s.Args) (max (depSs s.Body) (depSs s.Else))) + 1 := by cases s; rw [depS]
theorem depEs_le {d : Nat} : ∀ {l : List api_Expr}, (∀ (i : Nat) (h : i < l.length), depE l[i] ≤ d) → depEs l ≤ d
  | [], _ => by simp [depEs]
  | e :: es, h => by
    have h1 := h 0 (by simp)
    have h2 := depEs_le (l := es) (fun i hi => h (i + 1) (by simpa using hi))
    simp only [depEs, List.getElem_cons_zero] at h1 ⊢; omega
theorem depSs_le {d : Nat} : ∀ {l : List api_Stmt}, (∀ (i : Nat) (h : i < l.length), depS l[i] ≤ d) → depSs l ≤ d
  | [], _ => by simp [depSs]
  | e :: es, h => by
    have h1 := h 0 (by simp)
    have h2 := depSs_le (l := es) (fun i hi => h (i + 1) (by simpa using hi))
    simp only [depSs, List.getElem_cons_zero] at h1 ⊢; omega
theorem w64_pred {n : Int} (h1 : 0 ≤ n) (h2 : n ≤ 1000000) : w64 (n - 1) = n - 1 := by rw [w64_eq]; omega
/-- The measure of a term answers; what it lets in is not too deep. -/
theorem few06 : ∀ (d fuel : Nat), d < fuel → d ≤ 1000 → ∀ (e : api_Expr) (left : Int), ∃ r, lazarettolaw06_Few_g fuel e (d : Int) left = some r ∧ (0 ≤ r → depE e ≤ d)
  | d, 0, h, _, _, _ => by omega
  | 0, fuel + 1, _, _, e, left => ⟨-1, by simp [lazarettolaw06_Few_g, lazarettolaw06_Few_b], by omega⟩
  | d + 1, fuel + 1, h, hd, e, left => by
    have e1 : w64 (((d + 1 : Nat) : Int) - 1) = (d : Int) := by rw [w64_pred (by omega) (by omega)]; omega
    have e2 : ¬ (((d + 1 : Nat) : Int) < 1) := by omega
    simp only [lazarettolaw06_Few_g, lazarettolaw06_Few_b, e2, if_false]
    generalize w64 (left - (w64 ((w64 (1 + (e.Args.length : Int))) + (w64 ((e.Name.length : Int).tdiv 100))))) = l0
    by_cases hl : l0 < 0
    · exact ⟨-1, by simp [hl], by omega⟩
    simp only [hl, if_false]
    obtain ⟨r, hr, hR⟩ := loop_inv (f := lazarettolaw06_Few_L1 (lazarettolaw06_Few_g fuel) e ((d + 1 : Nat) : Int)) (fun s => s.2 ≤ e.Args.length ∧ (0 ≤ s.1 → ∀ (j : Nat) (h : j < e.Args.length), j < s.2 → depE e.Args[j] ≤ d))
      (fun r => 0 ≤ r → depE e ≤ d + 1) (fun s => e.Args.length - s.2) (fun ⟨left, i⟩ ⟨hi, hI⟩ => by
        simp only at hi hI
        by_cases h1 : i < e.Args.length
        · by_cases h2 : 0 ≤ left
          · obtain ⟨r, hr, hR⟩ := few06 d fuel (by omega) (by omega) e.Args[i] left
            refine .inl ⟨(r, i + 1), ?_, ⟨h1, fun h0 j hj hji => ?_⟩, by simp only; omega⟩
            · simp only [lazarettolaw06_Few_L1, Int.ofNat_lt, h1, h2, if_true, List.getElem?_eq_getElem h1, Option.bind_some, e1, hr]
            · by_cases hj2 : j = i
              · subst hj2; exact hR h0
              · exact hI h2 j hj (by omega)
          · exact .inr ⟨left, by simp [lazarettolaw06_Few_L1, h1, h2], fun h => (h2 h).elim⟩
        · refine .inr ⟨left, by simp [lazarettolaw06_Few_L1, h1], fun h => ?_⟩
          rw [depE_eq]
          have := depEs_le (fun j hj => hI h j hj (by omega))
          omega) (l0, 0) ⟨Nat.zero_le _, fun _ j _ hj => by simp at hj⟩
    exact ⟨r, by rw [hr]; rfl, hR⟩
theorem few06_60 (e : api_Expr) (left : Int) : ∃ r, lazarettolaw06_Few e 60 left = some r ∧ (0 ≤ r → depE e ≤ 60) := few06 60 1000000 (by omega) (by omega) e left
theorem few07 : ∀ (d fuel : Nat), d + 1 < fuel → d ≤ 1000 → ∀ (l : List api_Stmt) (left : Int), ∃ r, lazarettolaw07_Few_g fuel l (d : Int) left = some r ∧ (0 ≤ r → depSs l ≤ d + 60)
  | d, 0, h, _, _, _ => by omega
  | d, fuel + 1, h, hd, [], left => by
    simp only [lazarettolaw07_Few_g, lazarettolaw07_Few_b, List.length_nil]
    have e0 : ¬ (0 < ((0 : Nat) : Int)) := by omega
    simp only [e0, if_false]
    generalize w64 (left - ((0 : Nat) : Int)) = l0
    by_cases hl : l0 < 0
    · exact ⟨-1, by simp [hl], by omega⟩
    · refine ⟨l0, ?_, fun _ => by simp [depSs]⟩
      simp only [hl, if_false]
      rw [loop_inr (r := l0) (by simp [lazarettolaw07_Few_L2])]; rfl
  | 0, fuel + 1, _, _, s :: l, left => ⟨-1, by simp [lazarettolaw07_Few_g, lazarettolaw07_Few_b], by omega⟩
  | d + 1, fuel + 1, h, hd, s :: l, left => by
    generalize hl' : s :: l = ll
    have e1 : w64 (((d + 1 : Nat) : Int) - 1) = (d : Int) := by rw [w64_pred (by omega) (by omega)]; omega
    have e2 : ¬ (((d + 1 : Nat) : Int) < 1) := by omega
    have e3 : 0 < (ll.length : Int) := by subst hl'; simp
    simp only [lazarettolaw07_Few_g, lazarettolaw07_Few_b, e2, e3, if_true, if_false]
    generalize w64 (left - (ll.length : Int)) = l0
    by_cases hl : l0 < 0
    · exact ⟨-1, by simp [hl], by omega⟩
    simp only [hl, if_false]
    obtain ⟨r, hr, hR⟩ := loop_inv (f := lazarettolaw07_Few_L1 (lazarettolaw07_Few_g fuel) ll ((d + 1 : Nat) : Int)) (fun s => s.2 ≤ ll.length ∧ (0 ≤ s.1 → ∀ (j : Nat) (h : j < ll.length), j < s.2 → depS ll[j] ≤ d + 1 + 60))
      (fun r => 0 ≤ r → depSs ll ≤ d + 1 + 60) (fun s => ll.length - s.2) (fun ⟨left, i⟩ ⟨hi, hI⟩ => by
        simp only at hi hI
        by_cases h1 : i < ll.length
        · by_cases h2 : 0 ≤ left
          · generalize hs : ll[i] = s at *
            have next : ∀ r : Int, (0 ≤ r → depS s ≤ d + 1 + 60) → (i + 1 ≤ ll.length ∧ (0 ≤ r → ∀ (j : Nat) (h : j < ll.length), j < i + 1 → depS ll[j] ≤ d + 1 + 60)) := fun r hr => ⟨h1, fun h0 j hj hji => by
              by_cases hj2 : j = i
              · subst hj2; rw [hs]; exact hr h0
              · exact hI h2 j hj (by omega)⟩
            obtain ⟨r1, hr1, hR1⟩ := few06_60 s.Target (w64 (left - (w64 ((s.Name.length : Int).tdiv 100))))
            have base : lazarettolaw07_Few_L1 (lazarettolaw07_Few_g fuel) ll ((d + 1 : Nat) : Int) (left, i) = lazarettolaw07_Few_L1 (lazarettolaw07_Few_g fuel) ll ((d + 1 : Nat) : Int) (left, i) := rfl
            conv at base => rhs; simp only [lazarettolaw07_Few_L1, Int.ofNat_lt, h1, h2, if_true, List.getElem?_eq_getElem h1, Option.bind_some, hs, hr1, e1]
            by_cases k1 : 0 ≤ r1
            case neg => exact .inl ⟨(r1, i + 1), by rw [base]; simp [k1], next r1 (fun h => (k1 h).elim), by simp only; omega⟩
            obtain ⟨r2, hr2, hR2⟩ := few06_60 s.Value r1
            simp only [k1, if_true, hr2, Option.bind_some] at base
            by_cases k2 : 0 ≤ r2
            case neg => exact .inl ⟨(r2, i + 1), by rw [base]; simp [k2], next r2 (fun h => (k2 h).elim), by simp only; omega⟩
            obtain ⟨r3, hr3, hR3⟩ := few06_60 (⟨0, 0, 0, [], s.Args⟩ : api_Expr) r2
            simp only [k2, if_true, hr3, Option.bind_some] at base
            by_cases k3 : 0 ≤ r3
            case neg => exact .inl ⟨(r3, i + 1), by rw [base]; simp [k3], next r3 (fun h => (k3 h).elim), by simp only; omega⟩
            obtain ⟨r4, hr4, hR4⟩ := few07 d fuel (by omega) (by omega) s.Body r3
            simp only [k3, if_true, hr4, Option.bind_some] at base
            by_cases k4 : 0 ≤ r4
            case neg => exact .inl ⟨(r4, i + 1), by rw [base]; simp [k4], next r4 (fun h => (k4 h).elim), by simp only; omega⟩
            obtain ⟨r5, hr5, hR5⟩ := few07 d fuel (by omega) (by omega) s.Else r4
            simp only [k4, if_true, hr5, Option.bind_some] at base
            refine .inl ⟨(r5, i + 1), base, next r5 (fun h0 => ?_), by simp only; omega⟩
            have a1 := hR1 k1; have a2 := hR2 k2; have a3 := hR3 k3; have a4 := hR4 k4; have a5 := hR5 h0
            rw [depE_eq] at a3
            rw [depS_eq]
            simp only at a3
            omega
          · exact .inr ⟨left, by simp [lazarettolaw07_Few_L1, h1, h2], fun h => (h2 h).elim⟩
        · exact .inr ⟨left, by simp [lazarettolaw07_Few_L1, h1], fun h => depSs_le (fun j hj => hI h j hj (by omega))⟩) (l0, 0) ⟨Nat.zero_le _, fun _ j _ hj => by simp at hj⟩
    exact ⟨r, by rw [hr]; rfl, hR⟩
theorem few07_60 (l : List api_Stmt) (left : Int) : ∃ r, lazarettolaw07_Few l 60 left = some r ∧ (0 ≤ r → depSs l ≤ 120) := few07 60 1000000 (by omega) (by omega) l left
/-- A program that is let in is not too deep. -/
theorem few08L (p : api_Program) (h1 : p.Lattice.Names.length ≤ 281474976710656) (h2 : p.Lattice.Below.length ≤ 281474976710656) (h3 : p.Sites.length ≤ 281474976710656) (h4 : p.Vars.length ≤ 281474976710656) (h5 : p.Blocks.length ≤ 281474976710656) :
    lazarettolaw08_Few p = some 0 ∨ p.Vars.length ≤ 500 := by
  unfold lazarettolaw08_Few
  split
  · exact .inl rfl
  · rename_i h
    simp only [w64_eq] at h
    exact .inr (by omega)
theorem few08 (p : api_Program) : lazarettolaw08_Few p = some 0 ∨ (lazarettolaw08_Few p = some 1 ∧ ∀ t ∈ p.Tasks, depSs t.Body ≤ 120) := by
  unfold lazarettolaw08_Few
  split
  · exact .inl rfl
  split
  · exact .inl rfl
  obtain ⟨r, hr, hR⟩ := loop_inv (f := lazarettolaw08_Few_L1 p) (fun i => i ≤ p.Tasks.length ∧ ∀ (j : Nat) (h : j < p.Tasks.length), j < i → depSs p.Tasks[j].Body ≤ 120)
    (fun r => r = .inl 0 ∨ (r = .inr () ∧ ∀ t ∈ p.Tasks, depSs t.Body ≤ 120)) (fun i => p.Tasks.length - i) (fun i ⟨hi, hI⟩ => by
      by_cases h1 : i < p.Tasks.length
      · by_cases h2 : 100 < (p.Tasks[i].Budget.length : Int)
        · exact .inr ⟨.inl 0, by simp [lazarettolaw08_Few_L1, h1, h2], .inl rfl⟩
        · obtain ⟨r, hr, hR⟩ := few07_60 p.Tasks[i].Body 2000
          have h2' : ¬ (100 < p.Tasks[i].Budget.length) := by omega
          by_cases h3 : r < 0
          · exact .inr ⟨.inl 0, by simp [lazarettolaw08_Few_L1, h1, h2, h2', hr, h3], .inl rfl⟩
          · refine .inl ⟨i + 1, by simp [lazarettolaw08_Few_L1, h1, h2, h2', hr, h3], ⟨h1, fun j hj hji => ?_⟩, by omega⟩
            by_cases hj2 : j = i
            · subst hj2; exact hR (by omega)
            · exact hI j hj (by omega)
      · refine .inr ⟨.inr (), by simp [lazarettolaw08_Few_L1, h1], .inr ⟨rfl, fun t ht => ?_⟩⟩
        obtain ⟨j, hj, rfl⟩ := List.getElem_of_mem ht
        exact hI j hj (by omega)) 0 ⟨Nat.zero_le _, fun j _ hj => by simp at hj⟩
  rw [hr]
  rcases hR with rfl | ⟨rfl, hR⟩
  · exact .inl rfl
  · exact .inr ⟨rfl, hR⟩

/-! Whether all names are there. -/
def atOk (p : api_Program) (op : Int) (name : Str) : Bool :=
  if op = 2 ∨ op = 3 then decide (0 ≤ varN p name) else if op = 4 then decide (0 ≤ blockN p name) else if op = 21 then decide (0 ≤ siteN p name) else true
mutual
def knownN (p : api_Program) : api_Expr → Bool
  | ⟨op, _, _, name, args⟩ => atOk p op name && knownAll p args
def knownAll (p : api_Program) : List api_Expr → Bool
  | [] => true
  | e :: es => knownN p e && knownAll p es
end
def ownOk (p : api_Program) (kind : Int) (name : Str) : Bool :=
  if kind = 4 then decide (0 ≤ varN p name) else if kind = 5 then decide (0 ≤ blockN p name) else true
mutual
def stmtN (p : api_Program) : api_Stmt → Bool
  | ⟨kind, name, target, value, args, body, els⟩ => ownOk p kind name && knownN p target && knownN p value && knownAll p args && stmtsN p body && stmtsN p els
def stmtsN (p : api_Program) : List api_Stmt → Bool
  | [] => true
  | e :: es => stmtN p e && stmtsN p es
end
theorem knownN_eq (p : api_Program) (e : api_Expr) : knownN p e = (atOk p e.Op e.Name && knownAll p e.Args) := by cases e; rw [knownN]
theorem stmtN_eq (p : api_Program) (s : api_Stmt) : stmtN p s = (ownOk p s.Kind s.Name && knownN p s.Target && knownN p s.Value && knownAll p s.Args && stmtsN p s.Body && stmtsN p s.Else) := by cases s; rw [stmtN]
theorem any_knownAll {p : api_Program} : ∀ {l : List api_Expr}, (!l.any fun e => !knownN p e) = knownAll p l
  | [] => rfl
  | e :: es => by rw [List.any_cons, knownAll, ← any_knownAll (l := es)]; cases knownN p e <;> simp
theorem any_stmtsN {p : api_Program} : ∀ {l : List api_Stmt}, (!l.any fun e => !stmtN p e) = stmtsN p l
  | [] => rfl
  | e :: es => by rw [List.any_cons, stmtsN, ← any_stmtsN (l := es)]; cases stmtN p e <;> simp
mutual
theorem known_ok (p : api_Program) : ∀ (e : api_Expr) (n : Nat), 3 * depE e ≤ n → (names_known_g n).1 p e = some (knownN p e)
  | ⟨op, N, K, name, args⟩, n, h => by
    rw [depE] at h
    obtain ⟨m, rfl⟩ : ∃ m, n = m + 3 := ⟨n - 3, by omega⟩
    have ih := all_each p args m (by omega)
    have ha : (names_known_g (m + 2)).2.1 p args = some (knownAll p args) := by
      show names_all_b (names_known_g (m + 1)).1 (names_known_g (m + 1)).2.1 (names_known_g (m + 1)).2.2 p args = _
      unfold names_all_b
      rw [cfExpr (p := fun e => !knownN p e) (fun x hx => by
        show names_all_1_b (names_known_g m).1 (names_known_g m).2.1 (names_known_g m).2.2 p x = _
        unfold names_all_1_b
        rw [ih x hx]; rfl), Option.bind_some, any_knownAll]
    show names_known_b (names_known_g (m + 2)).1 (names_known_g (m + 2)).2.1 (names_known_g (m + 2)).2.2 p _ = _
    unfold names_known_b
    simp only [ha, namesVar, namesBlock, namesSite, Option.bind_some, knownN, atOk]
    by_cases h2 : op = 2
    · rcases tf (0 ≤ varN p name) with hv | hv <;> simp [h2, hv]
    by_cases h3 : op = 3
    · rcases tf (0 ≤ varN p name) with hv | hv <;> simp [h3, hv]
    by_cases h4 : op = 4
    · rcases tf (0 ≤ blockN p name) with hv | hv <;> simp [h4, hv]
    by_cases h5 : op = 21
    · rcases tf (0 ≤ siteN p name) with hv | hv <;> simp [h5, hv]
    simp [h2, h3, h4, h5]
theorem all_each (p : api_Program) : ∀ (l : List api_Expr) (n : Nat), 3 * depEs l ≤ n → ∀ x ∈ l, (names_known_g n).1 p x = some (knownN p x)
  | [], _, _, x, hx => by cases hx
  | e :: es, n, h, x, hx => by
    rw [depEs] at h
    rcases List.mem_cons.1 hx with hx | hx
    · rw [hx]; exact known_ok p e n (by omega)
    · exact all_each p es n (by omega) x hx
end
theorem namesKnown {p : api_Program} {e : api_Expr} (h : depE e ≤ 1000) : names_known p e = some (knownN p e) := known_ok p e 1000000 (by omega)
theorem namesAll {p : api_Program} {l : List api_Expr} (h : depEs l ≤ 1000) : names_all p l = some (knownAll p l) := by
  have ih := all_each p l 999998 (by omega)
  show names_all_b (names_known_g 999999).1 (names_known_g 999999).2.1 (names_known_g 999999).2.2 p l = _
  unfold names_all_b
  rw [cfExpr (p := fun e => !knownN p e) (fun x hx => by
    show names_all_1_b (names_known_g 999998).1 (names_known_g 999998).2.1 (names_known_g 999998).2.2 p x = _
    unfold names_all_1_b
    rw [ih x hx]; rfl), Option.bind_some, any_knownAll]
mutual
theorem stmt_ok (p : api_Program) : ∀ (s : api_Stmt) (n : Nat), 2 * depS s ≤ n → depS s ≤ 1000 → (names_stmts_g n).2 p s = some (!stmtN p s)
  | ⟨kind, name, target, value, args, body, els⟩, n, h, hd => by
    rw [depS] at h hd
    obtain ⟨m, rfl⟩ : ∃ m, n = m + 2 := ⟨n - 2, by omega⟩
    have ib := stmt_each p body m (by omega) (by omega)
    have ie := stmt_each p els m (by omega) (by omega)
    have hb : (names_stmts_g (m + 1)).1 p body = some (stmtsN p body) := by
      show names_stmts_b (names_stmts_g m).1 (names_stmts_g m).2 p body = _
      unfold names_stmts_b
      rw [cfStmt (p := fun e => !stmtN p e) ib, Option.bind_some, any_stmtsN]
    have he : (names_stmts_g (m + 1)).1 p els = some (stmtsN p els) := by
      show names_stmts_b (names_stmts_g m).1 (names_stmts_g m).2 p els = _
      unfold names_stmts_b
      rw [cfStmt (p := fun e => !stmtN p e) ie, Option.bind_some, any_stmtsN]
    show names_stmts_1_b (names_stmts_g (m + 1)).1 (names_stmts_g (m + 1)).2 p _ = _
    unfold names_stmts_1_b
    have a1 := namesKnown (p := p) (e := target) (by omega)
    have a2 := namesKnown (p := p) (e := value) (by omega)
    have a3 := namesAll (p := p) (l := args) (by omega)
    simp only [hb, he, a1, a2, a3, namesVar, namesBlock, Option.bind_some, stmtN, ownOk]
    generalize knownN p target = b1
    generalize knownN p value = b2
    generalize knownAll p args = b3
    generalize stmtsN p body = b4
    generalize stmtsN p els = b5
    by_cases h4 : kind = 4
    · rcases tf (0 ≤ varN p name) with hv | hv <;> simp [h4, hv] <;> cases b1 <;> cases b2 <;> cases b3 <;> cases b4 <;> simp
    by_cases h5 : kind = 5
    · rcases tf (0 ≤ blockN p name) with hv | hv <;> simp [h5, hv] <;> cases b1 <;> cases b2 <;> cases b3 <;> cases b4 <;> simp
    simp only [h4, h5, if_false]
    cases b1 <;> cases b2 <;> cases b3 <;> cases b4 <;> simp
theorem stmt_each (p : api_Program) : ∀ (l : List api_Stmt) (n : Nat), 2 * depSs l ≤ n → depSs l ≤ 1000 → ∀ x ∈ l, (names_stmts_g n).2 p x = some (!stmtN p x)
  | [], _, _, _, x, hx => by cases hx
  | e :: es, n, h, hd, x, hx => by
    rw [depSs] at h hd
    rcases List.mem_cons.1 hx with hx | hx
    · rw [hx]; exact stmt_ok p e n (by omega) (by omega)
    · exact stmt_each p es n (by omega) (by omega) x hx
end
theorem namesStmts {p : api_Program} {l : List api_Stmt} (h : depSs l ≤ 1000) : names_stmts p l = some (stmtsN p l) := by
  have ih := stmt_each p l 999999 (by omega) h
  show names_stmts_b (names_stmts_g 999999).1 (names_stmts_g 999999).2 p l = _
  unfold names_stmts_b
  rw [cfStmt (p := fun e => !stmtN p e) ih, Option.bind_some, any_stmtsN]

/-! Each name once. -/
def noteF (x : List (Str × Bool) × Bool) (s : Str) : List (Str × Bool) × Bool := (mset s true x.1, x.2 && !(mget s x.1).getD false)
theorem note_seen (k : Str) : ∀ (L : List Str) (x : List (Str × Bool) × Bool), (mget k (L.foldl noteF x).1).getD false = ((mget k x.1).getD false || decide (k ∈ L))
  | [], x => by simp
  | s :: L, x => by
    rw [List.foldl_cons, note_seen k L]
    by_cases h : k = s
    · subst h; simp [noteF, mget_same]
    · simp [noteF, mget_other h, h]
theorem note_ok : ∀ (L : List Str) (x : List (Str × Bool) × Bool), (L.foldl noteF x).2 = true ↔ x.2 = true ∧ L.Nodup ∧ ∀ s ∈ L, (mget s x.1).getD false = false
  | [], x => by simp
  | s :: L, x => by
    rw [List.foldl_cons, note_ok L]
    simp only [noteF, Bool.and_eq_true, Bool.not_eq_true', List.nodup_cons, List.mem_cons]
    constructor
    · rintro ⟨⟨h1, h2⟩, h3, h4⟩
      refine ⟨h1, ⟨fun hs => ?_, h3⟩, fun t ht => ?_⟩
      · have := h4 s hs
        rw [mget_same] at this; cases this
      · rcases ht with rfl | ht
        · exact h2
        · have := h4 t ht
          by_cases e : t = s
          · subst e; exact h2
          · rwa [mget_other e] at this
    · rintro ⟨h1, ⟨h2, h3⟩, h4⟩
      refine ⟨⟨h1, h4 s (.inl rfl)⟩, h3, fun t ht => ?_⟩
      have e : t ≠ s := fun e => h2 (e ▸ ht)
      rw [mget_other e]
      exact h4 t (.inr ht)
def allNames (p : api_Program) : List Str := p.Vars.map (·.Name) ++ (p.Blocks.map (·.Name) ++ p.Sites.map (·.Name))
theorem map_step {α : Type} {xs : List α} {g : α → Str} {x : List (Str × Bool) × Bool} {i : Nat} (h : i < xs.length) : ((xs.map g).take (i + 1)).foldl noteF x = noteF (((xs.map g).take i).foldl noteF x) (g xs[i]) := by
  rw [List.take_add_one, List.foldl_append]
  simp [h]
theorem noteLoop {α : Type} {xs : List α} {g : α → Str} {f : List (Str × Bool) × Bool × Nat → Option ((List (Str × Bool) × Bool × Nat) ⊕ (List (Str × Bool) × Bool))} (x : List (Str × Bool) × Bool)
    (step : ∀ m ok i (h : i < xs.length), f (m, ok, i) = some (.inl ((noteF (m, ok) (g xs[i])).1, (noteF (m, ok) (g xs[i])).2, i + 1))) (last : ∀ m ok, f (m, ok, xs.length) = some (.inr (m, ok))) :
    loop f (x.1, x.2, 0) = some ((xs.map g).foldl noteF x) := by
  have e0 : (x.1, x.2, 0) = (fun i => ((((xs.map g).take i).foldl noteF x).1, (((xs.map g).take i).foldl noteF x).2, i)) 0 := by simp
  rw [e0, loop_for (fun i => ((((xs.map g).take i).foldl noteF x).1, (((xs.map g).take i).foldl noteF x).2, i)) xs.length ((xs.map g).foldl noteF x) (fun i hi => by
    simp only [map_step hi]; exact step _ _ i hi) (by
    rw [last, List.take_of_length_le (by simp)])]
theorem namesCheck {p : api_Program} (h : ∀ t ∈ p.Tasks, depSs t.Body ≤ 1000) : names_Check p = some (if (allNames p).Nodup ∧ (p.Tasks.all fun t => stmtsN p t.Body) = true then 0 else 5) := by
  unfold names_Check
  have h1 := noteLoop (f := names_Check_L1 p) (xs := p.Vars) (g := (·.Name)) ([], true) (fun m ok i hi => by cases ok <;> simp [names_Check_L1, hi, noteF]) (fun m ok => by simp [names_Check_L1])
  rw [h1, Option.bind_some]
  generalize hx1 : (p.Vars.map (·.Name)).foldl noteF ([], true) = x1
  have h2 := noteLoop (f := names_Check_L2 p) (xs := p.Blocks) (g := (·.Name)) x1 (fun m ok i hi => by cases ok <;> simp [names_Check_L2, hi, noteF]) (fun m ok => by simp [names_Check_L2])
  obtain ⟨m1, k1⟩ := x1
  try simp only at h2 ⊢
  rw [h2, Option.bind_some]
  generalize hx2 : (p.Blocks.map (·.Name)).foldl noteF (m1, k1) = x2
  have h3 := noteLoop (f := names_Check_L3 p) (xs := p.Sites) (g := (·.Name)) x2 (fun m ok i hi => by cases ok <;> simp [names_Check_L3, hi, noteF]) (fun m ok => by simp [names_Check_L3])
  obtain ⟨m2, k2⟩ := x2
  try simp only at h3 ⊢
  rw [h3, Option.bind_some]
  have e : (p.Sites.map (·.Name)).foldl noteF (m2, k2) = (allNames p).foldl noteF ([], true) := by
    rw [← hx2, ← hx1, allNames, List.foldl_append, List.foldl_append]
  rw [e]
  have hk := note_ok (allNames p) ([], true)
  generalize (allNames p).foldl noteF ([], true) = x3 at hk ⊢
  obtain ⟨m3, k3⟩ := x3
  try simp only at hk ⊢
  have hk' : k3 = true ↔ (allNames p).Nodup := by rw [hk]; simp [mget]
  have h4 : loop (names_Check_L4 p) (k3, 0) = some (k3 && p.Tasks.all fun t => stmtsN p t.Body) := by
    rw [show (k3, 0) = (fun i => (k3 && (p.Tasks.take i).all fun t => stmtsN p t.Body, i)) 0 by simp]
    refine loop_for (fun i => (k3 && (p.Tasks.take i).all fun t => stmtsN p t.Body, i)) p.Tasks.length _ (fun i hi => ?_) (by simp [names_Check_L4])
    have hs := namesStmts (p := p) (l := p.Tasks[i].Body) (h _ (List.getElem_mem hi))
    have ht : (p.Tasks.take (i + 1)).all (fun t => stmtsN p t.Body) = ((p.Tasks.take i).all (fun t => stmtsN p t.Body) && stmtsN p p.Tasks[i].Body) := by
      rw [List.take_add_one, List.all_append]; simp [hi]
    simp only [ht]
    generalize (p.Tasks.take i).all (fun t => stmtsN p t.Body) = b
    cases k3 <;> cases b <;> simp [names_Check_L4, hi, hs]
  rw [h4, Option.bind_some]
  cases hk3 : k3 with
  | true =>
    have hn := hk'.1 hk3
    cases hb : p.Tasks.all fun t => stmtsN p t.Body <;> simp [hn]
  | false =>
    have hn : ¬ (allNames p).Nodup := fun h => by rw [hk'.2 h] at hk3; cases hk3
    simp [hn]

/-! The laws. -/
theorem findsLaw (aw : lazarettolaw10_awake = some true) (p : api_Program) (name : Str) : lazarettolaw10_NamesFinds p name = some true := by
  unfold lazarettolaw10_NamesFinds
  rw [aw]
  rcases few08 p with e | ⟨e, _⟩
  · simp [e]
  · simp [e, namesVar, namesBlock, namesSite, refVar, refBlock, refSite]
theorem var_mem {p : api_Program} {name : Str} : 0 ≤ varN p name ↔ name ∈ p.Vars.map (·.Name) := by
  unfold varN; rw [findN_nonneg]; simp
theorem block_mem {p : api_Program} {name : Str} : 0 ≤ blockN p name ↔ name ∈ p.Blocks.map (·.Name) := by
  unfold blockN; rw [findN_nonneg]; simp
theorem site_mem {p : api_Program} {name : Str} : 0 ≤ siteN p name ↔ name ∈ p.Sites.map (·.Name) := by
  unfold siteN; rw [findN_nonneg]; simp
theorem oneLaw (aw : lazarettolaw10_awake = some true) (p : api_Program) (name : Str) : lazarettolaw10_NamesOne p name = some true := by
  unfold lazarettolaw10_NamesOne
  rw [aw]
  rcases few08 p with e | ⟨e, hd⟩
  · simp [e]
  · simp only [e, namesCheck (fun t ht => Nat.le_trans (hd t ht) (by omega)), Option.bind_some, namesVar, namesBlock, namesSite]
    by_cases hc : (allNames p).Nodup ∧ (p.Tasks.all fun t => stmtsN p t.Body) = true
    · have hn := hc.1
      unfold allNames at hn
      rw [List.nodup_append, List.nodup_append] at hn
      have h1 : ¬ (0 ≤ varN p name ∧ 0 ≤ blockN p name) := fun ⟨a, b⟩ => hn.2.2 name (var_mem.1 a) name (List.mem_append.2 (.inl (block_mem.1 b))) rfl
      have h2 : ¬ (0 ≤ varN p name ∧ 0 ≤ siteN p name) := fun ⟨a, b⟩ => hn.2.2 name (var_mem.1 a) name (List.mem_append.2 (.inr (site_mem.1 b))) rfl
      have h3 : ¬ (0 ≤ blockN p name ∧ 0 ≤ siteN p name) := fun ⟨a, b⟩ => hn.2.1.2.2 name (block_mem.1 a) name (site_mem.1 b) rfl
      rw [if_pos hc]
      rcases tf (0 ≤ varN p name) with k1 | k1 <;> rcases tf (0 ≤ blockN p name) with k2 | k2 <;> rcases tf (0 ≤ siteN p name) with k3 | k3 <;>
        first | exact (h1 ⟨of_eq_true k1, of_eq_true k2⟩).elim | exact (h2 ⟨of_eq_true k1, of_eq_true k3⟩).elim | exact (h3 ⟨of_eq_true k2, of_eq_true k3⟩).elim | simp [k1, k2, k3]
    · rw [if_neg hc]; simp
/-- A program with one more variable. -/
def plusN (p : api_Program) (v : api_Var) : api_Program := ⟨p.Lattice, p.Sites, p.Vars ++ [v], p.Blocks, p.Tasks⟩
theorem var_plus {p : api_Program} {v : api_Var} {name : Str} (h : 0 ≤ varN p name) : 0 ≤ varN (plusN p v) name := by
  rw [var_mem] at h ⊢
  simp only [plusN, List.map_append, List.mem_append]
  exact .inl h
theorem at_plus {p : api_Program} {v : api_Var} {op : Int} {name : Str} (h : atOk p op name = true) : atOk (plusN p v) op name = true := by
  unfold atOk at *
  by_cases hc : op = 2 ∨ op = 3
  · rw [if_pos hc] at h ⊢
    exact decide_eq_true (var_plus (of_decide_eq_true h))
  · rw [if_neg hc] at h ⊢
    exact h
mutual
theorem known_plus (p : api_Program) (v : api_Var) : ∀ (e : api_Expr), knownN p e = true → knownN (plusN p v) e = true
  | ⟨op, N, K, name, args⟩, h => by
    rw [knownN, Bool.and_eq_true] at h ⊢
    exact ⟨at_plus h.1, all_plus p v args h.2⟩
theorem all_plus (p : api_Program) (v : api_Var) : ∀ (l : List api_Expr), knownAll p l = true → knownAll (plusN p v) l = true
  | [], _ => by rw [knownAll]
  | e :: es, h => by
    rw [knownAll, Bool.and_eq_true] at h ⊢
    exact ⟨known_plus p v e h.1, all_plus p v es h.2⟩
end
mutual
theorem stmt_plus (p : api_Program) (v : api_Var) : ∀ (s : api_Stmt), stmtN p s = true → stmtN (plusN p v) s = true
  | ⟨kind, name, target, value, args, body, els⟩, h => by
    rw [stmtN] at h ⊢
    simp only [Bool.and_eq_true] at h ⊢
    obtain ⟨⟨⟨⟨⟨h1, h2⟩, h3⟩, h4⟩, h5⟩, h6⟩ := h
    refine ⟨⟨⟨⟨⟨?_, known_plus p v _ h2⟩, known_plus p v _ h3⟩, all_plus p v _ h4⟩, stmts_plus p v _ h5⟩, stmts_plus p v _ h6⟩
    unfold ownOk at *
    by_cases hc : kind = 4
    · rw [if_pos hc] at h1 ⊢
      exact decide_eq_true (var_plus (of_decide_eq_true h1))
    · rw [if_neg hc] at h1 ⊢
      exact h1
theorem stmts_plus (p : api_Program) (v : api_Var) : ∀ (l : List api_Stmt), stmtsN p l = true → stmtsN (plusN p v) l = true
  | [], _ => by rw [stmtsN]
  | e :: es, h => by
    rw [stmtsN, Bool.and_eq_true] at h ⊢
    exact ⟨stmt_plus p v e h.1, stmts_plus p v es h.2⟩
end
theorem moreLaw (aw : lazarettolaw10_awake = some true) (p : api_Program) (name : Str) (h1 : p.Lattice.Names.length ≤ 281474976710656) (h2 : p.Lattice.Below.length ≤ 281474976710656) (h3 : p.Sites.length ≤ 281474976710656) (h4 : p.Vars.length ≤ 281474976710656) (h5 : p.Blocks.length ≤ 281474976710656) : lazarettolaw10_NamesMore p name = some true := by
  unfold lazarettolaw10_NamesMore
  rw [aw]
  rcases few08 p with e | ⟨e, hd⟩
  · simp [e]
  have hb' : (p.Vars.length + 1) * 64 ≤ 140737488355328 := by
    rcases few08L p h1 h2 h3 h4 h5 with h | h
    · rw [e] at h; cases h
    · omega
  have hd1 : ∀ t ∈ p.Tasks, depSs t.Body ≤ 1000 := fun t ht => Nat.le_trans (hd t ht) (by omega)
  generalize hv : (⟨name, (⟨2, 0, 0⟩ : api_Type), 0, 0, 0⟩ : api_Var) = v
  have hvn : v.Name = name := by rw [← hv]
  have e1 : p.Vars.isEmpty = true → (⟨p.Lattice, p.Sites, [v], p.Blocks, p.Tasks⟩ : api_Program) = plusN p v := fun h => by
    have : p.Vars = [] := List.isEmpty_iff.1 h
    simp [plusN, this]
  have e2 : (⟨p.Lattice, p.Sites, p.Vars ++ [v], p.Blocks, p.Tasks⟩ : api_Program) = plusN p v := rfl
  have hq : names_Check (plusN p v) = some _ := namesCheck (p := plusN p v) hd1
  simp only [e, namesCheck hd1, Option.bind_some, namesVar, namesBlock, namesSite]
  by_cases hc : (allNames p).Nodup ∧ (p.Tasks.all fun t => stmtsN p t.Body) = true
  case neg => rw [if_neg hc]; simp
  have key : (allNames (plusN p v)).Nodup ∧ ((plusN p v).Tasks.all fun t => stmtsN (plusN p v) t.Body) = true ↔ ¬ (0 ≤ varN p name ∨ 0 ≤ blockN p name ∨ 0 ≤ siteN p name) := by
    have hm : (0 ≤ varN p name ∨ 0 ≤ blockN p name ∨ 0 ≤ siteN p name) ↔ name ∈ allNames p := by
      rw [var_mem, block_mem, site_mem, allNames, List.mem_append, List.mem_append]
    rw [hm]
    have hall : ((plusN p v).Tasks.all fun t => stmtsN (plusN p v) t.Body) = true := by
      have := List.all_eq_true.1 hc.2
      exact List.all_eq_true.2 fun t ht => stmts_plus p v _ (this t ht)
    have hperm : (allNames (plusN p v)).Perm (name :: allNames p) := by
      show ((p.Vars ++ [v]).map (·.Name) ++ _).Perm _
      rw [List.map_append, List.map_singleton, hvn, List.append_assoc]
      exact List.perm_middle
    rw [hperm.nodup_iff, List.nodup_cons]
    exact ⟨fun h => h.1.1, fun h => ⟨⟨h, hc.1⟩, hall⟩⟩
  have hnew : ¬ 0 ≤ varN p name → varN (plusN p v) name = (p.Vars.length : Int) := fun h => findN_new h (by simp [hvn])
  rw [if_pos hc]
  simp only [if_true, show ((1 : Int) = 0) = False by simp, if_false]
  by_cases k1 : 0 ≤ varN p name
  · have hn : ¬ ((allNames (plusN p v)).Nodup ∧ ((plusN p v).Tasks.all fun t => stmtsN (plusN p v) t.Body) = true) := fun h => key.1 h (.inl k1)
    rw [if_neg hn] at hq
    by_cases hE : p.Vars.isEmpty = true
    · simp [hE, e1 hE, k1, hq]
    · simp [hE, e2, k1, hq, need_of hb']
  by_cases k2 : 0 ≤ blockN p name
  · have hn : ¬ ((allNames (plusN p v)).Nodup ∧ ((plusN p v).Tasks.all fun t => stmtsN (plusN p v) t.Body) = true) := fun h => key.1 h (.inr (.inl k2))
    rw [if_neg hn] at hq
    by_cases hE : p.Vars.isEmpty = true
    · simp [hE, e1 hE, k1, k2, hq]
    · simp [hE, e2, k1, k2, hq, need_of hb']
  by_cases k3 : 0 ≤ siteN p name
  · have hn : ¬ ((allNames (plusN p v)).Nodup ∧ ((plusN p v).Tasks.all fun t => stmtsN (plusN p v) t.Body) = true) := fun h => key.1 h (.inr (.inr k3))
    rw [if_neg hn] at hq
    by_cases hE : p.Vars.isEmpty = true
    · simp [hE, e1 hE, k1, k2, k3, hq]
    · simp [hE, e2, k1, k2, k3, hq, need_of hb']
  · rw [if_pos (key.2 (by simp [k1, k2, k3]))] at hq
    by_cases hE : p.Vars.isEmpty = true
    · simp only [hE, e1 hE, k1, k2, k3, hq, if_true, if_false, Option.bind_some, hnew k1]
    · simp only [hE, e2, k1, k2, k3, hq, if_true, if_false, Option.bind_some, hnew k1, need_of hb', Bool.false_eq_true]
theorem awake10 : lazarettolaw10_awake = some true := by
  have d : ∀ n : Str, ∀ p : api_Program, lazarettolaw10_one n = some p → (∀ t ∈ p.Tasks, depSs t.Body ≤ 1000) := fun n p h => by
    unfold lazarettolaw10_one at h
    cases h
    intro t ht
    simp only [List.mem_singleton] at ht
    subst ht
    simp [depSs, depS, depE, depEs]
  have c : ∀ n : Str, ∀ p : api_Program, lazarettolaw10_one n = some p → names_Check p = some (if n = [120] then 0 else 5) := fun n p h => by
    rw [namesCheck (d n p h)]
    unfold lazarettolaw10_one at h
    cases h
    by_cases hn : n = [120]
    · subst hn; rfl
    · simp [allNames, stmtsN, stmtN, ownOk, knownN, atOk, varN, findN, knownAll, hn, Ne.symm hn, List.findIdx?_cons]
  unfold lazarettolaw10_awake
  obtain ⟨px, hx⟩ : ∃ p, lazarettolaw10_one [120] = some p := ⟨_, rfl⟩
  obtain ⟨py, hy⟩ : ∃ p, lazarettolaw10_one [121] = some p := ⟨_, rfl⟩
  have c1 := c _ _ hx
  have c2 := c _ _ hy
  simp only [hx, hy, Option.bind_some, c1, c2, namesVar, namesBlock, namesSite]
  unfold lazarettolaw10_one at hx
  cases hx
  simp [varN, blockN, siteN, findN, List.findIdx?_cons]
end Go.Lz
