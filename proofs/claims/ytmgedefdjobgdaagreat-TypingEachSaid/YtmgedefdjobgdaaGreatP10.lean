
/- P10: names: who is found, how deep terms and statements are, whether all names are there, each once; the laws of chapter 10 in plain words. -/
import Derived.Test.YtmgedefdjobgdaaGreatV10
import Derived.Test.YtmgedefdjobgdaaGreatV12
import Derived.Test.YtmgedefdjobgdaaGreatP08
namespace Go.Lz
set_option linter.unusedVariables false
set_option linter.unusedSimpArgs false
theorem tf (c : Prop) : c = True ∨ c = False := (Classical.em c).elim (fun h => .inl (eq_true h)) (fun h => .inr (eq_false h))
/-! The first of which something holds. -/
def findN {α : Type} (xs : List α) (p : α → Bool) : Int := match xs.findIdx? p with | some i => (i : Int) | none => -1
theorem find_some {α : Type} (n : Nat) (xs : List α) (p : α → Bool) (hn : n = xs.length) (d : α) : (List.range n).find? (fun i => p (xs.getD i d)) = xs.findIdx? p := by
  subst hn
  induction xs with
  | nil => rfl
  | cons x xs ih =>
    rw [List.length_cons, List.range_succ_eq_map, List.find?_cons, List.findIdx?_cons]
    simp only [List.getD_cons_zero]
    cases hp : p x with
    | true => rfl
    | false =>
      rw [List.find?_map, ← ih]
      simp only [Function.comp_def, Nat.succ_eq_add_one, List.getD_cons_succ]
      rfl
theorem loop_index {α : Type} {xs : List α} {p : α → Bool} {f : Nat → Option (Nat ⊕ (Int ⊕ Unit))} (step : ∀ i (hi : i < xs.length), f i = some (if p xs[i] then .inr (.inl (i : Int)) else .inl (i + 1))) (last : f xs.length = some (.inr (.inr ()))) :
    (loop f 0).bind (fun e => match e with | .inl e => some e | .inr () => some (-1)) = some (findN xs p) := by
  cases xs with
  | nil => rw [show loop f 0 = _ from loop_inr last]; rfl
  | cons x r =>
    generalize hx : x :: r = xs at step last ⊢
    rw [loop_first xs.length (fun i => p (xs.getD i x)) (fun i => .inl (i : Int)) (.inr ()) (fun i hi => by
      rw [step i hi]; simp [List.getD_eq_getElem?_getD, hi]) last, find_some _ _ _ rfl]
    unfold findN
    cases xs.findIdx? p <;> rfl
theorem findN_nonneg {α : Type} {xs : List α} {p : α → Bool} : 0 ≤ findN xs p ↔ ∃ x ∈ xs, p x = true := by
  unfold findN
  cases h : xs.findIdx? p with
  | none =>
    have := List.findIdx?_eq_none_iff.1 h
    constructor
    · intro h; dsimp only at h; omega
    · rintro ⟨x, hx, hp⟩
      rw [this x hx] at hp; cases hp
  | some i =>
    constructor
    · intro _
      obtain ⟨hi, hp, _⟩ := List.findIdx?_eq_some_iff_getElem.1 h
      exact ⟨xs[i], List.getElem_mem hi, hp⟩
    · intro _; dsimp only; omega
theorem findN_new {α : Type} {xs : List α} {p : α → Bool} {y : α} (h : ¬ 0 ≤ findN xs p) (hy : p y = true) : findN (xs ++ [y]) p = (xs.length : Int) := by
  have h1 : ∀ x ∈ xs, p x = false := fun x hx => by
    cases hp : p x with
    | false => rfl
    | true => exact (h (findN_nonneg.2 ⟨x, hx, hp⟩)).elim
  have : (xs ++ [y]).findIdx? p = some xs.length := by
    rw [List.findIdx?_append, List.findIdx?_eq_none_iff.2 h1]
    simp [hy]
  unfold findN
  rw [this]
theorem ixVar {s : List api_Var} {f : api_Var → Option Bool} {p : api_Var → Bool} (h : ∀ x ∈ s, f x = some (p x)) : slices_IndexFunc_api_Var_api_Var s f = some (findN s p) :=
  loop_index (fun i hi => by simp [slices_IndexFunc_api_Var_api_Var_L1, hi, h _ (List.getElem_mem hi)]; cases p s[i] <;> rfl) (by simp [slices_IndexFunc_api_Var_api_Var_L1])
theorem ixBlock {s : List api_Block} {f : api_Block → Option Bool} {p : api_Block → Bool} (h : ∀ x ∈ s, f x = some (p x)) : slices_IndexFunc_api_Block_api_Block s f = some (findN s p) :=
  loop_index (fun i hi => by simp [slices_IndexFunc_api_Block_api_Block_L1, hi, h _ (List.getElem_mem hi)]; cases p s[i] <;> rfl) (by simp [slices_IndexFunc_api_Block_api_Block_L1])
theorem ixSite {s : List api_Site} {f : api_Site → Option Bool} {p : api_Site → Bool} (h : ∀ x ∈ s, f x = some (p x)) : slices_IndexFunc_api_Site_api_Site s f = some (findN s p) :=
  loop_index (fun i hi => by simp [slices_IndexFunc_api_Site_api_Site_L1, hi, h _ (List.getElem_mem hi)]; cases p s[i] <;> rfl) (by simp [slices_IndexFunc_api_Site_api_Site_L1])
theorem ixStmt {s : List api_Stmt} {f : api_Stmt → Option Bool} {p : api_Stmt → Bool} (h : ∀ x ∈ s, f x = some (p x)) : slices_IndexFunc_api_Stmt_api_Stmt s f = some (findN s p) :=
  loop_index (fun i hi => by simp [slices_IndexFunc_api_Stmt_api_Stmt_L1, hi, h _ (List.getElem_mem hi)]; cases p s[i] <;> rfl) (by simp [slices_IndexFunc_api_Stmt_api_Stmt_L1])
theorem any_iff {α : Type} {s : List α} {p : α → Bool} : decide (0 ≤ findN s p) = s.any p := by
  rw [Bool.eq_iff_iff, decide_eq_true_eq, findN_nonneg, List.any_eq_true]
theorem cfStmt {s : List api_Stmt} {f : api_Stmt → Option Bool} {p : api_Stmt → Bool} (h : ∀ x ∈ s, f x = some (p x)) : slices_ContainsFunc_api_Stmt_api_Stmt s f = some (s.any p) := by
  unfold slices_ContainsFunc_api_Stmt_api_Stmt
  rw [ixStmt h, Option.bind_some, any_iff]
def varN (p : api_Program) (name : Str) : Int := findN p.Vars fun v => decide (v.Name = name)
def blockN (p : api_Program) (name : Str) : Int := findN p.Blocks fun v => decide (v.Name = name)
def siteN (p : api_Program) (name : Str) : Int := findN p.Sites fun v => decide (v.Name = name)
theorem namesVar (p : api_Program) (name : Str) : names_Var p name = some (varN p name) := by
  unfold names_Var names_find_api_Var
  rw [ixVar (f := names_find_api_Var_1 names_Var_1 name) (p := fun v => decide (v.Name = name)) (fun x _ => rfl)]; rfl
theorem namesBlock (p : api_Program) (name : Str) : names_Block p name = some (blockN p name) := by
  unfold names_Block names_find_api_Block
  rw [ixBlock (f := names_find_api_Block_1 names_Block_1 name) (p := fun v => decide (v.Name = name)) (fun x _ => rfl)]; rfl
theorem namesSite (p : api_Program) (name : Str) : names_Site p name = some (siteN p name) := by
  unfold names_Site names_find_api_Site
  rw [ixSite (f := names_find_api_Site_1 names_Site_1 name) (p := fun v => decide (v.Name = name)) (fun x _ => rfl)]; rfl
theorem refVar (p : api_Program) (name : Str) : lazarettoref10_Var p name = some (varN p name) :=
  loop_index (fun i hi => by by_cases h : p.Vars[i].Name = name <;> simp [lazarettoref10_Var_L1, hi, h]) (by simp [lazarettoref10_Var_L1])
theorem refBlock (p : api_Program) (name : Str) : lazarettoref10_Block p name = some (blockN p name) :=
  loop_index (fun i hi => by by_cases h : p.Blocks[i].Name = name <;> simp [lazarettoref10_Block_L1, hi, h]) (by simp [lazarettoref10_Block_L1])
theorem refSite (p : api_Program) (name : Str) : lazarettoref10_Site p name = some (siteN p name) :=
  loop_index (fun i hi => by by_cases h : p.Sites[i].Name = name <;> simp [lazarettoref10_Site_L1, hi, h]) (by simp [lazarettoref10_Site_L1])

/-! How deep terms and statements are. -/
theorem depEs_le {d : Nat} : ∀ {l : List api_Expr}, (∀ (i : Nat) (h : i < l.length), depE l[i] ≤ d) → depEs l ≤ d
  | [], _ => by simp [depEs]
  | e :: es, h => by
    have h1 := h 0 (by simp)
    have h2 := depEs_le (l := es) (fun i hi => h (i + 1) (by simpa using hi))
    simp only [depEs, List.getElem_cons_zero] at h1 ⊢; omega
theorem depSs_le {d : Nat} : ∀ {l : List api_Stmt}, (∀ (i : Nat) (h : i < l.length), depS l[i] ≤ d) → depSs l ≤ d
  | [], _ => by simp [depSs]
  | e :: es, h => by
    have h1 := h 0 (by simp)
    have h2 := depSs_le (l := es) (fun i hi => h (i + 1) (by simpa using hi))
    simp only [depSs, List.getElem_cons_zero] at h1 ⊢; omega
theorem w64_pred {n : Int} (h1 : 0 ≤ n) (h2 : n ≤ 1000000) : w64 (n - 1) = n - 1 := by rw [w64_eq]; omega
/-- The measure of a term answers; what it lets in is not too deep. -/
theorem few06 : ∀ (d fuel : Nat), d < fuel → d ≤ 1000 → ∀ (e : api_Expr) (left : Int), ∃ r, lazarettolaw06_Few_g fuel e (d : Int) left = some r ∧ (0 ≤ r → depE e ≤ d)
  | d, 0, h, _, _, _ => by omega
  | 0, fuel + 1, _, _, e, left => ⟨-1, by simp [lazarettolaw06_Few_g, lazarettolaw06_Few_b], by omega⟩
  | d + 1, fuel + 1, h, hd, e, left => by
    have e1 : w64 (((d + 1 : Nat) : Int) - 1) = (d : Int) := by rw [w64_pred (by omega) (by omega)]; omega
    have e2 : ¬ (((d + 1 : Nat) : Int) < 1) := by omega
    simp only [lazarettolaw06_Few_g, lazarettolaw06_Few_b, e2, if_false]
    generalize w64 (left - (w64 ((w64 (1 + (e.Args.length : Int))) + (w64 ((e.Name.length : Int).tdiv 100))))) = l0
    by_cases hl : l0 < 0
    · exact ⟨-1, by simp [hl], by omega⟩
    simp only [hl, if_false]
    obtain ⟨r, hr, hR⟩ := loop_inv (f := lazarettolaw06_Few_L1 (lazarettolaw06_Few_g fuel) e ((d + 1 : Nat) : Int)) (fun s => s.2 ≤ e.Args.length ∧ (0 ≤ s.1 → ∀ (j : Nat) (h : j < e.Args.length), j < s.2 → depE e.Args[j] ≤ d))
      (fun r => 0 ≤ r → depE e ≤ d + 1) (fun s => e.Args.length - s.2) (fun ⟨left, i⟩ ⟨hi, hI⟩ => by
        simp only at hi hI
        by_cases h1 : i < e.Args.length
        · by_cases h2 : 0 ≤ left
          · obtain ⟨r, hr, hR⟩ := few06 d fuel (by omega) (by omega) e.Args[i] left
            refine .inl ⟨(r, i + 1), ?_, ⟨h1, fun h0 j hj hji => ?_⟩, by simp only; omega⟩
            · simp only [lazarettolaw06_Few_L1, Int.ofNat_lt, h1, h2, if_true, List.getElem?_eq_getElem h1, Option.bind_some, e1, hr]
            · by_cases hj2 : j = i
              · subst hj2; exact hR h0
              · exact hI h2 j hj (by omega)
          · exact .inr ⟨left, by simp [lazarettolaw06_Few_L1, h1, h2], fun h => (h2 h).elim⟩
        · refine .inr ⟨left, by simp [lazarettolaw06_Few_L1, h1], fun h => ?_⟩
          rw [depE_eq]
          have := depEs_le (fun j hj => hI h j hj (by omega))
          omega) (l0, 0) ⟨Nat.zero_le _, fun _ j _ hj => by simp at hj⟩
    exact ⟨r, by rw [hr]; rfl, hR⟩
theorem few06_60 (e : api_Expr) (left : Int) : ∃ r, lazarettolaw06_Few e 60 left = some r ∧ (0 ≤ r → depE e ≤ 60) := few06 60 1000000 (by omega) (by omega) e left
theorem few07 : ∀ (d fuel : Nat), d + 1 < fuel → d ≤ 1000 → ∀ (l : List api_Stmt) (left : Int), ∃ r, lazarettolaw07_Few_g fuel l (d : Int) left = some r ∧ (0 ≤ r → depSs l ≤ d + 60)
  | d, 0, h, _, _, _ => by omega
  | d, fuel + 1, h, hd, [], left => by
    simp only [lazarettolaw07_Few_g, lazarettolaw07_Few_b, List.length_nil]
    have e0 : ¬ (0 < ((0 : Nat) : Int)) := by omega
    simp only [e0, if_false]
    generalize w64 (left - ((0 : Nat) : Int)) = l0
    by_cases hl : l0 < 0
    · exact ⟨-1, by simp [hl], by omega⟩
    · refine ⟨l0, ?_, fun _ => by simp [depSs]⟩
      simp only [hl, if_false]
      rw [loop_inr (r := l0) (by simp [lazarettolaw07_Few_L2])]; rfl
  | 0, fuel + 1, _, _, s :: l, left => ⟨-1, by simp [lazarettolaw07_Few_g, lazarettolaw07_Few_b], by omega⟩
  | d + 1, fuel + 1, h, hd, s :: l, left => by
    generalize hl' : s :: l = ll
    have e1 : w64 (((d + 1 : Nat) : Int) - 1) = (d : Int) := by rw [w64_pred (by omega) (by omega)]; omega
    have e2 : ¬ (((d + 1 : Nat) : Int) < 1) := by omega
    have e3 : 0 < (ll.length : Int) := by subst hl'; simp
    simp only [lazarettolaw07_Few_g, lazarettolaw07_Few_b, e2, e3, if_true, if_false]
    generalize w64 (left - (ll.length : Int)) = l0
    by_cases hl : l0 < 0
    · exact ⟨-1, by simp [hl], by omega⟩
    simp only [hl, if_false]
    obtain ⟨r, hr, hR⟩ := loop_inv (f := lazarettolaw07_Few_L1 (lazarettolaw07_Few_g fuel) ll ((d + 1 : Nat) : Int)) (fun s => s.2 ≤ ll.length ∧ (0 ≤ s.1 → ∀ (j : Nat) (h : j < ll.length), j < s.2 → depS ll[j] ≤ d + 1 + 60))
      (fun r => 0 ≤ r → depSs ll ≤ d + 1 + 60) (fun s => ll.length - s.2) (fun ⟨left, i⟩ ⟨hi, hI⟩ => by
        simp only at hi hI
        by_cases h1 : i < ll.length
        · by_cases h2 : 0 ≤ left
          · generalize hs : ll[i] = s at *
            have next : ∀ r : Int, (0 ≤ r → depS s ≤ d + 1 + 60) → (i + 1 ≤ ll.length ∧ (0 ≤ r → ∀ (j : Nat) (h : j < ll.length), j < i + 1 → depS ll[j] ≤ d + 1 + 60)) := fun r hr => ⟨h1, fun h0 j hj hji => by
              by_cases hj2 : j = i
              · subst hj2; rw [hs]; exact hr h0
              · exact hI h2 j hj (by omega)⟩
            obtain ⟨r1, hr1, hR1⟩ := few06_60 s.Target (w64 (left - (w64 ((s.Name.length : Int).tdiv 100))))
            have base : lazarettolaw07_Few_L1 (lazarettolaw07_Few_g fuel) ll ((d + 1 : Nat) : Int) (left, i) = lazarettolaw07_Few_L1 (lazarettolaw07_Few_g fuel) ll ((d + 1 : Nat) : Int) (left, i) := rfl
            conv at base => rhs; simp only [lazarettolaw07_Few_L1, Int.ofNat_lt, h1, h2, if_true, List.getElem?_eq_getElem h1, Option.bind_some, hs, hr1, e1]
            by_cases k1 : 0 ≤ r1
            case neg => exact .inl ⟨(r1, i + 1), by rw [base]; simp [k1], next r1 (fun h => (k1 h).elim), by simp only; omega⟩
            obtain ⟨r2, hr2, hR2⟩ := few06_60 s.Value r1
            simp only [k1, if_true, hr2, Option.bind_some] at base
            by_cases k2 : 0 ≤ r2
            case neg => exact .inl ⟨(r2, i + 1), by rw [base]; simp [k2], next r2 (fun h => (k2 h).elim), by simp only; omega⟩
            obtain ⟨r3, hr3, hR3⟩ := few06_60 (⟨0, 0, 0, [], s.Args⟩ : api_Expr) r2
            simp only [k2, if_true, hr3, Option.bind_some] at base
            by_cases k3 : 0 ≤ r3
            case neg => exact .inl ⟨(r3, i + 1), by rw [base]; simp [k3], next r3 (fun h => (k3 h).elim), by simp only; omega⟩
            obtain ⟨r4, hr4, hR4⟩ := few07 d fuel (by omega) (by omega) s.Body r3
            simp only [k3, if_true, hr4, Option.bind_some] at base
            by_cases k4 : 0 ≤ r4
            case neg => exact .inl ⟨(r4, i + 1), by rw [base]; simp [k4], next r4 (fun h => (k4 h).elim), by simp only; omega⟩
            obtain ⟨r5, hr5, hR5⟩ := few07 d fuel (by omega) (by omega) s.Else r4
            simp only [k4, if_true, hr5, Option.bind_some] at base
            refine .inl ⟨(r5, i + 1), base, next r5 (fun h0 => ?_), by simp only; omega⟩
            have a1 := hR1 k1; have a2 := hR2 k2; have a3 := hR3 k3; have a4 := hR4 k4; have a5 := hR5 h0
            rw [depE_eq] at a3
            rw [depS_eq]
            simp only at a3
            omega
          · exact .inr ⟨left, by simp [lazarettolaw07_Few_L1, h1, h2], fun h => (h2 h).elim⟩
        · exact .inr ⟨left, by simp [lazarettolaw07_Few_L1, h1], fun h => depSs_le (fun j hj => hI h j hj (by omega))⟩) (l0, 0) ⟨Nat.zero_le _, fun _ j _ hj => by simp at hj⟩
    exact ⟨r, by rw [hr]; rfl, hR⟩
theorem few07_60 (l : List api_Stmt) (left : Int) : ∃ r, lazarettolaw07_Few l 60 left = some r ∧ (0 ≤ r → depSs l ≤ 120) := few07 60 1000000 (by omega) (by omega) l left
/-- A program that is let in is not too deep. -/
theorem few08L (p : api_Program) (h1 : p.Lattice.Names.length ≤ 281474976710656) (h2 : p.Lattice.Below.length ≤ 281474976710656) (h3 : p.Sites.length ≤ 281474976710656) (h4 : p.Vars.length ≤ 281474976710656) (h5 : p.Blocks.length ≤ 281474976710656) :
    lazarettolaw08_Few p = some 0 ∨ p.Vars.length ≤ 500 := by
  unfold lazarettolaw08_Few
  split
  · exact .inl rfl
  · rename_i h
    simp only [w64_eq] at h
    exact .inr (by omega)
theorem few08 (p : api_Program) : lazarettolaw08_Few p = some 0 ∨ (lazarettolaw08_Few p = some 1 ∧ ∀ t ∈ p.Tasks, depSs t.Body ≤ 120) := by
  unfold lazarettolaw08_Few
  split
  · exact .inl rfl
  split
  · exact .inl rfl
  obtain ⟨r, hr, hR⟩ := loop_inv (f := lazarettolaw08_Few_L1 p) (fun i => i ≤ p.Tasks.length ∧ ∀ (j : Nat) (h : j < p.Tasks.length), j < i → depSs p.Tasks[j].Body ≤ 120)
    (fun r => r = .inl 0 ∨ (r = .inr () ∧ ∀ t ∈ p.Tasks, depSs t.Body ≤ 120)) (fun i => p.Tasks.length - i) (fun i ⟨hi, hI⟩ => by
      by_cases h1 : i < p.Tasks.length
      · by_cases h2 : 100 < (p.Tasks[i].Budget.length : Int)
        · exact .inr ⟨.inl 0, by simp [lazarettolaw08_Few_L1, h1, h2], .inl rfl⟩
        · obtain ⟨r, hr, hR⟩ := few07_60 p.Tasks[i].Body 2000
          have h2' : ¬ (100 < p.Tasks[i].Budget.length) := by omega
          by_cases h3 : r < 0
          · exact .inr ⟨.inl 0, by simp [lazarettolaw08_Few_L1, h1, h2, h2', hr, h3], .inl rfl⟩
          · refine .inl ⟨i + 1, by simp [lazarettolaw08_Few_L1, h1, h2, h2', hr, h3], ⟨h1, fun j hj hji => ?_⟩, by omega⟩
            by_cases hj2 : j = i
            · subst hj2; exact hR (by omega)
            · exact hI j hj (by omega)
      · refine .inr ⟨.inr (), by simp [lazarettolaw08_Few_L1, h1], .inr ⟨rfl, fun t ht => ?_⟩⟩
        obtain ⟨j, hj, rfl⟩ := List.getElem_of_mem ht
        exact hI j hj (by omega)) 0 ⟨Nat.zero_le _, fun j _ hj => by simp at hj⟩
  rw [hr]
  rcases hR with rfl | ⟨rfl, hR⟩
  · exact .inl rfl
  · exact .inr ⟨rfl, hR⟩

/-! Whether all names are there. -/
def atOk (p : api_Program) (op : Int) (name : Str) : Bool :=
  if op = 2 ∨ op = 3 then decide (0 ≤ varN p name) else if op = 4 then decide (0 ≤ blockN p name) else if op = 21 then decide (0 ≤ siteN p name) else true
mutual
def knownN (p : api_Program) : api_Expr → Bool
  | ⟨op, _, _, name, args⟩ => atOk p op name && knownAll p args
def knownAll (p : api_Program) : List api_Expr → Bool
  | [] => true
  | e :: es => knownN p e && knownAll p es
end
def ownOk (p : api_Program) (kind : Int) (name : Str) : Bool :=
  if kind = 4 then decide (0 ≤ varN p name) else if kind = 5 then decide (0 ≤ blockN p name) else true
mutual
def stmtN (p : api_Program) : api_Stmt → Bool
  | ⟨kind, name, target, value, args, body, els⟩ => ownOk p kind name && knownN p target && knownN p value && knownAll p args && stmtsN p body && stmtsN p els
def stmtsN (p : api_Program) : List api_Stmt → Bool
  | [] => true
  | e :: es => stmtN p e && stmtsN p es
end
theorem knownN_eq (p : api_Program) (e : api_Expr) : knownN p e = (atOk p e.Op e.Name && knownAll p e.Args) := by cases e; rw [knownN]
theorem stmtN_eq (p : api_Program) (s : api_Stmt) : stmtN p s = (ownOk p s.Kind s.Name && knownN p s.Target && knownN p s.Value && knownAll p s.Args && stmtsN p s.Body && stmtsN p s.Else) := by cases s; rw [stmtN]
/-! Each name once. -/
/-! The laws. -/
theorem var_mem {p : api_Program} {name : Str} : 0 ≤ varN p name ↔ name ∈ p.Vars.map (·.Name) := by
  unfold varN; rw [findN_nonneg]; simp
theorem block_mem {p : api_Program} {name : Str} : 0 ≤ blockN p name ↔ name ∈ p.Blocks.map (·.Name) := by
  unfold blockN; rw [findN_nonneg]; simp
theorem site_mem {p : api_Program} {name : Str} : 0 ≤ siteN p name ↔ name ∈ p.Sites.map (·.Name) := by
  unfold siteN; rw [findN_nonneg]; simp
end Go.Lz
