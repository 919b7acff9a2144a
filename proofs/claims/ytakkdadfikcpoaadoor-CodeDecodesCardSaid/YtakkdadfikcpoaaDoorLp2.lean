/- Lp2: loops in plain words: rounds that are known, an invariant with a measure; counting. -/
import Derived.Test.YtakkdadfikcpoaaDoorLp1
namespace Go.Lz
set_option linter.unusedVariables false
set_option linter.unusedSimpArgs false
section
variable {σ ρ : Type} {f : σ → Option (σ ⊕ ρ)}
/-- A loop whose rounds are known up to a point. -/
theorem loop_upto (S : Nat → σ) (n : Nat) (step : ∀ i, i < n → f (S i) = some (.inl (S (i + 1)))) : ∀ k, k ≤ n → loop f (S 0) = loop f (S k)
  | 0, _ => rfl
  | k + 1, h => by rw [loop_upto S n step k (by omega), loop_inl (step k (by omega))]
theorem loop_for (S : Nat → σ) (n : Nat) (r : ρ) (step : ∀ i, i < n → f (S i) = some (.inl (S (i + 1)))) (last : f (S n) = some (.inr r)) : loop f (S 0) = some r := by
  rw [loop_upto S n step n (Nat.le_refl n), loop_inr last]
/-- A loop with an invariant and a measure. -/
theorem loop_inv (I : σ → Prop) (R : ρ → Prop) (μ : σ → Nat) (step : ∀ s, I s → (∃ s', f s = some (.inl s') ∧ I s' ∧ μ s' < μ s) ∨ (∃ r, f s = some (.inr r) ∧ R r)) (s : σ) (h : I s) : ∃ r, loop f s = some r ∧ R r := by
  induction hm : μ s using Nat.strongRecOn generalizing s with
  | ind m ih =>
    subst hm
    rcases step s h with ⟨s', e, hi, hl⟩ | ⟨r, e, hr⟩
    · obtain ⟨r, e2, hr⟩ := ih (μ s') hl s' hi rfl
      exact ⟨r, by rw [loop_inl e, e2], hr⟩
    · exact ⟨r, loop_inr e, hr⟩
/-- A search: round by round until one ends it. -/
theorem loop_find {ρ : Type} {f : Nat → Option (Nat ⊕ ρ)} (n : Nat) (g : Nat → Option ρ) (d : ρ) (step : ∀ i, i < n → f i = some (match g i with | some r => .inr r | none => .inl (i + 1))) (last : f n = some (.inr d)) :
    loop f 0 = some (((List.range n).findSome? g).getD d) := by
  have key : ∀ k, k ≤ n → loop f (n - k) = some ((((List.range n).drop (n - k)).findSome? g).getD d) := by
    intro k
    induction k with
    | zero =>
      intro _
      rw [Nat.sub_zero, loop_inr last, List.drop_eq_nil_of_le (by simp)]; rfl
    | succ k ih =>
      intro hk
      have hd : (List.range n).drop (n - (k + 1)) = (n - (k + 1)) :: (List.range n).drop (n - k) := by
        rw [List.drop_eq_getElem_cons (by simp; omega)]
        congr 1
        · simp
        · congr 1; omega
      rw [hd, List.findSome?_cons]
      have hs := step (n - (k + 1)) (by omega)
      cases hg : g (n - (k + 1)) with
      | some r => rw [hg] at hs; rw [loop_inr hs]; rfl
      | none =>
        rw [hg] at hs
        rw [loop_inl hs, show n - (k + 1) + 1 = n - k by omega, ih (by omega)]
  have := key n (Nat.le_refl n)
  simpa using this
end
/-- A search for the first place of which p holds. -/
theorem loop_first {ρ : Type} {f : Nat → Option (Nat ⊕ ρ)} (n : Nat) (p : Nat → Bool) (v : Nat → ρ) (d : ρ) (step : ∀ i, i < n → f i = some (if p i then .inr (v i) else .inl (i + 1))) (last : f n = some (.inr d)) :
    loop f 0 = some (((List.range n).find? p).elim d v) := by
  rw [loop_find n (fun i => if p i then some (v i) else none) d (fun i hi => by rw [step i hi]; cases p i <;> rfl) last]
  congr 1
  induction List.range n with
  | nil => rfl
  | cons x xs ih =>
    rw [List.findSome?_cons, List.find?_cons]
    cases p x with
    | true => rfl
    | false => simpa using ih
theorem elim_all {ρ : Type} {p q : Nat → Bool} {a b : ρ} (h : ∀ x, q x = !p x) (xs : List Nat) : (xs.find? p).elim a (fun _ => b) = if xs.all q then a else b := by
  induction xs with
  | nil => rfl
  | cons x xs ih =>
    rw [List.find?_cons, List.all_cons, h x]
    cases p x with
    | true => rfl
    | false => simpa using ih
/-- A loop that goes on while a flag holds. -/
theorem loop_flag {f : Bool × Nat → Option ((Bool × Nat) ⊕ Bool)} (n : Nat) (p : Nat → Bool) (h1 : ∀ d, d < n → f (true, d) = some (.inl (p d, d + 1))) (h2 : ∀ d, d < n → f (false, d) = some (.inr false)) (h3 : ∀ b, f (b, n) = some (.inr b)) (ok : Bool) :
    loop f (ok, 0) = some (ok && (List.range n).all p) := by
  have key : ∀ k, k ≤ n → ∀ b, loop f (b, n - k) = some (b && ((List.range n).drop (n - k)).all p) := by
    intro k
    induction k with
    | zero => intro _ b; rw [Nat.sub_zero, loop_inr (h3 b), List.drop_eq_nil_of_le (by simp)]; simp
    | succ k ih =>
      intro hk b
      have hd : (List.range n).drop (n - (k + 1)) = (n - (k + 1)) :: (List.range n).drop (n - k) := by
        rw [List.drop_eq_getElem_cons (by simp; omega)]
        congr 1
        · simp
        · congr 1; omega
      cases b with
      | false => rw [loop_inr (h2 _ (by omega))]; simp
      | true =>
        rw [loop_inl (h1 _ (by omega)), show n - (k + 1) + 1 = n - k by omega, ih (by omega), hd, List.all_cons]
        simp
  have := key n (Nat.le_refl n) ok
  simpa using this
theorem range_snoc {α : Type} {g : Nat → α} {i : Nat} : (List.range i).map g ++ [g i] = (List.range (i + 1)).map g := by simp [List.range_succ]
theorem count_set : ∀ {xs : List Bool} {i : Nat}, xs[i]? = some false → (xs.set i true).count false + 1 = xs.count false
  | [], i, h => by simp at h
  | x :: xs, 0, h => by simp at h; subst h; simp
  | x :: xs, i + 1, h => by
    simp at h
    have := count_set (xs := xs) (i := i) (by simpa using h)
    simp only [List.set_cons_succ, List.count_cons]
    omega
/-- The same with a state that follows the place. -/
theorem loop_firstS {σ ρ : Type} {f : σ → Option (σ ⊕ ρ)} (S : Nat → σ) (n : Nat) (p : Nat → Bool) (v : Nat → ρ) (d : ρ) (step : ∀ i, i < n → f (S i) = some (if p i then .inr (v i) else .inl (S (i + 1)))) (last : f (S n) = some (.inr d)) :
    loop f (S 0) = some (((List.range n).find? p).elim d v) := by
  have key : ∀ k, k ≤ n → loop f (S (n - k)) = some ((((List.range n).drop (n - k)).find? p).elim d v) := by
    intro k
    induction k with
    | zero => intro _; rw [Nat.sub_zero, loop_inr last, List.drop_eq_nil_of_le (by simp)]; rfl
    | succ k ih =>
      intro hk
      have hd : (List.range n).drop (n - (k + 1)) = (n - (k + 1)) :: (List.range n).drop (n - k) := by
        rw [List.drop_eq_getElem_cons (by simp; omega)]
        congr 1
        · simp
        · congr 1; omega
      have hs := step (n - (k + 1)) (by omega)
      rw [hd, List.find?_cons]
      cases hp : p (n - (k + 1)) with
      | true => rw [hp] at hs; rw [loop_inr hs]; rfl
      | false =>
        rw [hp] at hs
        rw [loop_inl hs, show n - (k + 1) + 1 = n - k by omega, ih (by omega)]
  have := key n (Nat.le_refl n)
  simpa using this
theorem mget_same {α β : Type} [DecidableEq α] {k : α} {v : β} : ∀ {es : List (α × β)}, mget k (mset k v es) = some v
  | [] => by simp [mset, mget]
  | p :: r => by
    rw [mset]
    by_cases h : k = p.1
    · simp [h, mget]
    · simp [h, mget, mget_same (es := r)]
theorem mget_other {α β : Type} [DecidableEq α] {k k' : α} {v : β} (hk : k' ≠ k) : ∀ {es : List (α × β)}, mget k' (mset k v es) = mget k' es
  | [] => by simp [mset, mget, hk]
  | p :: r => by
    rw [mset]
    by_cases h : k = p.1
    · subst h; simp [mget, hk]
    · simp [h, mget, mget_other hk (es := r)]
end Go.Lz
