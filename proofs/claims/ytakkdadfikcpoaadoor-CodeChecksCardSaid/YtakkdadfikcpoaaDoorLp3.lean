/- Lp3: loops over a list's elements, in plain words. -/
import Derived.Test.YtakkdadfikcpoaaDoorLp2
namespace Go.Lz
set_option linter.unusedVariables false
set_option linter.unusedSimpArgs false
theorem drop_cons {α : Type} {xs : List α} {i : Nat} (h : i < xs.length) : xs.drop i = xs[i] :: xs.drop (i + 1) := List.drop_eq_getElem_cons h
/-- A search over a list. -/
theorem loop_list {α ρ : Type} {xs : List α} {g : α → Option ρ} {d : ρ} {f : Nat → Option (Nat ⊕ ρ)} (step : ∀ i (h : i < xs.length), f i = some (match g xs[i] with | some r => .inr r | none => .inl (i + 1))) (last : f xs.length = some (.inr d)) :
    loop f 0 = some ((xs.findSome? g).getD d) := by
  have key : ∀ k i, xs.length - i = k → i ≤ xs.length → loop f i = some (((xs.drop i).findSome? g).getD d) := by
    intro k
    induction k with
    | zero =>
      intro i hk hi
      have : i = xs.length := by omega
      subst this
      rw [loop_inr last, List.drop_length]; rfl
    | succ k ih =>
      intro i hk hi
      have hi' : i < xs.length := by omega
      have hs := step i hi'
      rw [drop_cons hi', List.findSome?_cons]
      cases hg : g xs[i] with
      | some r => rw [hg] at hs; rw [loop_inr hs]; rfl
      | none => rw [hg] at hs; rw [loop_inl hs, ih (i + 1) (by omega) (by omega)]
  exact key _ 0 rfl (Nat.zero_le _)
/-- Whether all are so: else an end with an answer. -/
theorem loop_all {α ρ : Type} {xs : List α} {p : α → Bool} {a b : ρ} {f : Nat → Option (Nat ⊕ ρ)} (step : ∀ i (h : i < xs.length), f i = some (if p xs[i] then .inl (i + 1) else .inr a)) (last : f xs.length = some (.inr b)) :
    loop f 0 = some (if xs.all p then b else a) := by
  rw [loop_list (g := fun x => if p x then none else some a) (d := b) (fun i h => by rw [step i h]; cases p xs[i] <;> rfl) last]
  congr 1
  clear step last
  induction xs with
  | nil => rfl
  | cons x xs ih =>
    rw [List.findSome?_cons, List.all_cons]
    cases p x with
    | true => simpa using ih
    | false => rfl
/-- A walk over a list with a state. -/
theorem loop_foldI {α σ τ ρ : Type} {xs : List α} {S : σ → Nat → τ} {step : σ → α → σ} {fin : σ → ρ} {f : τ → Option (τ ⊕ ρ)} (I : σ → Nat → Prop) (h : ∀ s i (hi : i < xs.length), I s i → f (S s i) = some (.inl (S (step s xs[i]) (i + 1))) ∧ I (step s xs[i]) (i + 1))
    (last : ∀ s, I s xs.length → f (S s xs.length) = some (.inr (fin s))) (s : σ) (h0 : I s 0) : loop f (S s 0) = some (fin (xs.foldl step s)) ∧ I (xs.foldl step s) xs.length := by
  have key : ∀ k i s, xs.length - i = k → i ≤ xs.length → I s i → loop f (S s i) = some (fin ((xs.drop i).foldl step s)) ∧ I ((xs.drop i).foldl step s) xs.length := by
    intro k
    induction k with
    | zero =>
      intro i s hk hi hI
      have : i = xs.length := by omega
      subst this
      rw [loop_inr (last s hI), List.drop_length]
      exact ⟨rfl, hI⟩
    | succ k ih =>
      intro i s hk hi hI
      have hi' : i < xs.length := by omega
      obtain ⟨h1, h2⟩ := h s i hi' hI
      rw [drop_cons hi', List.foldl_cons, loop_inl h1]
      exact ih (i + 1) _ (by omega) (by omega) h2
  exact key _ 0 s rfl (Nat.zero_le _) h0
theorem loop_fold {α σ τ ρ : Type} {xs : List α} {S : σ → Nat → τ} {step : σ → α → σ} {fin : σ → ρ} {f : τ → Option (τ ⊕ ρ)} (h : ∀ s i (hi : i < xs.length), f (S s i) = some (.inl (S (step s xs[i]) (i + 1))))
    (last : ∀ s, f (S s xs.length) = some (.inr (fin s))) (s : σ) : loop f (S s 0) = some (fin (xs.foldl step s)) :=
  (loop_foldI (fun _ _ => True) (fun s i hi _ => ⟨h s i hi, trivial⟩) (fun s _ => last s) s trivial).1
/-- Loops that do the same do the same. -/
theorem loopN_congr {σ ρ : Type} {f g : σ → Option (σ ⊕ ρ)} (I : σ → Prop) (h : ∀ s, I s → f s = g s ∧ ∀ s', f s = some (.inl s') → I s') : ∀ n s, I s → loopN f n s = loopN g n s
  | 0, s, _ => rfl
  | n + 1, s, hs => by
    obtain ⟨h1, h2⟩ := h s hs
    rw [loopN, loopN, ← h1]
    cases hf : f s with
    | none => rfl
    | some o =>
      cases o with
      | inl s' => exact loopN_congr I h n s' (h2 s' hf)
      | inr r => rfl
theorem loop_congr {σ ρ : Type} {f g : σ → Option (σ ⊕ ρ)} (I : σ → Prop) (h : ∀ s, I s → f s = g s ∧ ∀ s', f s = some (.inl s') → I s') {s : σ} (hs : I s) : loop f s = loop g s := by
  apply Option.ext
  intro r
  rw [loop_some, loop_some]
  constructor
  · rintro ⟨n, hn⟩; exact ⟨n, by rw [← loopN_congr I h n s hs]; exact hn⟩
  · rintro ⟨n, hn⟩; exact ⟨n, by rw [loopN_congr I h n s hs]; exact hn⟩
end Go.Lz
