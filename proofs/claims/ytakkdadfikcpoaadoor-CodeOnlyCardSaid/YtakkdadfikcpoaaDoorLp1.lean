/- Lp1: plain words of the specifications: places of lists, loops. No program in sight. -/
namespace Go.Lz
set_option linter.unusedVariables false
set_option linter.unusedSimpArgs false

abbrev Str := List UInt8

theorem bind_inv {α β : Type} {x : Option α} {f : α → Option β} {r : β} (h : x.bind f = some r) : ∃ a, x = some a ∧ f a = some r := by
  cases x with
  | none => simp at h
  | some a => exact ⟨a, rfl, h⟩

/-- A list's element. -/
def idx {α : Type} (xs : List α) (i : Int) : Option α := if 0 ≤ i then xs[i.toNat]? else none
theorem idx_facts {α : Type} {xs : List α} {i : Int} {x : α} (h : idx xs i = some x) : 0 ≤ i ∧ i < (xs.length : Int) ∧ i.toNat < xs.length ∧ xs[i.toNat]? = some x := by
  unfold idx at h
  split at h
  · have := (List.getElem?_eq_some_iff.1 h).1
    exact ⟨by assumption, by omega, this, h⟩
  · simp at h
theorem idx_nat {α : Type} (xs : List α) (k : Nat) : idx xs (k : Int) = xs[k]? := by simp [idx]
theorem nat_facts {α : Type} {xs : List α} {k : Nat} {x : α} (h : xs[k]? = some x) : 0 ≤ (k : Int) ∧ (k : Int) < (xs.length : Int) ∧ k < xs.length ∧ xs[k]? = some x := by
  have := (List.getElem?_eq_some_iff.1 h).1
  exact ⟨by omega, by omega, this, h⟩

/-- What must hold ahead. -/
def need (p : Prop) [Decidable p] {α : Type} (x : Option α) : Option α := if p then x else none
theorem need_inv {p : Prop} [Decidable p] {α : Type} {x : Option α} {r : α} (h : need p x = some r) : p ∧ x = some r := by
  unfold need at h; split at h
  · exact ⟨by assumption, h⟩
  · simp at h
theorem need_of {p : Prop} [Decidable p] {α : Type} {x : Option α} (h : p) : need p x = x := by simp [need, h]

/-! Loops. -/
section
variable {σ ρ : Type}
def loopN (f : σ → Option (σ ⊕ ρ)) : Nat → σ → Option ρ
  | 0, _ => none
  | n + 1, s => (f s).bind (Sum.elim (loopN f n) some)
theorem loopN_succ (f : σ → Option (σ ⊕ ρ)) (n : Nat) : ∀ (s : σ) (r : ρ), loopN f n s = some r → loopN f (n + 1) s = some r := by
  induction n with
  | zero => intro s r h; simp [loopN] at h
  | succ n ih =>
    intro s r h
    rw [loopN] at h ⊢
    obtain ⟨o, ho, h⟩ := bind_inv h
    rw [ho]
    cases o with
    | inl s' => exact ih s' r h
    | inr r' => exact h
theorem loopN_le (f : σ → Option (σ ⊕ ρ)) {n m : Nat} (hm : n ≤ m) {s : σ} {r : ρ} (h : loopN f n s = some r) : loopN f m s = some r := by
  induction hm with
  | refl => exact h
  | step _ ih => exact loopN_succ f _ s r ih
open Classical in
/-- A loop: what its rounds come to; none, if they have no end. -/
noncomputable def loop (f : σ → Option (σ ⊕ ρ)) (s : σ) : Option ρ := if h : ∃ r n, loopN f n s = some r then some (Classical.choose h) else none
theorem loop_some {f : σ → Option (σ ⊕ ρ)} {s : σ} {r : ρ} : loop f s = some r ↔ ∃ n, loopN f n s = some r := by
  unfold loop
  constructor
  · intro h
    split at h
    · rename_i hh
      obtain ⟨n, hn⟩ := Classical.choose_spec hh
      simp only [Option.some.injEq] at h
      exact ⟨n, by rw [← h]; exact hn⟩
    · simp at h
  · rintro ⟨n, hn⟩
    have hh : ∃ r n, loopN f n s = some r := ⟨r, n, hn⟩
    rw [dif_pos hh]
    obtain ⟨m, hm⟩ := Classical.choose_spec hh
    have h1 := loopN_le f (Nat.le_max_left n m) hn
    have h2 := loopN_le f (Nat.le_max_right n m) hm
    rw [h1] at h2
    exact h2.symm
theorem loop_eq (f : σ → Option (σ ⊕ ρ)) (s : σ) : loop f s = (f s).bind (Sum.elim (loop f) some) := by
  apply Option.ext
  intro r
  rw [loop_some]
  constructor
  · rintro ⟨n, hn⟩
    cases n with
    | zero => simp [loopN] at hn
    | succ n =>
      rw [loopN] at hn
      obtain ⟨o, ho, h⟩ := bind_inv hn
      rw [ho]
      cases o with
      | inl s' => exact loop_some.2 ⟨n, h⟩
      | inr r' => exact h
  · intro h
    obtain ⟨o, ho, h⟩ := bind_inv h
    cases o with
    | inl s' =>
      obtain ⟨n, hn⟩ := loop_some.1 h
      exact ⟨n + 1, by rw [loopN, ho]; exact hn⟩
    | inr r' => exact ⟨1, by rw [loopN, ho]; exact h⟩
theorem loop_inl {f : σ → Option (σ ⊕ ρ)} {s s' : σ} (h : f s = some (.inl s')) : loop f s = loop f s' := by rw [loop_eq, h]; rfl
theorem loop_inr {f : σ → Option (σ ⊕ ρ)} {s : σ} {r : ρ} (h : f s = some (.inr r)) : loop f s = some r := by rw [loop_eq, h]; rfl
end
end Go.Lz
namespace Go.Lz
/-! Maps as lists of pairs. -/
def mget {α β : Type} [DecidableEq α] (k : α) : List (α × β) → Option β
  | [] => none
  | p :: r => if k = p.1 then some p.2 else mget k r
def mset {α β : Type} [DecidableEq α] (k : α) (v : β) : List (α × β) → List (α × β)
  | [] => [(k, v)]
  | p :: r => if k = p.1 then (k, v) :: r else p :: mset k v r
end Go.Lz
