/- Pt: that something is answered, and what is true of it; in small steps. -/
import Derived.Test.YtakkdadfikcpoaaDoorLp3
import Derived.Test.YtakkdadfikcpoaaDoorLp2
import Derived.Test.YtakkdadfikcpoaaDoorLw2
namespace Go.Lz
set_option linter.unusedVariables false
set_option linter.unusedSimpArgs false
def Tot {α : Type} (x : Option α) (Q : α → Prop) : Prop := ∃ r, x = some r ∧ Q r
section
variable {α β : Type} {x : Option α} {Q : α → Prop} {f : α → Option β} {R : β → Prop}
theorem Tot.bind (h : Tot x Q) (k : ∀ a, Q a → Tot (f a) R) : Tot (x.bind f) R := by
  obtain ⟨a, rfl, hq⟩ := h
  exact k a hq
theorem Tot.need {p : Prop} [Decidable p] (h : p) (k : Tot x Q) : Tot (need p x) Q := by rw [need_of h]; exact k
theorem Tot.ite {c : Prop} [Decidable c] {y : Option α} (a : c → Tot x Q) (b : ¬c → Tot y Q) : Tot (if c then x else y) Q := by
  by_cases h : c
  · rw [if_pos h]; exact a h
  · rw [if_neg h]; exact b h
theorem Tot.mk {a : α} (h : Q a) : Tot (some a) Q := ⟨a, rfl, h⟩
theorem Tot.imp {Q' : α → Prop} (h : Tot x Q) (k : ∀ a, Q a → Q' a) : Tot x Q' := by
  obtain ⟨a, rfl, hq⟩ := h
  exact ⟨a, rfl, k a hq⟩
theorem Tot.get {xs : List α} {i : Nat} (h : i < xs.length) : Tot xs[i]? (fun a => a ∈ xs ∧ a = xs[i]) := ⟨xs[i], List.getElem?_eq_getElem h, List.getElem_mem h, rfl⟩
theorem Tot.idx {xs : List α} {i : Int} (h0 : 0 ≤ i) (h : i < xs.length) : Tot (idx xs i) (fun a => a ∈ xs) := by
  have : i.toNat < xs.length := by omega
  exact ⟨xs[i.toNat], by unfold Lz.idx; rw [if_pos h0]; exact List.getElem?_eq_getElem this, List.getElem_mem this⟩
end
section
variable {σ ρ : Type} {f : σ → Option (σ ⊕ ρ)}
/-- A round of a loop. -/
def Rd (I : σ → Prop) (R : ρ → Prop) (μ : σ → Nat) (m : Nat) : σ ⊕ ρ → Prop
  | .inl s => I s ∧ μ s < m
  | .inr r => R r
theorem Tot.loop (I : σ → Prop) {R : ρ → Prop} (μ : σ → Nat) {s : σ} (h : I s) (step : ∀ s, I s → Tot (f s) (Rd I R μ (μ s))) : Tot (loop f s) R := by
  refine loop_inv I R μ (fun s hs => ?_) s h
  obtain ⟨o, ho, hq⟩ := step s hs
  cases o with
  | inl s' => exact .inl ⟨s', ho, hq⟩
  | inr r => exact .inr ⟨r, ho, hq⟩
end
theorem w64_id {n : Int} (h1 : -9223372036854775808 ≤ n) (h2 : n ≤ 9223372036854775807) : w64 n = n := by rw [w64_eq]; omega
end Go.Lz
