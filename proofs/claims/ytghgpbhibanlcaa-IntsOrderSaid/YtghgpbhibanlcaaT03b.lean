import Derived.Test.YtghgpbhibanlcaaT03a
namespace Go.Lz
set_option linter.unusedVariables false
set_option linter.unusedSimpArgs false
open Go.Proofs

/-- The kind of an operation's result. -/
def resultS (op k : Int) : Int :=
  if k = 1 ∨ k = 2 ∨ k = 3 ∨ k = 4 then
    if op = 5 ∨ 7 ≤ op ∧ op ≤ 11 then (if k = 1 then 0 else k)
    else if op = 6 ∨ 18 ≤ op ∧ op ≤ 20 then (if k = 4 then 0 else k)
    else if op = 12 ∨ op = 13 then 1
    else if 14 ≤ op ∧ op ≤ 17 then (if k = 1 then 0 else 1) else 0
  else 0
def validS (k n : Int) : Bool := decide ((k = 1 ∧ (n = 0 ∨ n = 1)) ∨ (k = 2 ∧ -32768 ≤ n ∧ n < 32768) ∨ ((k = 3 ∨ k = 4) ∧ -2147483648 ≤ n ∧ n < 2147483648))

theorem wrap_1 {n : Int} : wrapS 1 n = if n = 0 then 0 else 1 := rfl
theorem wrap_2 {n : Int} : wrapS 2 n = (n + 32768) % 65536 - 32768 := by rw [← w16]; rfl
theorem wrap_3 {n : Int} : wrapS 3 n = (n + 2147483648) % 4294967296 - 2147483648 := by rw [← w32]; rfl
theorem wrap_4 {n : Int} : wrapS 4 n = (n + 2147483648) % 4294967296 - 2147483648 := by rw [← w32]; rfl
theorem wrap_in32 (k n : Int) : -2147483648 ≤ wrapS k n ∧ wrapS k n ≤ 2147483647 := by
  rcases kinds k with rfl | rfl | rfl | rfl | ⟨h1, h2, h3, h4⟩
  · rw [wrap_1]; split <;> omega
  · rw [wrap_2]; omega
  · rw [wrap_3]; omega
  · rw [wrap_4]; omega
  · rw [wrap_o h1 h2 h3 h4]; omega
theorem wrap_valid {k n : Int} (hk : 1 ≤ k ∧ k ≤ 4) : validS k (wrapS k n) = true := by
  simp only [validS, decide_eq_true_eq]
  rcases kinds k with rfl | rfl | rfl | rfl | ⟨h1, h2, h3, h4⟩
  · rw [wrap_1]; split <;> omega
  · rw [wrap_2]; omega
  · rw [wrap_3]; omega
  · rw [wrap_4]; omega
  · omega
theorem wrap_id {k n : Int} (h : validS k n = true) : wrapS k n = n := by
  simp only [validS, decide_eq_true_eq] at h
  rcases kinds k with rfl | rfl | rfl | rfl | ⟨h1, h2, h3, h4⟩
  · rw [wrap_1]; split <;> omega
  · rw [wrap_2]; omega
  · rw [wrap_3]; omega
  · rw [wrap_4]; omega
  · omega

theorem valid27 (k n : Int) : Pu Try.prog 27 [I k, I n] (B (validS k n)) := by
  refine pu_of_awp Try.func27 rfl (by kernel_rfl) (by kernel_rfl) (awp_of_S ?_)
  simp only [Try.f27]
  simp -implicitDefEqProofs only [go_sem, Nat.reduceAdd, Nat.reduceMul, Nat.reduceLeDiff, Nat.reduceEqDiff, Nat.reduceLT, Int.reduceLE, Int.reduceLT, Int.reduceNeg, Int.reduceEq, Int.reduceAdd, Int.reduceSub, Int.reduceToNat, reduceCtorEq, ↓reduceIte]
  refine call_S (bits29 k) (by simp [go_sem]) (by simp [go_sem]) (by simp [go_sem]) (by simp [go_sem]) ?_
  have e : validS k n = (decide (0 < bitsS k) && decide (wrapS k n = n)) := by
    rw [Bool.eq_iff_iff]
    simp only [validS, bitsS, decide_eq_true_eq, Bool.and_eq_true]
    rcases kinds k with rfl | rfl | rfl | rfl | ⟨h1, h2, h3, h4⟩
    · rw [wrap_1]; simp; split <;> omega
    · rw [wrap_2]; simp; omega
    · rw [wrap_3]; simp; omega
    · rw [wrap_4]; simp; omega
    · simp [h1, h2, h3, h4]
  by_cases hb : 0 < bitsS k
  · simp -implicitDefEqProofs only [go_sem, Nat.reduceAdd, Nat.reduceMul, Nat.reduceLeDiff, Nat.reduceEqDiff, Nat.reduceLT, Int.reduceLE, Int.reduceLT, Int.reduceNeg, Int.reduceEq, Int.reduceAdd, Int.reduceSub, Int.reduceToNat, reduceCtorEq, ↓reduceIte, hb]
    refine call_S (wrap25 k n) (by simp [go_sem]) (by simp [go_sem]) (by simp [go_sem]) (by simp [go_sem]) ?_
    simp -implicitDefEqProofs only [go_sem, Nat.reduceAdd, Nat.reduceMul, Nat.reduceLeDiff, Nat.reduceEqDiff, Nat.reduceLT, Int.reduceLE, Int.reduceLT, Int.reduceNeg, Int.reduceEq, Int.reduceAdd, Int.reduceSub, Int.reduceToNat, reduceCtorEq, ↓reduceIte, e, hb]
  · simp -implicitDefEqProofs only [go_sem, Nat.reduceAdd, Nat.reduceMul, Nat.reduceLeDiff, Nat.reduceEqDiff, Nat.reduceLT, Int.reduceLE, Int.reduceLT, Int.reduceNeg, Int.reduceEq, Int.reduceAdd, Int.reduceSub, Int.reduceToNat, reduceCtorEq, ↓reduceIte, e, hb]

theorem valid28 (k n : Int) : Pu Try.prog 28 [I k, I n] (B (validS k n)) := by
  refine pu_of_awp Try.func28 rfl (by kernel_rfl) (by kernel_rfl) (awp_of_S ?_)
  simp only [Try.f28]
  rcases kinds k with rfl | rfl | rfl | rfl | ⟨h1, h2, h3, h4⟩
  · by_cases h0 : n = 0
    · simp -implicitDefEqProofs only [go_sem, Nat.reduceAdd, Nat.reduceMul, Nat.reduceLeDiff, Nat.reduceEqDiff, Nat.reduceLT, Int.reduceLE, Int.reduceLT, Int.reduceNeg, Int.reduceEq, Int.reduceAdd, Int.reduceSub, Int.reduceToNat, reduceCtorEq, ↓reduceIte, h0, validS]
    · by_cases h1 : n = 1 <;> simp [go_sem, h0, h1, validS]
  · simp -implicitDefEqProofs only [go_sem, Nat.reduceAdd, Nat.reduceMul, Nat.reduceLeDiff, Nat.reduceEqDiff, Nat.reduceLT, Int.reduceLE, Int.reduceLT, Int.reduceNeg, Int.reduceEq, Int.reduceAdd, Int.reduceSub, Int.reduceToNat, reduceCtorEq, ↓reduceIte]
    refine call_S (bits30 2) (by simp [go_sem]) (by simp [go_sem]) (by simp [go_sem]) (by simp [go_sem]) ?_
    simp -implicitDefEqProofs only [go_sem, Nat.reduceAdd, Nat.reduceMul, Nat.reduceLeDiff, Nat.reduceEqDiff, Nat.reduceLT, Int.reduceLE, Int.reduceLT, Int.reduceNeg, Int.reduceEq, Int.reduceAdd, Int.reduceSub, Int.reduceToNat, reduceCtorEq, ↓reduceIte, bits_2]
    refine call_S (half40 2) (by simp [go_sem]) (by simp [go_sem]) (by simp [go_sem]) (by simp [go_sem]) ?_
    by_cases h : -32768 ≤ n
    · simp -implicitDefEqProofs only [go_sem, Nat.reduceAdd, Nat.reduceMul, Nat.reduceLeDiff, Nat.reduceEqDiff, Nat.reduceLT, Int.reduceLE, Int.reduceLT, Int.reduceNeg, Int.reduceEq, Int.reduceAdd, Int.reduceSub, Int.reduceToNat, reduceCtorEq, ↓reduceIte, half_2, h]
      refine call_S (half40 2) (by simp [go_sem]) (by simp [go_sem]) (by simp [go_sem]) (by simp [go_sem]) ?_
      simp [go_sem, half_2, validS, h]
    · simp [go_sem, half_2, validS, h]
  · simp -implicitDefEqProofs only [go_sem, Nat.reduceAdd, Nat.reduceMul, Nat.reduceLeDiff, Nat.reduceEqDiff, Nat.reduceLT, Int.reduceLE, Int.reduceLT, Int.reduceNeg, Int.reduceEq, Int.reduceAdd, Int.reduceSub, Int.reduceToNat, reduceCtorEq, ↓reduceIte]
    refine call_S (bits30 3) (by simp [go_sem]) (by simp [go_sem]) (by simp [go_sem]) (by simp [go_sem]) ?_
    simp -implicitDefEqProofs only [go_sem, Nat.reduceAdd, Nat.reduceMul, Nat.reduceLeDiff, Nat.reduceEqDiff, Nat.reduceLT, Int.reduceLE, Int.reduceLT, Int.reduceNeg, Int.reduceEq, Int.reduceAdd, Int.reduceSub, Int.reduceToNat, reduceCtorEq, ↓reduceIte, bits_3]
    refine call_S (half40 3) (by simp [go_sem]) (by simp [go_sem]) (by simp [go_sem]) (by simp [go_sem]) ?_
    by_cases h : -2147483648 ≤ n
    · simp -implicitDefEqProofs only [go_sem, Nat.reduceAdd, Nat.reduceMul, Nat.reduceLeDiff, Nat.reduceEqDiff, Nat.reduceLT, Int.reduceLE, Int.reduceLT, Int.reduceNeg, Int.reduceEq, Int.reduceAdd, Int.reduceSub, Int.reduceToNat, reduceCtorEq, ↓reduceIte, half_3, h]
      refine call_S (half40 3) (by simp [go_sem]) (by simp [go_sem]) (by simp [go_sem]) (by simp [go_sem]) ?_
      simp [go_sem, half_3, validS, h]
    · simp [go_sem, half_3, validS, h]
  · simp -implicitDefEqProofs only [go_sem, Nat.reduceAdd, Nat.reduceMul, Nat.reduceLeDiff, Nat.reduceEqDiff, Nat.reduceLT, Int.reduceLE, Int.reduceLT, Int.reduceNeg, Int.reduceEq, Int.reduceAdd, Int.reduceSub, Int.reduceToNat, reduceCtorEq, ↓reduceIte]
    refine call_S (bits30 4) (by simp [go_sem]) (by simp [go_sem]) (by simp [go_sem]) (by simp [go_sem]) ?_
    simp -implicitDefEqProofs only [go_sem, Nat.reduceAdd, Nat.reduceMul, Nat.reduceLeDiff, Nat.reduceEqDiff, Nat.reduceLT, Int.reduceLE, Int.reduceLT, Int.reduceNeg, Int.reduceEq, Int.reduceAdd, Int.reduceSub, Int.reduceToNat, reduceCtorEq, ↓reduceIte, bits_4]
    refine call_S (half40 4) (by simp [go_sem]) (by simp [go_sem]) (by simp [go_sem]) (by simp [go_sem]) ?_
    by_cases h : -2147483648 ≤ n
    · simp -implicitDefEqProofs only [go_sem, Nat.reduceAdd, Nat.reduceMul, Nat.reduceLeDiff, Nat.reduceEqDiff, Nat.reduceLT, Int.reduceLE, Int.reduceLT, Int.reduceNeg, Int.reduceEq, Int.reduceAdd, Int.reduceSub, Int.reduceToNat, reduceCtorEq, ↓reduceIte, half_4, h]
      refine call_S (half40 4) (by simp [go_sem]) (by simp [go_sem]) (by simp [go_sem]) (by simp [go_sem]) ?_
      simp [go_sem, half_4, validS, h]
    · simp [go_sem, half_4, validS, h]
  · simp -implicitDefEqProofs only [go_sem, Nat.reduceAdd, Nat.reduceMul, Nat.reduceLeDiff, Nat.reduceEqDiff, Nat.reduceLT, Int.reduceLE, Int.reduceLT, Int.reduceNeg, Int.reduceEq, Int.reduceAdd, Int.reduceSub, Int.reduceToNat, reduceCtorEq, ↓reduceIte, h1]
    refine call_S (bits30 k) (by simp [go_sem]) (by simp [go_sem]) (by simp [go_sem]) (by simp [go_sem]) ?_
    simp [go_sem, bits_o h1 h2 h3 h4, validS, h1, h2, h3, h4]

end Go.Lz
