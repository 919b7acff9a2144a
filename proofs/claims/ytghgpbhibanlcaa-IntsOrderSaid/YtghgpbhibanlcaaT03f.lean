import Derived.Test.YtghgpbhibanlcaaT03e
namespace Go.Lz
set_option linter.unusedVariables false
set_option linter.unusedSimpArgs false
open Go.Proofs

theorem res_k {op k : Int} (h : ¬resultS op k = 0) (ho : 5 ≤ op ∧ op ≤ 11 ∨ 18 ≤ op ∧ op ≤ 20) : resultS op k = k ∧ 1 ≤ k ∧ k ≤ 4 := by
  unfold resultS at h ⊢
  split at h
  · rename_i hk
    simp only [hk, if_true]
    repeat' split at h
    all_goals first | omega | (simp_all <;> omega)
  · omega
theorem res_1 {op k : Int} (h : ¬resultS op k = 0) (ho : ¬(5 ≤ op ∧ op ≤ 11 ∨ 18 ≤ op ∧ op ≤ 20)) : resultS op k = 1 := by
  unfold resultS at h ⊢
  split at h
  · rename_i hk
    simp only [hk, if_true]
    have e1 : ¬(op = 5 ∨ 7 ≤ op ∧ op ≤ 11) := by omega
    have e2 : ¬(op = 6 ∨ 18 ≤ op ∧ op ≤ 20) := by omega
    simp only [e1, e2, if_false] at h ⊢
    split
    · rfl
    · rename_i e3
      simp only [e3, if_false] at h
      split
      · rename_i e4
        simp only [e4, and_self, if_true] at h
        split
        · rename_i e5; simp [e5] at h
        · rfl
      · rename_i e4; simp [e4] at h
  · exact (h rfl).elim
theorem res_in {op k : Int} (h : ¬resultS op k = 0) : 1 ≤ resultS op k ∧ resultS op k ≤ 4 := by
  by_cases ho : 5 ≤ op ∧ op ≤ 11 ∨ 18 ≤ op ∧ op ≤ 20
  · have := res_k h ho; omega
  · have := res_1 h ho; omega
theorem valid_0 {r : Int} (h : 1 ≤ r ∧ r ≤ 4) : validS r 0 = true := by
  rcases (by omega : r = 1 ∨ r = 2 ∨ r = 3 ∨ r = 4) with rfl | rfl | rfl | rfl <;> decide
theorem valid_bit {b : Bool} : validS 1 (bitS b) = true := by cases b <;> decide

theorem val_bin {op k a b : Int} (h : ¬resultS op k = 0) : validS (resultS op k) (binaryS op k a b).1 = true := by
  have hin := res_in h
  unfold binaryS
  split
  · exact valid_0 hin
  · rename_i h56
    by_cases ho : 5 ≤ op ∧ op ≤ 11 ∨ 18 ≤ op ∧ op ≤ 20
    · obtain ⟨e, hk⟩ := res_k h ho
      rw [e]
      unfold binaryW
      repeat' split
      all_goals first | exact wrap_valid hk | exact valid_0 hk | omega
    · rw [res_1 h ho]
      unfold binaryW
      repeat' split
      all_goals first | omega | exact valid_bit
theorem val_un {op k a : Int} (h : ¬resultS op k = 0) : validS (resultS op k) (unaryS op k a) = true := by
  have hin := res_in h
  unfold unaryS
  simp only [h, if_false]
  split
  · rename_i h5
    obtain ⟨e, hk⟩ := res_k h (by omega)
    rw [e]; exact wrap_valid hk
  · split
    · rename_i h5 h6
      obtain ⟨e, hk⟩ := res_k h (by omega)
      have h4 : ¬k = 4 := by
        intro h4; subst h4; subst h6; exact h rfl
      rw [e]
      have hv := wrap_valid (n := a) hk
      generalize wrapS k a = w at hv ⊢
      simp only [validS, decide_eq_true_eq] at hv ⊢
      split <;> omega
    · exact valid_0 hin

theorem ar35 : tAr Try.prog 35 = some (2, 3, 1) := by kernel_rfl
theorem ag35 : tAg Try.prog 35 = some (true, 2) := by kernel_rfl
theorem ag3 : tAg Try.prog 3 = some (false, 1) := by kernel_rfl
attribute [go_sem] ar35 ag35 ag3

theorem valid10 (op k a b : Int) : Pu Try.prog 10 [I op, I k, .agg [.int .i64 a, .int .i64 b]] (B true) := by
  refine pu_of_awp Try.func10 rfl (by kernel_rfl) (by kernel_rfl) (awp_of_S ?_)
  simp only [Try.f10]
  simp -implicitDefEqProofs only [go_sem, Nat.reduceAdd, Nat.reduceMul, Nat.reduceLeDiff, Nat.reduceEqDiff, Nat.reduceLT, Int.reduceLE, Int.reduceLT, Int.reduceNeg, Int.reduceEq, Int.reduceAdd, Int.reduceSub, Int.reduceToNat, reduceCtorEq, ↓reduceIte]
  refine call_S (result34 op k) (by simp [go_sem]) (by simp [go_sem]) (by simp [go_sem]) (by simp [go_sem]) ?_
  by_cases h : resultS op k = 0
  · simp -implicitDefEqProofs only [go_sem, Nat.reduceAdd, Nat.reduceMul, Nat.reduceLeDiff, Nat.reduceEqDiff, Nat.reduceLT, Int.reduceLE, Int.reduceLT, Int.reduceNeg, Int.reduceEq, Int.reduceAdd, Int.reduceSub, Int.reduceToNat, reduceCtorEq, ↓reduceIte, h]
    refine call_S awake31 (by simp [go_sem]) (by simp [go_sem]) (by simp [go_sem]) (by simp [go_sem]) ?_
    simp -implicitDefEqProofs only [go_sem, Nat.reduceAdd, Nat.reduceMul, Nat.reduceLeDiff, Nat.reduceEqDiff, Nat.reduceLT, Int.reduceLE, Int.reduceLT, Int.reduceNeg, Int.reduceEq, Int.reduceAdd, Int.reduceSub, Int.reduceToNat, reduceCtorEq, ↓reduceIte]
  have h1 := val_bin (a := a) (b := b) h
  have h2 := val_un (a := a) h
  have hin := res_in h
  have hk : 1 ≤ k ∧ k ≤ 4 := by
    by_cases hz : bitsS k = 0
    · exact (h (res_z hz)).elim
    · rw [bits_z] at hz; omega
  have h3 := wrap_valid (n := a) hk
  simp -implicitDefEqProofs only [go_sem, Nat.reduceAdd, Nat.reduceMul, Nat.reduceLeDiff, Nat.reduceEqDiff, Nat.reduceLT, Int.reduceLE, Int.reduceLT, Int.reduceNeg, Int.reduceEq, Int.reduceAdd, Int.reduceSub, Int.reduceToNat, reduceCtorEq, ↓reduceIte, h]
  refine call_S (binary36 op k a b) (by simp [go_sem]) (by simp [go_sem]) (by simp [go_sem]) (by simp [go_sem]) ?_
  generalize binaryS op k a b = r at h1 ⊢
  generalize resultS op k = q at h1 h2 h ⊢
  simp -implicitDefEqProofs only [go_sem, Nat.reduceAdd, Nat.reduceMul, Nat.reduceLeDiff, Nat.reduceEqDiff, Nat.reduceLT, Int.reduceLE, Int.reduceLT, Int.reduceNeg, Int.reduceEq, Int.reduceAdd, Int.reduceSub, Int.reduceToNat, reduceCtorEq, ↓reduceIte]
  refine call_S (valid27 q r.1) (by simp [go_sem]) (by simp [go_sem]) (by simp [go_sem]) (by simp [go_sem]) ?_
  simp -implicitDefEqProofs only [go_sem, Nat.reduceAdd, Nat.reduceMul, Nat.reduceLeDiff, Nat.reduceEqDiff, Nat.reduceLT, Int.reduceLE, Int.reduceLT, Int.reduceNeg, Int.reduceEq, Int.reduceAdd, Int.reduceSub, Int.reduceToNat, reduceCtorEq, ↓reduceIte, h1]
  refine call_S (unary32 op k a) (by simp [go_sem]) (by simp [go_sem]) (by simp [go_sem]) (by simp [go_sem]) ?_
  generalize unaryS op k a = u at h2 ⊢
  simp -implicitDefEqProofs only [go_sem, Nat.reduceAdd, Nat.reduceMul, Nat.reduceLeDiff, Nat.reduceEqDiff, Nat.reduceLT, Int.reduceLE, Int.reduceLT, Int.reduceNeg, Int.reduceEq, Int.reduceAdd, Int.reduceSub, Int.reduceToNat, reduceCtorEq, ↓reduceIte]
  refine call_S (valid27 q u) (by simp [go_sem]) (by simp [go_sem]) (by simp [go_sem]) (by simp [go_sem]) ?_
  simp -implicitDefEqProofs only [go_sem, Nat.reduceAdd, Nat.reduceMul, Nat.reduceLeDiff, Nat.reduceEqDiff, Nat.reduceLT, Int.reduceLE, Int.reduceLT, Int.reduceNeg, Int.reduceEq, Int.reduceAdd, Int.reduceSub, Int.reduceToNat, reduceCtorEq, ↓reduceIte, h2]
  refine call_S (wrap25 k a) (by simp [go_sem]) (by simp [go_sem]) (by simp [go_sem]) (by simp [go_sem]) ?_
  generalize wrapS k a = w at h3 ⊢
  simp -implicitDefEqProofs only [go_sem, Nat.reduceAdd, Nat.reduceMul, Nat.reduceLeDiff, Nat.reduceEqDiff, Nat.reduceLT, Int.reduceLE, Int.reduceLT, Int.reduceNeg, Int.reduceEq, Int.reduceAdd, Int.reduceSub, Int.reduceToNat, reduceCtorEq, ↓reduceIte]
  refine call_S (valid27 k w) (by simp [go_sem]) (by simp [go_sem]) (by simp [go_sem]) (by simp [go_sem]) ?_
  simp -implicitDefEqProofs only [go_sem, Nat.reduceAdd, Nat.reduceMul, Nat.reduceLeDiff, Nat.reduceEqDiff, Nat.reduceLT, Int.reduceLE, Int.reduceLT, Int.reduceNeg, Int.reduceEq, Int.reduceAdd, Int.reduceSub, Int.reduceToNat, reduceCtorEq, ↓reduceIte, h3]
  refine call_S awake31 (by simp [go_sem]) (by simp [go_sem]) (by simp [go_sem]) (by simp [go_sem]) ?_
  simp -implicitDefEqProofs only [go_sem, Nat.reduceAdd, Nat.reduceMul, Nat.reduceLeDiff, Nat.reduceEqDiff, Nat.reduceLT, Int.reduceLE, Int.reduceLT, Int.reduceNeg, Int.reduceEq, Int.reduceAdd, Int.reduceSub, Int.reduceToNat, reduceCtorEq, ↓reduceIte]
end Go.Lz
