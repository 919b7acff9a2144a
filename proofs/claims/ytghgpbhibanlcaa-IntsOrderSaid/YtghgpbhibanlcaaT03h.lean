import Derived.Test.YtghgpbhibanlcaaT03g
namespace Go.Lz
set_option linter.unusedVariables false
set_option linter.unusedSimpArgs false
open Go.Proofs

theorem ring11 (k a b : Int) : Pu Try.prog 11 [I k, I a, I b] (B true) := by
  refine pu_of_awp Try.func11 rfl (by kernel_rfl) (by kernel_rfl) (awp_of_S ?_)
  simp only [Try.f11]
  by_cases h2 : k < 2
  · simp -implicitDefEqProofs only [go_sem, Nat.reduceAdd, Nat.reduceMul, Nat.reduceLeDiff, Nat.reduceEqDiff, Nat.reduceLT, Int.reduceLE, Int.reduceLT, Int.reduceNeg, Int.reduceEq, Int.reduceAdd, Int.reduceSub, Int.reduceToNat, reduceCtorEq, ↓reduceIte, h2]
    refine call_S awake31 (by simp [go_sem]) (by simp [go_sem]) (by simp [go_sem]) (by simp [go_sem]) ?_
    simp -implicitDefEqProofs only [go_sem, Nat.reduceAdd, Nat.reduceMul, Nat.reduceLeDiff, Nat.reduceEqDiff, Nat.reduceLT, Int.reduceLE, Int.reduceLT, Int.reduceNeg, Int.reduceEq, Int.reduceAdd, Int.reduceSub, Int.reduceToNat, reduceCtorEq, ↓reduceIte]
  by_cases h4 : 4 < k
  · simp -implicitDefEqProofs only [go_sem, Nat.reduceAdd, Nat.reduceMul, Nat.reduceLeDiff, Nat.reduceEqDiff, Nat.reduceLT, Int.reduceLE, Int.reduceLT, Int.reduceNeg, Int.reduceEq, Int.reduceAdd, Int.reduceSub, Int.reduceToNat, reduceCtorEq, ↓reduceIte, h2, h4]
    refine call_S awake31 (by simp [go_sem]) (by simp [go_sem]) (by simp [go_sem]) (by simp [go_sem]) ?_
    simp -implicitDefEqProofs only [go_sem, Nat.reduceAdd, Nat.reduceMul, Nat.reduceLeDiff, Nat.reduceEqDiff, Nat.reduceLT, Int.reduceLE, Int.reduceLT, Int.reduceNeg, Int.reduceEq, Int.reduceAdd, Int.reduceSub, Int.reduceToNat, reduceCtorEq, ↓reduceIte]
  have hk : k = 2 ∨ k = 3 ∨ k = 4 := by omega
  have r7 : ¬resultS 7 k = 0 := by rcases hk with rfl | rfl | rfl <;> decide
  have r8 : ¬resultS 8 k = 0 := by rcases hk with rfl | rfl | rfl <;> decide
  have r9 : ¬resultS 9 k = 0 := by rcases hk with rfl | rfl | rfl <;> decide
  have r10 : ¬resultS 10 k = 0 := by rcases hk with rfl | rfl | rfl <;> decide
  have r11 : ¬resultS 11 k = 0 := by rcases hk with rfl | rfl | rfl <;> decide
  have vw : ∀ n, validS k (wrapS k n) = true := fun n => wrap_valid (by omega)
  simp -implicitDefEqProofs only [go_sem, Nat.reduceAdd, Nat.reduceMul, Nat.reduceLeDiff, Nat.reduceEqDiff, Nat.reduceLT, Int.reduceLE, Int.reduceLT, Int.reduceNeg, Int.reduceEq, Int.reduceAdd, Int.reduceSub, Int.reduceToNat, reduceCtorEq, ↓reduceIte, h2, h4]
  refine call_S (wrap25 k a) (by simp [go_sem]) (by simp [go_sem]) (by simp [go_sem]) (by simp [go_sem]) ?_
  simp -implicitDefEqProofs only [go_sem, Nat.reduceAdd, Nat.reduceMul, Nat.reduceLeDiff, Nat.reduceEqDiff, Nat.reduceLT, Int.reduceLE, Int.reduceLT, Int.reduceNeg, Int.reduceEq, Int.reduceAdd, Int.reduceSub, Int.reduceToNat, reduceCtorEq, ↓reduceIte]
  refine call_S (wrap25 k b) (by simp [go_sem]) (by simp [go_sem]) (by simp [go_sem]) (by simp [go_sem]) ?_
  have ha := vw a
  have hb := vw b
  generalize wrapS k a = x at ha ⊢
  generalize wrapS k b = y at hb ⊢
  have e1 : binaryS 10 k x y = (wrapS k (x + y), 0) := by rw [bin_of (by decide) (by decide) r10 ha hb]; simp [binaryW]
  have e2 : binaryS 10 k y x = (wrapS k (x + y), 0) := by rw [bin_of (by decide) (by decide) r10 hb ha, Int.add_comm x y]; simp [binaryW]
  have e3 : binaryS 11 k (wrapS k (x + y)) y = (x, 0) := by rw [bin_of (by decide) (by decide) r11 (vw _) hb]; simp [binaryW, ring_sub hk ha hb]
  have e4 : binaryS 7 k x y = (wrapS k (IntKind.i64.wrap (x * y)), 0) := by rw [bin_of (by decide) (by decide) r7 ha hb]; simp [binaryW]
  have e5 : binaryS 7 k y x = (wrapS k (IntKind.i64.wrap (x * y)), 0) := by rw [bin_of (by decide) (by decide) r7 hb ha, Int.mul_comm x y]; simp [binaryW]
  simp -implicitDefEqProofs only [go_sem, Nat.reduceAdd, Nat.reduceMul, Nat.reduceLeDiff, Nat.reduceEqDiff, Nat.reduceLT, Int.reduceLE, Int.reduceLT, Int.reduceNeg, Int.reduceEq, Int.reduceAdd, Int.reduceSub, Int.reduceToNat, reduceCtorEq, ↓reduceIte]
  refine call_S (binary36 10 k x y) (by simp [go_sem]) (by simp [go_sem]) (by simp [go_sem]) (by simp [go_sem]) ?_
  simp -implicitDefEqProofs only [go_sem, Nat.reduceAdd, Nat.reduceMul, Nat.reduceLeDiff, Nat.reduceEqDiff, Nat.reduceLT, Int.reduceLE, Int.reduceLT, Int.reduceNeg, Int.reduceEq, Int.reduceAdd, Int.reduceSub, Int.reduceToNat, reduceCtorEq, ↓reduceIte, e1]
  refine call_S (binary36 10 k y x) (by simp [go_sem]) (by simp [go_sem]) (by simp [go_sem]) (by simp [go_sem]) ?_
  simp -implicitDefEqProofs only [go_sem, Nat.reduceAdd, Nat.reduceMul, Nat.reduceLeDiff, Nat.reduceEqDiff, Nat.reduceLT, Int.reduceLE, Int.reduceLT, Int.reduceNeg, Int.reduceEq, Int.reduceAdd, Int.reduceSub, Int.reduceToNat, reduceCtorEq, ↓reduceIte, e2]
  refine call_S (binary36 11 k (wrapS k (x + y)) y) (by simp [go_sem]) (by simp [go_sem]) (by simp [go_sem]) (by simp [go_sem]) ?_
  simp -implicitDefEqProofs only [go_sem, Nat.reduceAdd, Nat.reduceMul, Nat.reduceLeDiff, Nat.reduceEqDiff, Nat.reduceLT, Int.reduceLE, Int.reduceLT, Int.reduceNeg, Int.reduceEq, Int.reduceAdd, Int.reduceSub, Int.reduceToNat, reduceCtorEq, ↓reduceIte, e3]
  refine call_S (binary36 7 k x y) (by simp [go_sem]) (by simp [go_sem]) (by simp [go_sem]) (by simp [go_sem]) ?_
  simp -implicitDefEqProofs only [go_sem, Nat.reduceAdd, Nat.reduceMul, Nat.reduceLeDiff, Nat.reduceEqDiff, Nat.reduceLT, Int.reduceLE, Int.reduceLT, Int.reduceNeg, Int.reduceEq, Int.reduceAdd, Int.reduceSub, Int.reduceToNat, reduceCtorEq, ↓reduceIte, e4]
  refine call_S (binary36 7 k y x) (by simp [go_sem]) (by simp [go_sem]) (by simp [go_sem]) (by simp [go_sem]) ?_
  simp -implicitDefEqProofs only [go_sem, Nat.reduceAdd, Nat.reduceMul, Nat.reduceLeDiff, Nat.reduceEqDiff, Nat.reduceLT, Int.reduceLE, Int.reduceLT, Int.reduceNeg, Int.reduceEq, Int.reduceAdd, Int.reduceSub, Int.reduceToNat, reduceCtorEq, ↓reduceIte, e5]
  refine call_S (binary36 8 k x y) (by simp [go_sem]) (by simp [go_sem]) (by simp [go_sem]) (by simp [go_sem]) ?_
  by_cases hy : y = 0
  · subst hy
    have e6 : binaryS 8 k x 0 = (0, 1) := by rw [bin_of (by decide) (by decide) r8 ha hb]; simp [binaryW]
    have e7 : binaryS 9 k x 0 = (0, 1) := by rw [bin_of (by decide) (by decide) r9 ha hb]; simp [binaryW]
    simp -implicitDefEqProofs only [go_sem, Nat.reduceAdd, Nat.reduceMul, Nat.reduceLeDiff, Nat.reduceEqDiff, Nat.reduceLT, Int.reduceLE, Int.reduceLT, Int.reduceNeg, Int.reduceEq, Int.reduceAdd, Int.reduceSub, Int.reduceToNat, reduceCtorEq, ↓reduceIte, e6]
    refine call_S (binary36 9 k x 0) (by simp [go_sem]) (by simp [go_sem]) (by simp [go_sem]) (by simp [go_sem]) ?_
    simp -implicitDefEqProofs only [go_sem, Nat.reduceAdd, Nat.reduceMul, Nat.reduceLeDiff, Nat.reduceEqDiff, Nat.reduceLT, Int.reduceLE, Int.reduceLT, Int.reduceNeg, Int.reduceEq, Int.reduceAdd, Int.reduceSub, Int.reduceToNat, reduceCtorEq, ↓reduceIte, e7, beq_self_eq_true, Bool.true_beq, Bool.false_beq]
    refine call_S (binary36 7 k 0 0) (by simp [go_sem]) (by simp [go_sem]) (by simp [go_sem]) (by simp [go_sem]) ?_
    generalize binaryS 7 k 0 0 = q1
    simp -implicitDefEqProofs only [go_sem, Nat.reduceAdd, Nat.reduceMul, Nat.reduceLeDiff, Nat.reduceEqDiff, Nat.reduceLT, Int.reduceLE, Int.reduceLT, Int.reduceNeg, Int.reduceEq, Int.reduceAdd, Int.reduceSub, Int.reduceToNat, reduceCtorEq, ↓reduceIte]
    refine call_S (binary36 10 k q1.1 0) (by simp [go_sem]) (by simp [go_sem]) (by simp [go_sem]) (by simp [go_sem]) ?_
    generalize binaryS 10 k q1.1 0 = q2
    simp -implicitDefEqProofs only [go_sem, Nat.reduceAdd, Nat.reduceMul, Nat.reduceLeDiff, Nat.reduceEqDiff, Nat.reduceLT, Int.reduceLE, Int.reduceLT, Int.reduceNeg, Int.reduceEq, Int.reduceAdd, Int.reduceSub, Int.reduceToNat, reduceCtorEq, ↓reduceIte]
    refine call_S awake31 (by simp [go_sem]) (by simp [go_sem]) (by simp [go_sem]) (by simp [go_sem]) ?_
    simp -implicitDefEqProofs only [go_sem, Nat.reduceAdd, Nat.reduceMul, Nat.reduceLeDiff, Nat.reduceEqDiff, Nat.reduceLT, Int.reduceLE, Int.reduceLT, Int.reduceNeg, Int.reduceEq, Int.reduceAdd, Int.reduceSub, Int.reduceToNat, reduceCtorEq, ↓reduceIte]
  · have e6 : binaryS 8 k x y = (wrapS k (IntKind.i64.wrap (x.tdiv y)), 0) := by rw [bin_of (by decide) (by decide) r8 ha hb]; simp [binaryW, hy]
    have e7 : binaryS 9 k x y = (wrapS k (x.tmod y), 0) := by rw [bin_of (by decide) (by decide) r9 ha hb]; simp [binaryW, hy]
    have hr := ring_back (b := y) hk ha
    have e8 : binaryS 7 k (wrapS k (IntKind.i64.wrap (x.tdiv y))) y = (wrapS k (IntKind.i64.wrap (wrapS k (IntKind.i64.wrap (x.tdiv y)) * y)), 0) := by rw [bin_of (by decide) (by decide) r7 (vw _) hb]; simp [binaryW]
    have e9 : binaryS 10 k (wrapS k (IntKind.i64.wrap (wrapS k (IntKind.i64.wrap (x.tdiv y)) * y))) (wrapS k (x.tmod y)) = (x, 0) := by rw [bin_of (by decide) (by decide) r10 (vw _) (vw _)]; simp [binaryW, hr]
    generalize wrapS k (IntKind.i64.wrap (x.tdiv y)) = d at e6 e8 e9
    generalize wrapS k (x.tmod y) = m at e7 e9
    generalize wrapS k (IntKind.i64.wrap (d * y)) = z at e8 e9
    simp -implicitDefEqProofs only [go_sem, Nat.reduceAdd, Nat.reduceMul, Nat.reduceLeDiff, Nat.reduceEqDiff, Nat.reduceLT, Int.reduceLE, Int.reduceLT, Int.reduceNeg, Int.reduceEq, Int.reduceAdd, Int.reduceSub, Int.reduceToNat, reduceCtorEq, ↓reduceIte, e6]
    refine call_S (binary36 9 k x y) (by simp [go_sem]) (by simp [go_sem]) (by simp [go_sem]) (by simp [go_sem]) ?_
    simp -implicitDefEqProofs only [go_sem, Nat.reduceAdd, Nat.reduceMul, Nat.reduceLeDiff, Nat.reduceEqDiff, Nat.reduceLT, Int.reduceLE, Int.reduceLT, Int.reduceNeg, Int.reduceEq, Int.reduceAdd, Int.reduceSub, Int.reduceToNat, reduceCtorEq, ↓reduceIte, e7, hy, beq_self_eq_true, Bool.true_beq, Bool.false_beq]
    refine call_S (binary36 7 k d y) (by simp [go_sem]) (by simp [go_sem]) (by simp [go_sem]) (by simp [go_sem]) ?_
    simp -implicitDefEqProofs only [go_sem, Nat.reduceAdd, Nat.reduceMul, Nat.reduceLeDiff, Nat.reduceEqDiff, Nat.reduceLT, Int.reduceLE, Int.reduceLT, Int.reduceNeg, Int.reduceEq, Int.reduceAdd, Int.reduceSub, Int.reduceToNat, reduceCtorEq, ↓reduceIte, e8]
    refine call_S (binary36 10 k z m) (by simp [go_sem]) (by simp [go_sem]) (by simp [go_sem]) (by simp [go_sem]) ?_
    simp -implicitDefEqProofs only [go_sem, Nat.reduceAdd, Nat.reduceMul, Nat.reduceLeDiff, Nat.reduceEqDiff, Nat.reduceLT, Int.reduceLE, Int.reduceLT, Int.reduceNeg, Int.reduceEq, Int.reduceAdd, Int.reduceSub, Int.reduceToNat, reduceCtorEq, ↓reduceIte, e9, hy]
    refine call_S awake31 (by simp [go_sem]) (by simp [go_sem]) (by simp [go_sem]) (by simp [go_sem]) ?_
    simp -implicitDefEqProofs only [go_sem, Nat.reduceAdd, Nat.reduceMul, Nat.reduceLeDiff, Nat.reduceEqDiff, Nat.reduceLT, Int.reduceLE, Int.reduceLT, Int.reduceNeg, Int.reduceEq, Int.reduceAdd, Int.reduceSub, Int.reduceToNat, reduceCtorEq, ↓reduceIte]
end Go.Lz
