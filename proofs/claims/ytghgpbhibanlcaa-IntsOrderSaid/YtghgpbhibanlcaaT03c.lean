import Derived.Test.YtghgpbhibanlcaaT03b
namespace Go.Lz
set_option linter.unusedVariables false
set_option linter.unusedSimpArgs false
open Go.Proofs
theorem bits_z (k : Int) : bitsS k = 0 ↔ ¬(k = 1 ∨ k = 2 ∨ k = 3 ∨ k = 4) := by
  rcases kinds k with rfl | rfl | rfl | rfl | ⟨h1, h2, h3, h4⟩
  · decide
  · decide
  · decide
  · decide
  · simp [bits_o h1 h2 h3 h4, h1, h2, h3, h4]
theorem ops (op : Int) : op = 5 ∨ op = 6 ∨ op = 7 ∨ op = 8 ∨ op = 9 ∨ op = 10 ∨ op = 11 ∨ op = 12 ∨ op = 13 ∨ op = 14 ∨ op = 15 ∨ op = 16 ∨ op = 17 ∨ op = 18 ∨ op = 19 ∨ op = 20 ∨ (¬op = 5 ∧ ¬op = 6 ∧ ¬op = 7 ∧ ¬op = 8 ∧ ¬op = 9 ∧ ¬op = 10 ∧ ¬op = 11 ∧ ¬op = 12 ∧ ¬op = 13 ∧ ¬op = 14 ∧ ¬op = 15 ∧ ¬op = 16 ∧ ¬op = 17 ∧ ¬op = 18 ∧ ¬op = 19 ∧ ¬op = 20 ∧ ¬7 ≤ op ∧ ¬18 ≤ op ∧ ¬14 ≤ op) ∨ (¬op = 5 ∧ ¬op = 6 ∧ ¬op = 7 ∧ ¬op = 8 ∧ ¬op = 9 ∧ ¬op = 10 ∧ ¬op = 11 ∧ ¬op = 12 ∧ ¬op = 13 ∧ ¬op = 14 ∧ ¬op = 15 ∧ ¬op = 16 ∧ ¬op = 17 ∧ ¬op = 18 ∧ ¬op = 19 ∧ ¬op = 20 ∧ 7 ≤ op ∧ 18 ≤ op ∧ 14 ≤ op ∧ ¬op ≤ 11 ∧ ¬op ≤ 17 ∧ ¬op ≤ 20) := by
  by_cases o5 : op = 5
  · exact .inl o5
  refine .inr ?_
  by_cases o6 : op = 6
  · exact .inl o6
  refine .inr ?_
  by_cases o7 : op = 7
  · exact .inl o7
  refine .inr ?_
  by_cases o8 : op = 8
  · exact .inl o8
  refine .inr ?_
  by_cases o9 : op = 9
  · exact .inl o9
  refine .inr ?_
  by_cases o10 : op = 10
  · exact .inl o10
  refine .inr ?_
  by_cases o11 : op = 11
  · exact .inl o11
  refine .inr ?_
  by_cases o12 : op = 12
  · exact .inl o12
  refine .inr ?_
  by_cases o13 : op = 13
  · exact .inl o13
  refine .inr ?_
  by_cases o14 : op = 14
  · exact .inl o14
  refine .inr ?_
  by_cases o15 : op = 15
  · exact .inl o15
  refine .inr ?_
  by_cases o16 : op = 16
  · exact .inl o16
  refine .inr ?_
  by_cases o17 : op = 17
  · exact .inl o17
  refine .inr ?_
  by_cases o18 : op = 18
  · exact .inl o18
  refine .inr ?_
  by_cases o19 : op = 19
  · exact .inl o19
  refine .inr ?_
  by_cases o20 : op = 20
  · exact .inl o20
  refine .inr ?_
  rcases Int.lt_or_le op 5 with h | h
  · exact .inl ⟨o5, o6, o7, o8, o9, o10, o11, o12, o13, o14, o15, o16, o17, o18, o19, o20, by omega, by omega, by omega⟩
  · refine .inr ⟨o5, o6, o7, o8, o9, o10, o11, o12, o13, o14, o15, o16, o17, o18, o19, o20, ?_⟩
    have : 20 < op := by omega
    exact ⟨by omega, by omega, by omega, by omega, by omega, by omega⟩
def resB (op k : Int) (z n1 n4 : Bool) : Int :=
  if z then 0 else if op = 5 ∨ 7 ≤ op ∧ op ≤ 11 then (if n1 then 0 else k) else if op = 6 ∨ 18 ≤ op ∧ op ≤ 20 then (if n4 then 0 else k) else if op = 12 ∨ op = 13 then 1 else if 14 ≤ op ∧ op ≤ 17 then (if n1 then 0 else 1) else 0
theorem res_z {op k : Int} (h : bitsS k = 0) : resultS op k = 0 := by
  rw [bits_z] at h; simp [resultS, h]
theorem res_n {op k : Int} (h : ¬bitsS k = 0) : resultS op k = if op = 5 ∨ 7 ≤ op ∧ op ≤ 11 then (if k = 1 then 0 else k) else if op = 6 ∨ 18 ≤ op ∧ op ≤ 20 then (if k = 4 then 0 else k) else if op = 12 ∨ op = 13 then 1 else if 14 ≤ op ∧ op ≤ 17 then (if k = 1 then 0 else 1) else 0 := by
  rw [bits_z, Decidable.not_not] at h; simp only [resultS, h, if_true]
set_option maxHeartbeats 1000000 in
theorem result34 (op k : Int) : Pu Try.prog 34 [I op, I k] (I (resultS op k)) := by
  generalize hr : resultS op k = r
  refine pu_of_awp Try.func34 rfl (by kernel_rfl) (by kernel_rfl) (awp_of_S ?_)
  simp only [Try.f34]
  simp -implicitDefEqProofs only [go_sem, Nat.reduceAdd, Nat.reduceMul, Nat.reduceLeDiff, Nat.reduceEqDiff, Nat.reduceLT, Int.reduceLE, Int.reduceLT, Int.reduceNeg, Int.reduceEq, Int.reduceAdd, Int.reduceSub, Int.reduceToNat, reduceCtorEq, ↓reduceIte]
  refine call_S (bits29 k) (by simp [go_sem]) (by simp [go_sem]) (by simp [go_sem]) (by simp [go_sem]) ?_
  by_cases hz : bitsS k = 0
  · rw [res_z hz] at hr
    subst hr
    simp -implicitDefEqProofs only [go_sem, Nat.reduceAdd, Nat.reduceMul, Nat.reduceLeDiff, Nat.reduceEqDiff, Nat.reduceLT, Int.reduceLE, Int.reduceLT, Int.reduceNeg, Int.reduceEq, Int.reduceAdd, Int.reduceSub, Int.reduceToNat, reduceCtorEq, ↓reduceIte, hz]
  rw [res_n hz] at hr
  simp -implicitDefEqProofs only [go_sem, Nat.reduceAdd, Nat.reduceMul, Nat.reduceLeDiff, Nat.reduceEqDiff, Nat.reduceLT, Int.reduceLE, Int.reduceLT, Int.reduceNeg, Int.reduceEq, Int.reduceAdd, Int.reduceSub, Int.reduceToNat, reduceCtorEq, ↓reduceIte, hz]
  rcases ops op with rfl | rfl | rfl | rfl | rfl | rfl | rfl | rfl | rfl | rfl | rfl | rfl | rfl | rfl | rfl | rfl | ⟨o5, o6, o7, o8, o9, o10, o11, o12, o13, o14, o15, o16, o17, o18, o19, o20, a1, a2, a3⟩ | ⟨o5, o6, o7, o8, o9, o10, o11, o12, o13, o14, o15, o16, o17, o18, o19, o20, a1, a2, a3, b1, b2, b3⟩
  · simp -implicitDefEqProofs only [go_sem, Nat.reduceAdd, Nat.reduceMul, Nat.reduceLeDiff, Nat.reduceEqDiff, Nat.reduceLT, Int.reduceLE, Int.reduceLT, Int.reduceNeg, Int.reduceEq, Int.reduceAdd, Int.reduceSub, Int.reduceToNat, reduceCtorEq, ↓reduceIte, true_or, or_true, false_and, and_false] at hr ⊢
    try simp only [V.one.injEq, C.int.injEq, true_and, Bool.not_eq_true', Bool.not_eq_false', decide_eq_true_eq, decide_eq_false_iff_not]
    omega
  · simp -implicitDefEqProofs only [go_sem, Nat.reduceAdd, Nat.reduceMul, Nat.reduceLeDiff, Nat.reduceEqDiff, Nat.reduceLT, Int.reduceLE, Int.reduceLT, Int.reduceNeg, Int.reduceEq, Int.reduceAdd, Int.reduceSub, Int.reduceToNat, reduceCtorEq, ↓reduceIte, true_or, or_true, false_and, and_false] at hr ⊢
    try simp only [V.one.injEq, C.int.injEq, true_and, Bool.not_eq_true', Bool.not_eq_false', decide_eq_true_eq, decide_eq_false_iff_not]
    omega
  · simp -implicitDefEqProofs only [go_sem, Nat.reduceAdd, Nat.reduceMul, Nat.reduceLeDiff, Nat.reduceEqDiff, Nat.reduceLT, Int.reduceLE, Int.reduceLT, Int.reduceNeg, Int.reduceEq, Int.reduceAdd, Int.reduceSub, Int.reduceToNat, reduceCtorEq, ↓reduceIte, true_or, or_true, false_and, and_false] at hr ⊢
    try simp only [V.one.injEq, C.int.injEq, true_and, Bool.not_eq_true', Bool.not_eq_false', decide_eq_true_eq, decide_eq_false_iff_not]
    omega
  · simp -implicitDefEqProofs only [go_sem, Nat.reduceAdd, Nat.reduceMul, Nat.reduceLeDiff, Nat.reduceEqDiff, Nat.reduceLT, Int.reduceLE, Int.reduceLT, Int.reduceNeg, Int.reduceEq, Int.reduceAdd, Int.reduceSub, Int.reduceToNat, reduceCtorEq, ↓reduceIte, true_or, or_true, false_and, and_false] at hr ⊢
    try simp only [V.one.injEq, C.int.injEq, true_and, Bool.not_eq_true', Bool.not_eq_false', decide_eq_true_eq, decide_eq_false_iff_not]
    omega
  · simp -implicitDefEqProofs only [go_sem, Nat.reduceAdd, Nat.reduceMul, Nat.reduceLeDiff, Nat.reduceEqDiff, Nat.reduceLT, Int.reduceLE, Int.reduceLT, Int.reduceNeg, Int.reduceEq, Int.reduceAdd, Int.reduceSub, Int.reduceToNat, reduceCtorEq, ↓reduceIte, true_or, or_true, false_and, and_false] at hr ⊢
    try simp only [V.one.injEq, C.int.injEq, true_and, Bool.not_eq_true', Bool.not_eq_false', decide_eq_true_eq, decide_eq_false_iff_not]
    omega
  · simp -implicitDefEqProofs only [go_sem, Nat.reduceAdd, Nat.reduceMul, Nat.reduceLeDiff, Nat.reduceEqDiff, Nat.reduceLT, Int.reduceLE, Int.reduceLT, Int.reduceNeg, Int.reduceEq, Int.reduceAdd, Int.reduceSub, Int.reduceToNat, reduceCtorEq, ↓reduceIte, true_or, or_true, false_and, and_false] at hr ⊢
    try simp only [V.one.injEq, C.int.injEq, true_and, Bool.not_eq_true', Bool.not_eq_false', decide_eq_true_eq, decide_eq_false_iff_not]
    omega
  · simp -implicitDefEqProofs only [go_sem, Nat.reduceAdd, Nat.reduceMul, Nat.reduceLeDiff, Nat.reduceEqDiff, Nat.reduceLT, Int.reduceLE, Int.reduceLT, Int.reduceNeg, Int.reduceEq, Int.reduceAdd, Int.reduceSub, Int.reduceToNat, reduceCtorEq, ↓reduceIte, true_or, or_true, false_and, and_false] at hr ⊢
    try simp only [V.one.injEq, C.int.injEq, true_and, Bool.not_eq_true', Bool.not_eq_false', decide_eq_true_eq, decide_eq_false_iff_not]
    omega
  · simp -implicitDefEqProofs only [go_sem, Nat.reduceAdd, Nat.reduceMul, Nat.reduceLeDiff, Nat.reduceEqDiff, Nat.reduceLT, Int.reduceLE, Int.reduceLT, Int.reduceNeg, Int.reduceEq, Int.reduceAdd, Int.reduceSub, Int.reduceToNat, reduceCtorEq, ↓reduceIte, true_or, or_true, false_and, and_false] at hr ⊢
    try simp only [V.one.injEq, C.int.injEq, true_and, Bool.not_eq_true', Bool.not_eq_false', decide_eq_true_eq, decide_eq_false_iff_not]
    omega
  · simp -implicitDefEqProofs only [go_sem, Nat.reduceAdd, Nat.reduceMul, Nat.reduceLeDiff, Nat.reduceEqDiff, Nat.reduceLT, Int.reduceLE, Int.reduceLT, Int.reduceNeg, Int.reduceEq, Int.reduceAdd, Int.reduceSub, Int.reduceToNat, reduceCtorEq, ↓reduceIte, true_or, or_true, false_and, and_false] at hr ⊢
    try simp only [V.one.injEq, C.int.injEq, true_and, Bool.not_eq_true', Bool.not_eq_false', decide_eq_true_eq, decide_eq_false_iff_not]
    omega
  · simp -implicitDefEqProofs only [go_sem, Nat.reduceAdd, Nat.reduceMul, Nat.reduceLeDiff, Nat.reduceEqDiff, Nat.reduceLT, Int.reduceLE, Int.reduceLT, Int.reduceNeg, Int.reduceEq, Int.reduceAdd, Int.reduceSub, Int.reduceToNat, reduceCtorEq, ↓reduceIte, true_or, or_true, false_and, and_false] at hr ⊢
    try simp only [V.one.injEq, C.int.injEq, true_and, Bool.not_eq_true', Bool.not_eq_false', decide_eq_true_eq, decide_eq_false_iff_not]
    omega
  · simp -implicitDefEqProofs only [go_sem, Nat.reduceAdd, Nat.reduceMul, Nat.reduceLeDiff, Nat.reduceEqDiff, Nat.reduceLT, Int.reduceLE, Int.reduceLT, Int.reduceNeg, Int.reduceEq, Int.reduceAdd, Int.reduceSub, Int.reduceToNat, reduceCtorEq, ↓reduceIte, true_or, or_true, false_and, and_false] at hr ⊢
    try simp only [V.one.injEq, C.int.injEq, true_and, Bool.not_eq_true', Bool.not_eq_false', decide_eq_true_eq, decide_eq_false_iff_not]
    omega
  · simp -implicitDefEqProofs only [go_sem, Nat.reduceAdd, Nat.reduceMul, Nat.reduceLeDiff, Nat.reduceEqDiff, Nat.reduceLT, Int.reduceLE, Int.reduceLT, Int.reduceNeg, Int.reduceEq, Int.reduceAdd, Int.reduceSub, Int.reduceToNat, reduceCtorEq, ↓reduceIte, true_or, or_true, false_and, and_false] at hr ⊢
    try simp only [V.one.injEq, C.int.injEq, true_and, Bool.not_eq_true', Bool.not_eq_false', decide_eq_true_eq, decide_eq_false_iff_not]
    omega
  · simp -implicitDefEqProofs only [go_sem, Nat.reduceAdd, Nat.reduceMul, Nat.reduceLeDiff, Nat.reduceEqDiff, Nat.reduceLT, Int.reduceLE, Int.reduceLT, Int.reduceNeg, Int.reduceEq, Int.reduceAdd, Int.reduceSub, Int.reduceToNat, reduceCtorEq, ↓reduceIte, true_or, or_true, false_and, and_false] at hr ⊢
    try simp only [V.one.injEq, C.int.injEq, true_and, Bool.not_eq_true', Bool.not_eq_false', decide_eq_true_eq, decide_eq_false_iff_not]
    omega
  · simp -implicitDefEqProofs only [go_sem, Nat.reduceAdd, Nat.reduceMul, Nat.reduceLeDiff, Nat.reduceEqDiff, Nat.reduceLT, Int.reduceLE, Int.reduceLT, Int.reduceNeg, Int.reduceEq, Int.reduceAdd, Int.reduceSub, Int.reduceToNat, reduceCtorEq, ↓reduceIte, true_or, or_true, false_and, and_false] at hr ⊢
    try simp only [V.one.injEq, C.int.injEq, true_and, Bool.not_eq_true', Bool.not_eq_false', decide_eq_true_eq, decide_eq_false_iff_not]
    omega
  · simp -implicitDefEqProofs only [go_sem, Nat.reduceAdd, Nat.reduceMul, Nat.reduceLeDiff, Nat.reduceEqDiff, Nat.reduceLT, Int.reduceLE, Int.reduceLT, Int.reduceNeg, Int.reduceEq, Int.reduceAdd, Int.reduceSub, Int.reduceToNat, reduceCtorEq, ↓reduceIte, true_or, or_true, false_and, and_false] at hr ⊢
    try simp only [V.one.injEq, C.int.injEq, true_and, Bool.not_eq_true', Bool.not_eq_false', decide_eq_true_eq, decide_eq_false_iff_not]
    omega
  · simp -implicitDefEqProofs only [go_sem, Nat.reduceAdd, Nat.reduceMul, Nat.reduceLeDiff, Nat.reduceEqDiff, Nat.reduceLT, Int.reduceLE, Int.reduceLT, Int.reduceNeg, Int.reduceEq, Int.reduceAdd, Int.reduceSub, Int.reduceToNat, reduceCtorEq, ↓reduceIte, true_or, or_true, false_and, and_false] at hr ⊢
    try simp only [V.one.injEq, C.int.injEq, true_and, Bool.not_eq_true', Bool.not_eq_false', decide_eq_true_eq, decide_eq_false_iff_not]
    omega
  · simp -implicitDefEqProofs only [go_sem, Nat.reduceAdd, Nat.reduceMul, Nat.reduceLeDiff, Nat.reduceEqDiff, Nat.reduceLT, Int.reduceLE, Int.reduceLT, Int.reduceNeg, Int.reduceEq, Int.reduceAdd, Int.reduceSub, Int.reduceToNat, reduceCtorEq, ↓reduceIte, true_or, or_true, false_and, and_false, o5, o6, o7, o8, o9, o10, o11, o12, o13, o14, o15, o16, o17, o18, o19, o20, a1, a2, a3] at hr ⊢
    rw [hr]
  · simp -implicitDefEqProofs only [go_sem, Nat.reduceAdd, Nat.reduceMul, Nat.reduceLeDiff, Nat.reduceEqDiff, Nat.reduceLT, Int.reduceLE, Int.reduceLT, Int.reduceNeg, Int.reduceEq, Int.reduceAdd, Int.reduceSub, Int.reduceToNat, reduceCtorEq, ↓reduceIte, true_or, or_true, false_and, and_false, o5, o6, o7, o8, o9, o10, o11, o12, o13, o14, o15, o16, o17, o18, o19, o20, a1, a2, a3, b1, b2, b3] at hr ⊢
    rw [hr]
set_option maxHeartbeats 1000000 in
theorem result35 (op k : Int) : Pu Try.prog 35 [I op, I k] (I (resultS op k)) := by
  generalize hr : resultS op k = r
  refine pu_of_awp Try.func35 rfl (by kernel_rfl) (by kernel_rfl) (awp_of_S ?_)
  simp only [Try.f35]
  simp -implicitDefEqProofs only [go_sem, Nat.reduceAdd, Nat.reduceMul, Nat.reduceLeDiff, Nat.reduceEqDiff, Nat.reduceLT, Int.reduceLE, Int.reduceLT, Int.reduceNeg, Int.reduceEq, Int.reduceAdd, Int.reduceSub, Int.reduceToNat, reduceCtorEq, ↓reduceIte]
  refine call_S (bits30 k) (by simp [go_sem]) (by simp [go_sem]) (by simp [go_sem]) (by simp [go_sem]) ?_
  by_cases hz : bitsS k = 0
  · rw [res_z hz] at hr
    subst hr
    simp -implicitDefEqProofs only [go_sem, Nat.reduceAdd, Nat.reduceMul, Nat.reduceLeDiff, Nat.reduceEqDiff, Nat.reduceLT, Int.reduceLE, Int.reduceLT, Int.reduceNeg, Int.reduceEq, Int.reduceAdd, Int.reduceSub, Int.reduceToNat, reduceCtorEq, ↓reduceIte, hz]
  rw [res_n hz] at hr
  simp -implicitDefEqProofs only [go_sem, Nat.reduceAdd, Nat.reduceMul, Nat.reduceLeDiff, Nat.reduceEqDiff, Nat.reduceLT, Int.reduceLE, Int.reduceLT, Int.reduceNeg, Int.reduceEq, Int.reduceAdd, Int.reduceSub, Int.reduceToNat, reduceCtorEq, ↓reduceIte, hz]
  rcases ops op with rfl | rfl | rfl | rfl | rfl | rfl | rfl | rfl | rfl | rfl | rfl | rfl | rfl | rfl | rfl | rfl | ⟨o5, o6, o7, o8, o9, o10, o11, o12, o13, o14, o15, o16, o17, o18, o19, o20, a1, a2, a3⟩ | ⟨o5, o6, o7, o8, o9, o10, o11, o12, o13, o14, o15, o16, o17, o18, o19, o20, a1, a2, a3, b1, b2, b3⟩
  · simp -implicitDefEqProofs only [go_sem, Nat.reduceAdd, Nat.reduceMul, Nat.reduceLeDiff, Nat.reduceEqDiff, Nat.reduceLT, Int.reduceLE, Int.reduceLT, Int.reduceNeg, Int.reduceEq, Int.reduceAdd, Int.reduceSub, Int.reduceToNat, reduceCtorEq, ↓reduceIte, true_or, or_true, false_and, and_false] at hr ⊢
    try simp only [V.one.injEq, C.int.injEq, true_and, Bool.not_eq_true', Bool.not_eq_false', decide_eq_true_eq, decide_eq_false_iff_not]
    omega
  · simp -implicitDefEqProofs only [go_sem, Nat.reduceAdd, Nat.reduceMul, Nat.reduceLeDiff, Nat.reduceEqDiff, Nat.reduceLT, Int.reduceLE, Int.reduceLT, Int.reduceNeg, Int.reduceEq, Int.reduceAdd, Int.reduceSub, Int.reduceToNat, reduceCtorEq, ↓reduceIte, true_or, or_true, false_and, and_false] at hr ⊢
    try simp only [V.one.injEq, C.int.injEq, true_and, Bool.not_eq_true', Bool.not_eq_false', decide_eq_true_eq, decide_eq_false_iff_not]
    omega
  · simp -implicitDefEqProofs only [go_sem, Nat.reduceAdd, Nat.reduceMul, Nat.reduceLeDiff, Nat.reduceEqDiff, Nat.reduceLT, Int.reduceLE, Int.reduceLT, Int.reduceNeg, Int.reduceEq, Int.reduceAdd, Int.reduceSub, Int.reduceToNat, reduceCtorEq, ↓reduceIte, true_or, or_true, false_and, and_false] at hr ⊢
    try simp only [V.one.injEq, C.int.injEq, true_and, Bool.not_eq_true', Bool.not_eq_false', decide_eq_true_eq, decide_eq_false_iff_not]
    omega
  · simp -implicitDefEqProofs only [go_sem, Nat.reduceAdd, Nat.reduceMul, Nat.reduceLeDiff, Nat.reduceEqDiff, Nat.reduceLT, Int.reduceLE, Int.reduceLT, Int.reduceNeg, Int.reduceEq, Int.reduceAdd, Int.reduceSub, Int.reduceToNat, reduceCtorEq, ↓reduceIte, true_or, or_true, false_and, and_false] at hr ⊢
    try simp only [V.one.injEq, C.int.injEq, true_and, Bool.not_eq_true', Bool.not_eq_false', decide_eq_true_eq, decide_eq_false_iff_not]
    omega
  · simp -implicitDefEqProofs only [go_sem, Nat.reduceAdd, Nat.reduceMul, Nat.reduceLeDiff, Nat.reduceEqDiff, Nat.reduceLT, Int.reduceLE, Int.reduceLT, Int.reduceNeg, Int.reduceEq, Int.reduceAdd, Int.reduceSub, Int.reduceToNat, reduceCtorEq, ↓reduceIte, true_or, or_true, false_and, and_false] at hr ⊢
    try simp only [V.one.injEq, C.int.injEq, true_and, Bool.not_eq_true', Bool.not_eq_false', decide_eq_true_eq, decide_eq_false_iff_not]
    omega
  · simp -implicitDefEqProofs only [go_sem, Nat.reduceAdd, Nat.reduceMul, Nat.reduceLeDiff, Nat.reduceEqDiff, Nat.reduceLT, Int.reduceLE, Int.reduceLT, Int.reduceNeg, Int.reduceEq, Int.reduceAdd, Int.reduceSub, Int.reduceToNat, reduceCtorEq, ↓reduceIte, true_or, or_true, false_and, and_false] at hr ⊢
    try simp only [V.one.injEq, C.int.injEq, true_and, Bool.not_eq_true', Bool.not_eq_false', decide_eq_true_eq, decide_eq_false_iff_not]
    omega
  · simp -implicitDefEqProofs only [go_sem, Nat.reduceAdd, Nat.reduceMul, Nat.reduceLeDiff, Nat.reduceEqDiff, Nat.reduceLT, Int.reduceLE, Int.reduceLT, Int.reduceNeg, Int.reduceEq, Int.reduceAdd, Int.reduceSub, Int.reduceToNat, reduceCtorEq, ↓reduceIte, true_or, or_true, false_and, and_false] at hr ⊢
    try simp only [V.one.injEq, C.int.injEq, true_and, Bool.not_eq_true', Bool.not_eq_false', decide_eq_true_eq, decide_eq_false_iff_not]
    omega
  · simp -implicitDefEqProofs only [go_sem, Nat.reduceAdd, Nat.reduceMul, Nat.reduceLeDiff, Nat.reduceEqDiff, Nat.reduceLT, Int.reduceLE, Int.reduceLT, Int.reduceNeg, Int.reduceEq, Int.reduceAdd, Int.reduceSub, Int.reduceToNat, reduceCtorEq, ↓reduceIte, true_or, or_true, false_and, and_false] at hr ⊢
    try simp only [V.one.injEq, C.int.injEq, true_and, Bool.not_eq_true', Bool.not_eq_false', decide_eq_true_eq, decide_eq_false_iff_not]
    omega
  · simp -implicitDefEqProofs only [go_sem, Nat.reduceAdd, Nat.reduceMul, Nat.reduceLeDiff, Nat.reduceEqDiff, Nat.reduceLT, Int.reduceLE, Int.reduceLT, Int.reduceNeg, Int.reduceEq, Int.reduceAdd, Int.reduceSub, Int.reduceToNat, reduceCtorEq, ↓reduceIte, true_or, or_true, false_and, and_false] at hr ⊢
    try simp only [V.one.injEq, C.int.injEq, true_and, Bool.not_eq_true', Bool.not_eq_false', decide_eq_true_eq, decide_eq_false_iff_not]
    omega
  · simp -implicitDefEqProofs only [go_sem, Nat.reduceAdd, Nat.reduceMul, Nat.reduceLeDiff, Nat.reduceEqDiff, Nat.reduceLT, Int.reduceLE, Int.reduceLT, Int.reduceNeg, Int.reduceEq, Int.reduceAdd, Int.reduceSub, Int.reduceToNat, reduceCtorEq, ↓reduceIte, true_or, or_true, false_and, and_false] at hr ⊢
    try simp only [V.one.injEq, C.int.injEq, true_and, Bool.not_eq_true', Bool.not_eq_false', decide_eq_true_eq, decide_eq_false_iff_not]
    omega
  · simp -implicitDefEqProofs only [go_sem, Nat.reduceAdd, Nat.reduceMul, Nat.reduceLeDiff, Nat.reduceEqDiff, Nat.reduceLT, Int.reduceLE, Int.reduceLT, Int.reduceNeg, Int.reduceEq, Int.reduceAdd, Int.reduceSub, Int.reduceToNat, reduceCtorEq, ↓reduceIte, true_or, or_true, false_and, and_false] at hr ⊢
    try simp only [V.one.injEq, C.int.injEq, true_and, Bool.not_eq_true', Bool.not_eq_false', decide_eq_true_eq, decide_eq_false_iff_not]
    omega
  · simp -implicitDefEqProofs only [go_sem, Nat.reduceAdd, Nat.reduceMul, Nat.reduceLeDiff, Nat.reduceEqDiff, Nat.reduceLT, Int.reduceLE, Int.reduceLT, Int.reduceNeg, Int.reduceEq, Int.reduceAdd, Int.reduceSub, Int.reduceToNat, reduceCtorEq, ↓reduceIte, true_or, or_true, false_and, and_false] at hr ⊢
    try simp only [V.one.injEq, C.int.injEq, true_and, Bool.not_eq_true', Bool.not_eq_false', decide_eq_true_eq, decide_eq_false_iff_not]
    omega
  · simp -implicitDefEqProofs only [go_sem, Nat.reduceAdd, Nat.reduceMul, Nat.reduceLeDiff, Nat.reduceEqDiff, Nat.reduceLT, Int.reduceLE, Int.reduceLT, Int.reduceNeg, Int.reduceEq, Int.reduceAdd, Int.reduceSub, Int.reduceToNat, reduceCtorEq, ↓reduceIte, true_or, or_true, false_and, and_false] at hr ⊢
    try simp only [V.one.injEq, C.int.injEq, true_and, Bool.not_eq_true', Bool.not_eq_false', decide_eq_true_eq, decide_eq_false_iff_not]
    omega
  · simp -implicitDefEqProofs only [go_sem, Nat.reduceAdd, Nat.reduceMul, Nat.reduceLeDiff, Nat.reduceEqDiff, Nat.reduceLT, Int.reduceLE, Int.reduceLT, Int.reduceNeg, Int.reduceEq, Int.reduceAdd, Int.reduceSub, Int.reduceToNat, reduceCtorEq, ↓reduceIte, true_or, or_true, false_and, and_false] at hr ⊢
    try simp only [V.one.injEq, C.int.injEq, true_and, Bool.not_eq_true', Bool.not_eq_false', decide_eq_true_eq, decide_eq_false_iff_not]
    omega
  · simp -implicitDefEqProofs only [go_sem, Nat.reduceAdd, Nat.reduceMul, Nat.reduceLeDiff, Nat.reduceEqDiff, Nat.reduceLT, Int.reduceLE, Int.reduceLT, Int.reduceNeg, Int.reduceEq, Int.reduceAdd, Int.reduceSub, Int.reduceToNat, reduceCtorEq, ↓reduceIte, true_or, or_true, false_and, and_false] at hr ⊢
    try simp only [V.one.injEq, C.int.injEq, true_and, Bool.not_eq_true', Bool.not_eq_false', decide_eq_true_eq, decide_eq_false_iff_not]
    omega
  · simp -implicitDefEqProofs only [go_sem, Nat.reduceAdd, Nat.reduceMul, Nat.reduceLeDiff, Nat.reduceEqDiff, Nat.reduceLT, Int.reduceLE, Int.reduceLT, Int.reduceNeg, Int.reduceEq, Int.reduceAdd, Int.reduceSub, Int.reduceToNat, reduceCtorEq, ↓reduceIte, true_or, or_true, false_and, and_false] at hr ⊢
    try simp only [V.one.injEq, C.int.injEq, true_and, Bool.not_eq_true', Bool.not_eq_false', decide_eq_true_eq, decide_eq_false_iff_not]
    omega
  · simp -implicitDefEqProofs only [go_sem, Nat.reduceAdd, Nat.reduceMul, Nat.reduceLeDiff, Nat.reduceEqDiff, Nat.reduceLT, Int.reduceLE, Int.reduceLT, Int.reduceNeg, Int.reduceEq, Int.reduceAdd, Int.reduceSub, Int.reduceToNat, reduceCtorEq, ↓reduceIte, true_or, or_true, false_and, and_false, o5, o6, o7, o8, o9, o10, o11, o12, o13, o14, o15, o16, o17, o18, o19, o20, a1, a2, a3] at hr ⊢
    rw [hr]
  · simp -implicitDefEqProofs only [go_sem, Nat.reduceAdd, Nat.reduceMul, Nat.reduceLeDiff, Nat.reduceEqDiff, Nat.reduceLT, Int.reduceLE, Int.reduceLT, Int.reduceNeg, Int.reduceEq, Int.reduceAdd, Int.reduceSub, Int.reduceToNat, reduceCtorEq, ↓reduceIte, true_or, or_true, false_and, and_false, o5, o6, o7, o8, o9, o10, o11, o12, o13, o14, o15, o16, o17, o18, o19, o20, a1, a2, a3, b1, b2, b3] at hr ⊢
    rw [hr]
end Go.Lz
