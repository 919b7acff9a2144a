import Derived.Test.YtghgpbhibanlcaaLzE
import Derived.Test.YtghgpbhibanlcaaProg
import Derived.KernelRfl
namespace Go.Lz
set_option linter.unusedVariables false
set_option linter.unusedSimpArgs false
open Go.Proofs

theorem tb4 : tIsBool Try.prog 4 = true := by kernel_rfl
attribute [go_sem] tb4
abbrev I (n : Int) : V := .one (.int .i64 n)
abbrev B (b : Bool) : V := .one (.bool b)
def bitsS (k : Int) : Int := if k = 1 then 1 else if k = 2 then 16 else if k = 3 then 32 else if k = 4 then 32 else 0
def bitS (b : Bool) : Int := if b then 1 else 0
def halfS (k : Int) : Int := if k = 2 then 32768 else 2147483648
/-- A number as one of a kind. -/
def wrapS (k n : Int) : Int := if k = 1 then (if n = 0 then 0 else 1) else if k = 2 then IntKind.i16.wrap n else if k = 3 ∨ k = 4 then IntKind.i32.wrap n else 0

theorem bits29 (k : Int) : Pu Try.prog 29 [I k] (I (bitsS k)) := by
  refine pu_of_awp Try.func29 rfl (by kernel_rfl) (by kernel_rfl) (awp_of_S ?_)
  simp only [Try.f29]
  simp -implicitDefEqProofs only [go_sem, Nat.reduceAdd, Nat.reduceMul, Nat.reduceLeDiff, Nat.reduceEqDiff, Nat.reduceLT, Int.reduceLE, Int.reduceLT, Int.reduceNeg, Int.reduceEq, Int.reduceAdd, Int.reduceSub, Int.reduceToNat, reduceCtorEq, ↓reduceIte, bitsS]
  by_cases h1 : k = 1
  · simp [h1]
  by_cases h2 : k = 2
  · simp [h1, h2]
  by_cases h3 : k = 3
  · simp [h1, h2, h3]
  by_cases h4 : k = 4
  · simp [h1, h2, h3, h4]
  simp [h1, h2, h3, h4]

theorem bits30 (k : Int) : Pu Try.prog 30 [I k] (I (bitsS k)) := by
  refine pu_of_awp Try.func30 rfl (by kernel_rfl) (by kernel_rfl) (awp_of_S ?_)
  simp only [Try.f30]
  simp -implicitDefEqProofs only [go_sem, Nat.reduceAdd, Nat.reduceMul, Nat.reduceLeDiff, Nat.reduceEqDiff, Nat.reduceLT, Int.reduceLE, Int.reduceLT, Int.reduceNeg, Int.reduceEq, Int.reduceAdd, Int.reduceSub, Int.reduceToNat, reduceCtorEq, ↓reduceIte, bitsS]
  by_cases h1 : k = 1
  · simp [h1]
  by_cases h2 : k = 2
  · simp [h1, h2]
  by_cases h3 : k = 3
  · simp [h1, h2, h3]
  by_cases h4 : k = 4
  · simp [h1, h2, h3, h4]
  simp [h1, h2, h3, h4]

theorem bit39 (b : Bool) : Pu Try.prog 39 [B b] (I (bitS b)) := by
  refine pu_of_awp Try.func39 rfl (by kernel_rfl) (by kernel_rfl) (awp_of_S ?_)
  simp only [Try.f39]
  simp -implicitDefEqProofs only [go_sem, Nat.reduceAdd, Nat.reduceMul, Nat.reduceLeDiff, Nat.reduceEqDiff, Nat.reduceLT, Int.reduceLE, Int.reduceLT, Int.reduceNeg, Int.reduceEq, Int.reduceAdd, Int.reduceSub, Int.reduceToNat, reduceCtorEq, ↓reduceIte, bitS]
  cases b <;> simp

theorem half40 (k : Int) : Pu Try.prog 40 [I k] (I (halfS k)) := by
  refine pu_of_awp Try.func40 rfl (by kernel_rfl) (by kernel_rfl) (awp_of_S ?_)
  simp only [Try.f40]
  simp -implicitDefEqProofs only [go_sem, Nat.reduceAdd, Nat.reduceMul, Nat.reduceLeDiff, Nat.reduceEqDiff, Nat.reduceLT, Int.reduceLE, Int.reduceLT, Int.reduceNeg, Int.reduceEq, Int.reduceAdd, Int.reduceSub, Int.reduceToNat, reduceCtorEq, ↓reduceIte, halfS]
  by_cases h1 : k = 2 <;> simp [h1]

theorem bits_1 : bitsS 1 = 1 := rfl
theorem bits_2 : bitsS 2 = 16 := rfl
theorem bits_3 : bitsS 3 = 32 := rfl
theorem bits_4 : bitsS 4 = 32 := rfl
theorem half_2 : halfS 2 = 32768 := rfl
theorem half_3 : halfS 3 = 2147483648 := rfl
theorem half_4 : halfS 4 = 2147483648 := rfl
theorem bits_o {k : Int} (h1 : ¬k = 1) (h2 : ¬k = 2) (h3 : ¬k = 3) (h4 : ¬k = 4) : bitsS k = 0 := by simp [bitsS, h1, h2, h3, h4]
theorem wrap_o {k n : Int} (h1 : ¬k = 1) (h2 : ¬k = 2) (h3 : ¬k = 3) (h4 : ¬k = 4) : wrapS k n = 0 := by simp [wrapS, h1, h2, h3, h4]
theorem kinds (k : Int) : k = 1 ∨ k = 2 ∨ k = 3 ∨ k = 4 ∨ (¬k = 1 ∧ ¬k = 2 ∧ ¬k = 3 ∧ ¬k = 4) := by omega

theorem w16 (n : Int) : IntKind.i16.wrap n = (n + 32768) % 65536 - 32768 := by simp only [IntKind.wrap, IntKind.min, IntKind.signed, IntKind.bits]; simp; omega
theorem w32 (n : Int) : IntKind.i32.wrap n = (n + 2147483648) % 4294967296 - 2147483648 := by simp only [IntKind.wrap, IntKind.min, IntKind.signed, IntKind.bits]; simp; omega
theorem w64 (n : Int) : IntKind.i64.wrap n = (n + 9223372036854775808) % 18446744073709551616 - 9223372036854775808 := by simp only [IntKind.wrap, IntKind.min, IntKind.signed, IntKind.bits]; simp; omega
theorem tmod_in2 (n m : Int) (hm : 0 < m) : ∃ q, n = m * q + n.tmod m ∧ (0 ≤ n → 0 ≤ n.tmod m ∧ n.tmod m < m) ∧ (n ≤ 0 → -m < n.tmod m ∧ n.tmod m ≤ 0) := by
  refine ⟨n.tdiv m, (Int.mul_tdiv_add_tmod n m).symm, fun h => ⟨Int.tmod_nonneg _ h, Int.tmod_lt_of_pos _ hm⟩, fun h => ?_⟩
  have h1 : (-n).tmod m = - n.tmod m := Int.neg_tmod ..
  have h2 := Int.tmod_nonneg m (show 0 ≤ -n by omega)
  have h3 := Int.tmod_lt_of_pos (-n) hm
  omega

theorem wrap26 (k n : Int) : Pu Try.prog 26 [I k, I n] (I (wrapS k n)) := by
  refine pu_of_awp Try.func26 rfl (by kernel_rfl) (by kernel_rfl) (awp_of_S ?_)
  simp only [Try.f26]
  simp -implicitDefEqProofs only [go_sem, Nat.reduceAdd, Nat.reduceMul, Nat.reduceLeDiff, Nat.reduceEqDiff, Nat.reduceLT, Int.reduceLE, Int.reduceLT, Int.reduceNeg, Int.reduceEq, Int.reduceAdd, Int.reduceSub, Int.reduceToNat, reduceCtorEq, ↓reduceIte]
  refine call_S (bits30 k) (by simp [go_sem]) (by simp [go_sem]) (by simp [go_sem]) (by simp [go_sem]) ?_
  rcases kinds k with rfl | rfl | rfl | rfl | ⟨h1, h2, h3, h4⟩
  · simp -implicitDefEqProofs only [go_sem, Nat.reduceAdd, Nat.reduceMul, Nat.reduceLeDiff, Nat.reduceEqDiff, Nat.reduceLT, Int.reduceLE, Int.reduceLT, Int.reduceNeg, Int.reduceEq, Int.reduceAdd, Int.reduceSub, Int.reduceToNat, reduceCtorEq, ↓reduceIte, bits_1]
    by_cases hn : n = 0 <;> simp [wrapS, hn]
  · simp -implicitDefEqProofs only [go_sem, Nat.reduceAdd, Nat.reduceMul, Nat.reduceLeDiff, Nat.reduceEqDiff, Nat.reduceLT, Int.reduceLE, Int.reduceLT, Int.reduceNeg, Int.reduceEq, Int.reduceAdd, Int.reduceSub, Int.reduceToNat, reduceCtorEq, ↓reduceIte, bits_2]
    refine call_S (half40 2) (by simp [go_sem]) (by simp [go_sem]) (by simp [go_sem]) (by simp [go_sem]) ?_
    simp -implicitDefEqProofs only [go_sem, Nat.reduceAdd, Nat.reduceMul, Nat.reduceLeDiff, Nat.reduceEqDiff, Nat.reduceLT, Int.reduceLE, Int.reduceLT, Int.reduceNeg, Int.reduceEq, Int.reduceAdd, Int.reduceSub, Int.reduceToNat, reduceCtorEq, ↓reduceIte, half_2]
    have e : wrapS 2 n = IntKind.i16.wrap n := rfl
    rw [e, w16]
    obtain ⟨q, h1, h2, h3⟩ := tmod_in2 n 65536 (by decide)
    simp only [show IntKind.i64.wrap (2 * 32768) = 65536 from rfl, show IntKind.i64.wrap (-32768) = -32768 from rfl, V.one.injEq, C.int.injEq, true_and]
    generalize n.tmod 65536 = r at *
    simp only [w64]
    omega
  · simp -implicitDefEqProofs only [go_sem, Nat.reduceAdd, Nat.reduceMul, Nat.reduceLeDiff, Nat.reduceEqDiff, Nat.reduceLT, Int.reduceLE, Int.reduceLT, Int.reduceNeg, Int.reduceEq, Int.reduceAdd, Int.reduceSub, Int.reduceToNat, reduceCtorEq, ↓reduceIte, bits_3]
    refine call_S (half40 3) (by simp [go_sem]) (by simp [go_sem]) (by simp [go_sem]) (by simp [go_sem]) ?_
    simp -implicitDefEqProofs only [go_sem, Nat.reduceAdd, Nat.reduceMul, Nat.reduceLeDiff, Nat.reduceEqDiff, Nat.reduceLT, Int.reduceLE, Int.reduceLT, Int.reduceNeg, Int.reduceEq, Int.reduceAdd, Int.reduceSub, Int.reduceToNat, reduceCtorEq, ↓reduceIte, half_3]
    have e : wrapS 3 n = IntKind.i32.wrap n := rfl
    rw [e, w32]
    obtain ⟨q, h1, h2, h3⟩ := tmod_in2 n 4294967296 (by decide)
    simp only [show IntKind.i64.wrap (2 * 2147483648) = 4294967296 from rfl, show IntKind.i64.wrap (-2147483648) = -2147483648 from rfl, V.one.injEq, C.int.injEq, true_and]
    generalize n.tmod 4294967296 = r at *
    simp only [w64]
    omega
  · simp -implicitDefEqProofs only [go_sem, Nat.reduceAdd, Nat.reduceMul, Nat.reduceLeDiff, Nat.reduceEqDiff, Nat.reduceLT, Int.reduceLE, Int.reduceLT, Int.reduceNeg, Int.reduceEq, Int.reduceAdd, Int.reduceSub, Int.reduceToNat, reduceCtorEq, ↓reduceIte, bits_4]
    refine call_S (half40 4) (by simp [go_sem]) (by simp [go_sem]) (by simp [go_sem]) (by simp [go_sem]) ?_
    simp -implicitDefEqProofs only [go_sem, Nat.reduceAdd, Nat.reduceMul, Nat.reduceLeDiff, Nat.reduceEqDiff, Nat.reduceLT, Int.reduceLE, Int.reduceLT, Int.reduceNeg, Int.reduceEq, Int.reduceAdd, Int.reduceSub, Int.reduceToNat, reduceCtorEq, ↓reduceIte, half_4]
    have e : wrapS 4 n = IntKind.i32.wrap n := rfl
    rw [e, w32]
    obtain ⟨q, h1, h2, h3⟩ := tmod_in2 n 4294967296 (by decide)
    simp only [show IntKind.i64.wrap (2 * 2147483648) = 4294967296 from rfl, show IntKind.i64.wrap (-2147483648) = -2147483648 from rfl, V.one.injEq, C.int.injEq, true_and]
    generalize n.tmod 4294967296 = r at *
    simp only [w64]
    omega
  · simp -implicitDefEqProofs only [go_sem, Nat.reduceAdd, Nat.reduceMul, Nat.reduceLeDiff, Nat.reduceEqDiff, Nat.reduceLT, Int.reduceLE, Int.reduceLT, Int.reduceNeg, Int.reduceEq, Int.reduceAdd, Int.reduceSub, Int.reduceToNat, reduceCtorEq, ↓reduceIte, bits_o h1 h2 h3 h4, wrap_o h1 h2 h3 h4]

theorem wrap_lit {n : Int} (h1 : -9223372036854775808 ≤ n) (h2 : n ≤ 9223372036854775807) : IntKind.i64.wrap n = n := by rw [w64]; omega
theorem p8 : (2 : Int) ^ min 8 64 = 256 := by decide
theorem p48 : (2 : Int) ^ min 48 64 = 281474976710656 := by decide
theorem p32 : (2 : Int) ^ min 32 64 = 4294967296 := by decide
attribute [go_sem] wrap_lit p8 p48 p32

theorem wrap25 (k n : Int) : Pu Try.prog 25 [I k, I n] (I (wrapS k n)) := by
  refine pu_of_awp Try.func25 rfl (by kernel_rfl) (by kernel_rfl) (awp_of_S ?_)
  simp only [Try.f25]
  simp -implicitDefEqProofs only [go_sem, Nat.reduceAdd, Nat.reduceMul, Nat.reduceLeDiff, Nat.reduceEqDiff, Nat.reduceLT, Int.reduceLE, Int.reduceLT, Int.reduceNeg, Int.reduceEq, Int.reduceAdd, Int.reduceSub, Int.reduceToNat, reduceCtorEq, ↓reduceIte]
  refine call_S (bits29 k) (by simp [go_sem]) (by simp [go_sem]) (by simp [go_sem]) (by simp [go_sem]) ?_
  rcases kinds k with rfl | rfl | rfl | rfl | ⟨h1, h2, h3, h4⟩
  · simp -implicitDefEqProofs only [go_sem, Nat.reduceAdd, Nat.reduceMul, Nat.reduceLeDiff, Nat.reduceEqDiff, Nat.reduceLT, Int.reduceLE, Int.reduceLT, Int.reduceNeg, Int.reduceEq, Int.reduceAdd, Int.reduceSub, Int.reduceToNat, reduceCtorEq, ↓reduceIte, bits_1]
    refine call_S (bit39 (!decide (n = 0))) (by simp [go_sem]) (by simp [go_sem]) (by simp [go_sem]) (by simp [go_sem]) ?_
    simp -implicitDefEqProofs only [go_sem, Nat.reduceAdd, Nat.reduceMul, Nat.reduceLeDiff, Nat.reduceEqDiff, Nat.reduceLT, Int.reduceLE, Int.reduceLT, Int.reduceNeg, Int.reduceEq, Int.reduceAdd, Int.reduceSub, Int.reduceToNat, reduceCtorEq, ↓reduceIte]
    by_cases hn : n = 0 <;> simp [wrapS, bitS, hn]
  · simp -implicitDefEqProofs only [go_sem, Nat.reduceAdd, Nat.reduceMul, Nat.reduceLeDiff, Nat.reduceEqDiff, Nat.reduceLT, Int.reduceLE, Int.reduceLT, Int.reduceNeg, Int.reduceEq, Int.reduceAdd, Int.reduceSub, Int.reduceToNat, reduceCtorEq, ↓reduceIte, bits_2]
    iterate 6
      refine scope_S (by rfl) (by kernel_rfl) ?_
      simp -implicitDefEqProofs only [go_sem, Nat.reduceAdd, Nat.reduceMul, Nat.reduceLeDiff, Nat.reduceEqDiff, Nat.reduceLT, Int.reduceLE, Int.reduceLT, Int.reduceNeg, Int.reduceEq, Int.reduceAdd, Int.reduceSub, Int.reduceToNat, reduceCtorEq, ↓reduceIte]
    have e : wrapS 2 n = IntKind.i16.wrap n := rfl
    rw [e, w16]
    simp only [w64]
    rw [Int.fdiv_eq_ediv_of_nonneg _ (by decide)]
    simp only [V.one.injEq, C.int.injEq, true_and]
    omega
  · simp -implicitDefEqProofs only [go_sem, Nat.reduceAdd, Nat.reduceMul, Nat.reduceLeDiff, Nat.reduceEqDiff, Nat.reduceLT, Int.reduceLE, Int.reduceLT, Int.reduceNeg, Int.reduceEq, Int.reduceAdd, Int.reduceSub, Int.reduceToNat, reduceCtorEq, ↓reduceIte, bits_3]
    iterate 4
      refine scope_S (by rfl) (by kernel_rfl) ?_
      simp -implicitDefEqProofs only [go_sem, Nat.reduceAdd, Nat.reduceMul, Nat.reduceLeDiff, Nat.reduceEqDiff, Nat.reduceLT, Int.reduceLE, Int.reduceLT, Int.reduceNeg, Int.reduceEq, Int.reduceAdd, Int.reduceSub, Int.reduceToNat, reduceCtorEq, ↓reduceIte]
    have e : wrapS 3 n = IntKind.i32.wrap n := rfl
    rw [e, w32]
    simp only [w64]
    rw [Int.fdiv_eq_ediv_of_nonneg _ (by decide)]
    simp only [V.one.injEq, C.int.injEq, true_and]
    omega
  · simp -implicitDefEqProofs only [go_sem, Nat.reduceAdd, Nat.reduceMul, Nat.reduceLeDiff, Nat.reduceEqDiff, Nat.reduceLT, Int.reduceLE, Int.reduceLT, Int.reduceNeg, Int.reduceEq, Int.reduceAdd, Int.reduceSub, Int.reduceToNat, reduceCtorEq, ↓reduceIte, bits_4]
    iterate 4
      refine scope_S (by rfl) (by kernel_rfl) ?_
      simp -implicitDefEqProofs only [go_sem, Nat.reduceAdd, Nat.reduceMul, Nat.reduceLeDiff, Nat.reduceEqDiff, Nat.reduceLT, Int.reduceLE, Int.reduceLT, Int.reduceNeg, Int.reduceEq, Int.reduceAdd, Int.reduceSub, Int.reduceToNat, reduceCtorEq, ↓reduceIte]
    have e : wrapS 4 n = IntKind.i32.wrap n := rfl
    rw [e, w32]
    simp only [w64]
    rw [Int.fdiv_eq_ediv_of_nonneg _ (by decide)]
    simp only [V.one.injEq, C.int.injEq, true_and]
    omega
  · simp -implicitDefEqProofs only [go_sem, Nat.reduceAdd, Nat.reduceMul, Nat.reduceLeDiff, Nat.reduceEqDiff, Nat.reduceLT, Int.reduceLE, Int.reduceLT, Int.reduceNeg, Int.reduceEq, Int.reduceAdd, Int.reduceSub, Int.reduceToNat, reduceCtorEq, ↓reduceIte, bits_o h1 h2 h3 h4, wrap_o h1 h2 h3 h4, h1]
end Go.Lz
