import Derived.Test.YtghgpbhibanlcaaT03f
namespace Go.Lz
set_option linter.unusedVariables false
set_option linter.unusedSimpArgs false
open Go.Proofs

theorem bin_of {op k a b : Int} (h5 : ¬op = 5) (h6 : ¬op = 6) (hr : ¬resultS op k = 0) (ha : validS k a = true) (hb : validS k b = true) : binaryS op k a b = binaryW op k a b := by
  simp [binaryS, h5, h6, hr, wrap_id ha, wrap_id hb]

/-- The number of numbers of a kind. -/
def modS (k : Int) : Int := if k = 2 then 65536 else 4294967296
theorem wrap_q {k : Int} (hk : k = 2 ∨ k = 3 ∨ k = 4) (n : Int) : ∃ q, wrapS k n = n + modS k * q := by
  rcases hk with rfl | rfl | rfl
  · refine ⟨-((n + 32768) / 65536), ?_⟩; rw [wrap_2]; simp only [modS, if_true]; omega
  · refine ⟨-((n + 2147483648) / 4294967296), ?_⟩; rw [wrap_3]; simp [modS]; omega
  · refine ⟨-((n + 2147483648) / 4294967296), ?_⟩; rw [wrap_4]; simp [modS]; omega
theorem w64_q {k : Int} (hk : k = 2 ∨ k = 3 ∨ k = 4) (n : Int) : ∃ q, IntKind.i64.wrap n = n + modS k * q := by
  rcases hk with rfl | rfl | rfl
  · refine ⟨-(281474976710656 * ((n + 9223372036854775808) / 18446744073709551616)), ?_⟩; rw [w64]; simp only [modS, if_true]; omega
  · refine ⟨-(4294967296 * ((n + 9223372036854775808) / 18446744073709551616)), ?_⟩; rw [w64]; simp [modS]; omega
  · refine ⟨-(4294967296 * ((n + 9223372036854775808) / 18446744073709551616)), ?_⟩; rw [w64]; simp [modS]; omega
theorem valid_eq {k x y q : Int} (hk : k = 2 ∨ k = 3 ∨ k = 4) (hx : validS k x = true) (hy : validS k y = true) (h : x = y + modS k * q) : x = y := by
  simp only [validS, decide_eq_true_eq] at hx hy
  rcases hk with rfl | rfl | rfl <;> simp [modS] at h hx hy <;> omega
theorem ring_sub {k a b : Int} (hk : k = 2 ∨ k = 3 ∨ k = 4) (ha : validS k a = true) (hb : validS k b = true) : wrapS k (wrapS k (a + b) - b) = a := by
  obtain ⟨q, h⟩ := wrap_q hk (a + b)
  obtain ⟨p, g⟩ := wrap_q hk (wrapS k (a + b) - b)
  refine valid_eq (q := q + p) hk (wrap_valid (by omega)) ha ?_
  rw [g, h, Int.mul_add]; omega
theorem ring_back {k a b : Int} (hk : k = 2 ∨ k = 3 ∨ k = 4) (ha : validS k a = true) : wrapS k (wrapS k (IntKind.i64.wrap (wrapS k (IntKind.i64.wrap (a.tdiv b)) * b)) + wrapS k (a.tmod b)) = a := by
  have e := Int.mul_tdiv_add_tmod a b
  obtain ⟨q1, h1⟩ := w64_q hk (a.tdiv b)
  obtain ⟨q2, h2⟩ := wrap_q hk (IntKind.i64.wrap (a.tdiv b))
  generalize wrapS k (IntKind.i64.wrap (a.tdiv b)) = d at h2 ⊢
  obtain ⟨q3, h3⟩ := w64_q hk (d * b)
  obtain ⟨q4, h4⟩ := wrap_q hk (IntKind.i64.wrap (d * b))
  obtain ⟨q5, h5⟩ := wrap_q hk (a.tmod b)
  obtain ⟨q6, h6⟩ := wrap_q hk (wrapS k (IntKind.i64.wrap (d * b)) + wrapS k (a.tmod b))
  refine valid_eq (q := (q1 + q2) * b + q3 + q4 + q5 + q6) hk (wrap_valid (by omega)) ha ?_
  rw [h6, h4, h3, h5]
  have e2 : d * b = b * a.tdiv b + modS k * ((q1 + q2) * b) := by
    rw [h2, h1, Int.add_assoc, ← Int.mul_add, Int.add_mul, Int.mul_assoc, Int.mul_comm (a.tdiv b)]
  rw [e2]
  simp only [Int.mul_add]
  omega
end Go.Lz
