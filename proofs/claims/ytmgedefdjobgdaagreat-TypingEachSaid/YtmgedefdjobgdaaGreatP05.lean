/- P05: names, words, digits: each is answered, and how long the answers are. -/
import Derived.Test.YtmgedefdjobgdaaGreatV05
import Derived.Test.YtmgedefdjobgdaaGreatPt
namespace Go.Lz
set_option linter.unusedVariables false
set_option linter.unusedSimpArgs false
theorem letter_t (c : Int) : Tot (lazarettoref05_letter c) fun _ => True := by
  unfold lazarettoref05_letter
  repeat' (first | exact Tot.mk trivial | refine Tot.ite (fun _ => ?_) (fun _ => ?_))
theorem digit_t (c : Int) : Tot (lazarettoref05_digit c) fun _ => True := by
  unfold lazarettoref05_digit
  repeat' (first | exact Tot.mk trivial | refine Tot.ite (fun _ => ?_) (fun _ => ?_))
theorem run_t (s : Str) : Tot (lazarettoref05_run s) fun _ => True := by
  unfold lazarettoref05_run
  refine Tot.ite (fun _ => Tot.mk trivial) fun hs => ?_
  have hl : 0 < s.length := by cases s with | nil => exact (hs rfl).elim | cons a b => simp
  refine (Tot.get hl).bind fun c _ => (letter_t _).bind fun b _ => Tot.ite (fun _ => ?_) (fun _ => Tot.mk trivial)
  refine Tot.bind (Tot.loop (fun i => i ≤ s.length) (R := fun _ => True) (fun i => s.length - i) (by omega) fun i hi => ?_) fun _ _ => Tot.mk trivial
  unfold lazarettoref05_run_L1
  refine Tot.ite (fun h => ?_) fun _ => Tot.mk trivial
  have h' : i < s.length := by omega
  refine (Tot.get h').bind fun c _ => (letter_t _).bind fun b _ => Tot.ite (fun _ => Tot.mk ⟨h', by simp only; omega⟩) fun _ => (digit_t _).bind fun b _ => Tot.ite (fun _ => Tot.mk ⟨h', by simp only; omega⟩) fun _ => Tot.mk trivial
theorem among_t (s names : Str) (hn : names.length ≤ 1000000) : Tot (lazarettoref05_Among s names) fun b => b = true → s.length ≤ names.length := by
  unfold lazarettoref05_Among
  refine Tot.bind (Tot.loop (fun x => 0 ≤ x.1 ∧ x.1 ≤ (x.2 : Int) ∧ x.2 ≤ names.length + 1) (R := fun r => match r with | .inl b => b = true → s.length ≤ names.length | .inr () => True) (fun x => names.length + 1 - x.2) ⟨by simp, by simp, by simp⟩ fun ⟨k, i⟩ ⟨h0, h1, h2⟩ => ?_) fun r hr => by
    cases r with
    | inl r => exact Tot.mk hr
    | inr r => exact Tot.mk (by simp)
  simp only at h0 h1 h2
  unfold lazarettoref05_Among_L1
  refine Tot.ite (fun h => ?_) fun _ => Tot.mk trivial
  have e : w64 ((i : Int) + 1) = (i : Int) + 1 := w64_id (by omega) (by omega)
  have go : Tot (some (Sum.inl (w64 ((i : Int) + 1), i + 1)) : Option ((Int × Nat) ⊕ (Bool ⊕ Unit))) (Rd (fun x => 0 ≤ x.1 ∧ x.1 ≤ (x.2 : Int) ∧ x.2 ≤ names.length + 1) (fun r => match r with | .inl b => b = true → s.length ≤ names.length | .inr () => True) (fun x => names.length + 1 - x.2) (names.length + 1 - i)) :=
    Tot.mk ⟨⟨by rw [e]; simp only; omega, by rw [e]; simp only; omega, by simp only; omega⟩, by simp only; omega⟩
  have st : Tot (if k < (i : Int) then need (0 ≤ k ∧ k ≤ (i : Int) ∧ (i : Int) ≤ names.length) (if ((names.take i).drop k.toNat) = s then (some (Sum.inr (Sum.inl (true)))) else (some (Sum.inl ((w64 ((i : Int) + 1)), (i + 1))))) else (some (Sum.inl ((w64 ((i : Int) + 1)), (i + 1)))) : Option ((Int × Nat) ⊕ (Bool ⊕ Unit))) (Rd (fun x => 0 ≤ x.1 ∧ x.1 ≤ (x.2 : Int) ∧ x.2 ≤ names.length + 1) (fun r => match r with | .inl b => b = true → s.length ≤ names.length | .inr () => True) (fun x => names.length + 1 - x.2) (names.length + 1 - i)) :=
    Tot.ite (fun _ => Tot.need ⟨h0, h1, h⟩ (Tot.ite (fun hs => Tot.mk fun _ => by rw [← hs]; simp only [List.length_drop, List.length_take]; omega) fun _ => go)) fun _ => go
  refine Tot.ite (fun _ => st) fun hne => ?_
  refine (Tot.get (by omega)).bind fun c _ => Tot.ite (fun _ => st) fun _ => Tot.mk ⟨⟨h0, by simp only; omega, by simp only; omega⟩, by simp only; omega⟩
set_option maxRecDepth 20000 in
theorem word_t (s : Str) : Tot (lazarettoref05_Word s) fun _ => True := by
  unfold lazarettoref05_Word
  exact (among_t s _ (Nat.le_of_ble_eq_true rfl)).bind fun _ _ => Tot.mk trivial
theorem upper_t (s : Str) : Tot (lazarettoref05_upper s) fun _ => True := by
  unfold lazarettoref05_upper
  refine Tot.bind (Tot.loop (fun x => x.2 ≤ x.1.length) (R := fun _ => True) (fun x => x.1.length - x.2) (Nat.zero_le _) fun ⟨b, i⟩ h => ?_) fun _ _ => Tot.mk trivial
  simp only at h
  unfold lazarettoref05_upper_L1
  refine Tot.ite (fun h' => ?_) fun _ => Tot.mk trivial
  have h'' : i < b.length := by omega
  exact (Tot.get h'').bind fun x _ => Tot.ite (fun _ => Tot.ite (fun _ => Tot.mk ⟨by simp only [List.length_set]; omega, by simp only [List.length_set]; omega⟩) fun _ => Tot.mk ⟨h'', by simp only; omega⟩) fun _ => Tot.mk ⟨h'', by simp only; omega⟩
theorem name_t (s : Str) : Tot (lazarettoref05_Name s) fun b => b = true → s.length ≤ 32 ∧ s ≠ [] := by
  unfold lazarettoref05_Name
  refine Tot.ite (fun _ => Tot.mk fun h => by cases h) fun h1 => Tot.ite (fun h2 => ?_) fun _ => Tot.mk fun h => by cases h
  exact (run_t s).bind fun _ _ => Tot.ite (fun _ => (upper_t s).bind fun _ _ => (word_t _).bind fun _ _ => Tot.mk fun _ => ⟨by omega, h1⟩) fun _ => Tot.mk fun h => by cases h
/-- The digits of a number that is not below 0. -/
theorem digits_t (n : Int) (h0 : 0 ≤ n) (h1 : n < 10000000000) : Tot (lazarettoref05_Digits n) fun r => r.length ≤ 11 := by
  unfold lazarettoref05_Digits
  have one : ∀ (m : Nat), m < 10 → ((([48, 49, 50, 51, 52, 53, 54, 55, 56, 57] : Str).take (m + 1)).drop m).length = 1 := by decide
  refine Tot.bind (Tot.loop (fun x => 0 ≤ x.1 ∧ x.1.toNat * 10 ^ x.2.length < 10000000000 ∧ x.2.length ≤ 10) (R := fun x => 0 ≤ x.1 ∧ x.1 < 10 ∧ x.2.length ≤ 10) (fun x => x.1.toNat) ⟨h0, by simp; omega, by simp⟩ fun ⟨n, s⟩ ⟨a0, a1, a2⟩ => ?_) fun ⟨n, s⟩ ⟨a0, a1, a2⟩ => ?_
  · simp only at a0 a1 a2
    unfold lazarettoref05_Digits_L1
    refine Tot.ite (fun h => ?_) fun h => Tot.mk ?_
    · obtain ⟨m, rfl⟩ : ∃ m : Nat, n = m := ⟨n.toNat, by omega⟩
      have hs : s.length < 10 := by
        have : 10 * 10 ^ s.length ≤ m * 10 ^ s.length := Nat.mul_le_mul_right _ (by omega)
        have : 10 ^ s.length < 10 ^ 10 := by simp only [Int.toNat_natCast] at a1; omega
        exact (Nat.pow_lt_pow_iff_right (by decide)).1 this
      have hm : m < 10000000000 := by
        have : 1 ≤ 10 ^ s.length := Nat.one_le_pow _ _ (by decide)
        have : m * 1 ≤ m * 10 ^ s.length := Nat.mul_le_mul_left _ this
        simp only [Int.toNat_natCast] at a1
        omega
      have et : (m : Int).tmod 10 = ((m % 10 : Nat) : Int) := by rw [Int.tmod_eq_emod_of_nonneg (by omega)]; omega
      have ed : (m : Int).tdiv 10 = ((m / 10 : Nat) : Int) := by rw [Int.tdiv_eq_ediv_of_nonneg (by omega)]; omega
      have e1 : w64 (((m % 10 : Nat) : Int) + 1) = ((m % 10 + 1 : Nat) : Int) := by rw [w64_id (by omega) (by omega)]; omega
      have e2 : w64 ((m / 10 : Nat) : Int) = ((m / 10 : Nat) : Int) := w64_id (by omega) (by omega)
      rw [et, ed, e1, e2]
      refine Tot.need ⟨by omega, by omega, by omega⟩ (Tot.need ?_ (Tot.mk ⟨⟨?_, ?_, ?_⟩, ?_⟩))
      · rw [Int.toNat_natCast, Int.toNat_natCast, one _ (by omega)]; omega
      · simp only; omega
      · simp only [Int.toNat_natCast, List.length_append]
        rw [one _ (by omega), Nat.add_comm 1, Nat.pow_succ]
        simp only [Int.toNat_natCast] at a1
        have : m / 10 * (10 ^ s.length * 10) ≤ m * 10 ^ s.length := by
          rw [Nat.mul_comm (10 ^ s.length) 10, ← Nat.mul_assoc]
          exact Nat.mul_le_mul_right _ (Nat.div_mul_le_self m 10)
        omega
      · simp only [Int.toNat_natCast, List.length_append]
        rw [one _ (by omega)]
        omega
      · simp only [Int.toNat_natCast]; omega
    · exact ⟨a0, by simp only; omega, a2⟩
  · simp only at a0 a1 a2 ⊢
    obtain ⟨m, rfl⟩ : ∃ m : Nat, n = m := ⟨n.toNat, by omega⟩
    have e1 : w64 ((m : Int) + 1) = ((m + 1 : Nat) : Int) := by rw [w64_id (by omega) (by omega)]; omega
    rw [e1]
    refine Tot.need ⟨by omega, by omega, by omega⟩ (Tot.need ?_ (Tot.mk ?_))
    · rw [Int.toNat_natCast, Int.toNat_natCast, one _ (by omega)]; omega
    · rw [List.length_append, Int.toNat_natCast, Int.toNat_natCast, one _ (by omega)]; omega
end Go.Lz
