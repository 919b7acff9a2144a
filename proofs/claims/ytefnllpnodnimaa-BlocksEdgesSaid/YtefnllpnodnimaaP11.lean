/- P11: laws of the blocks: the kinds, the timer TON, the counter CTU. -/
import Derived.Test.YtefnllpnodnimaaV11b
import Derived.Test.YtefnllpnodnimaaP04
namespace Go.Lz
set_option linter.unusedVariables false
set_option linter.unusedSimpArgs false
theorem texts09 (a : List Str) : lazarettoref09_Texts a a = some true := by
  unfold lazarettoref09_Texts
  rw [if_pos rfl, loop_all (xs := a) (p := fun _ => true) (a := (.inl false : Bool ⊕ Unit)) (b := .inr ()) (fun i hi => by simp [lazarettoref09_Texts_L1, hi]) (by simp [lazarettoref09_Texts_L1])]
  simp
theorem stepTon (s : A4 Int) (a p now : Int) : blocks_Step [84, 79, 78] s [a, p] now = blocks_ton s [wrapS 1 a, wrapS 4 p] now := by
  simp [blocks_Step, need, blocks_Step_L1, loop_eq, ints_Wrap]
theorem stepCtu (s : A4 Int) (a r p now : Int) : blocks_Step [67, 84, 85] s [a, r, p] now = blocks_ctu s [wrapS 1 a, wrapS 1 r, wrapS 2 p] now := by
  simp [blocks_Step, need, blocks_Step_L4, loop_eq, ints_Wrap]
theorem stepCtud (s : A4 Int) (a b c d e now : Int) : blocks_Step [67, 84, 85, 68] s [a, b, c, d, e] now = blocks_ctud s [wrapS 1 a, wrapS 1 b, wrapS 1 c, wrapS 1 d, wrapS 2 e] now := by
  simp [blocks_Step, need, blocks_Step_L6, loop_eq, ints_Wrap]
def bitI (b : Bool) : Int := if b then 1 else 0
theorem bit_eq (b : Bool) : blocks_bit b = some (bitI b) := by cases b <;> simp [blocks_bit, bitI]
theorem outTon0 (s : A4 Int) : blocks_Out [84, 79, 78] s 0 = some (bitI (!decide (s.a0 = 0))) := by simp [blocks_Out, bit_eq]
theorem outTon1 (s : A4 Int) : blocks_Out [84, 79, 78] s 1 = some (wrapS 4 s.a1) := by simp [blocks_Out, bit_eq, blocks_of, idx, ints_Wrap]
theorem outCtu0 (s : A4 Int) : blocks_Out [67, 84, 85] s 0 = some (bitI (!decide (s.a0 = 0))) := by simp [blocks_Out, bit_eq]
theorem outCtu1 (s : A4 Int) : blocks_Out [67, 84, 85] s 1 = some (wrapS 2 s.a1) := by simp [blocks_Out, bit_eq, blocks_of, idx, ints_Wrap]
theorem u64_eq (n : Int) : IntKind.u64.wrap n = n % 18446744073709551616 := by
  simp only [IntKind.wrap, IntKind.min, IntKind.signed, IntKind.bits]; simp
theorem umod (x : Int) {k : Int} (h0 : 0 < k) (h1 : k ≤ 10000) : ∃ m, w64 ((IntKind.u64.wrap x).tmod k) = m ∧ 0 ≤ m ∧ m < k := by
  have h2 : 0 ≤ IntKind.u64.wrap x := by rw [u64_eq]; omega
  rw [Int.tmod_eq_emod_of_nonneg h2]
  have h3 := Int.emod_nonneg (IntKind.u64.wrap x) (show k ≠ 0 by omega)
  have h4 := Int.emod_lt_of_pos (IntKind.u64.wrap x) h0
  exact ⟨IntKind.u64.wrap x % k, by rw [w64_eq]; omega, h3, h4⟩
theorem minI_eq (a b : Int) : minI a b = min a b := by unfold minI; split <;> omega
theorem sinceN {now from_ most : Int} (h0 : 0 ≤ from_) (h1 : from_ ≤ now) (h2 : now ≤ 1000000) (h3 : 0 ≤ most) (h4 : most ≤ 1000000) : blocks_since now from_ most = some (min (now - from_) most) := by
  unfold blocks_since
  have e1 : IntKind.u64.wrap most = most := by rw [u64_eq]; omega
  have e2 : IntKind.u64.wrap now = now := by rw [u64_eq]; omega
  have e3 : IntKind.u64.wrap from_ = from_ := by rw [u64_eq]; omega
  have e4 : IntKind.u64.wrap (now - from_) = now - from_ := by rw [u64_eq]; omega
  have e5 : w64 (now - from_) = now - from_ := by rw [w64_eq]; omega
  rw [e1, e2, e3, e4, e5]
  split
  · congr 1; omega
  · split
    · congr 1; omega
    · split
      · congr 1; omega
      · congr 1; omega
theorem awake11 : lazarettolaw11_awake = some true := by
  unfold lazarettolaw11_awake
  simp [stepTon, stepCtud, blocks_ton, blocks_ctud, wrap_1, wrap_2, wrap_4, blocks_since, bit_eq, bitI, outTon0, outTon1, blocks_up, blocks_down, blocks_Kinds, blocks_Inputs, blocks_Outputs, blocks_Out, blocks_of, idx, ints_Wrap, u64_eq, w64_eq]
theorem inputsEq (k : Str) : ∃ r, blocks_Inputs k = some r ∧ lazarettoref11_Inputs k = some r := by
  unfold blocks_Inputs lazarettoref11_Inputs
  repeat' split
  all_goals exact ⟨_, rfl, rfl⟩
theorem outputsEq (k : Str) : ∃ r, blocks_Outputs k = some r ∧ lazarettoref11_Outputs k = some r := by
  unfold blocks_Outputs lazarettoref11_Outputs
  repeat' split
  all_goals exact ⟨_, rfl, rfl⟩
theorem kindsLaw (k : Str) : lazarettolaw11_BlocksKinds k = some true := by
  unfold lazarettolaw11_BlocksKinds
  obtain ⟨r1, e1, e2⟩ := inputsEq k
  obtain ⟨r2, e3, e4⟩ := outputsEq k
  rw [e1, e2, e3, e4, awake11, show blocks_Kinds = lazarettoref11_Kinds from rfl]
  simp [lazarettoref11_Kinds, texts09, intsEq]
structure TonI (l : List lazarettolaw11_Call) (s : Int × Int × Int × Int × Int × Int × Bool × Nat) : Prop where
  il : s.2.2.2.2.2.2.2 ≤ l.length
  ih : s.2.2.2.2.2.2.2 ≤ 100
  n0 : 0 ≤ s.2.2.2.2.1
  n1 : s.2.2.2.2.1 ≤ 1000 * s.2.2.2.2.2.2.2
  off : s.2.2.2.2.2.2.1 = false → s.2.2.2.1 = 0
  on : s.2.2.2.2.2.2.1 = true → s.2.2.2.1 = 1 ∧ s.2.2.1 = s.2.2.2.2.2.1 ∧ 0 ≤ s.2.2.2.2.2.1 ∧ s.2.2.2.2.2.1 ≤ s.2.2.2.2.1
theorem wrap4_id {n : Int} (h0 : 0 ≤ n) (h1 : n ≤ 1000000) : wrapS 4 n = n := by rw [wrap_4]; omega
theorem timersLaw (pt : Int) (l : List lazarettolaw11_Call) : lazarettolaw11_BlocksTimers pt l = some true := by
  unfold lazarettolaw11_BlocksTimers
  obtain ⟨p, ep, p0, p1⟩ := umod pt (k := 5000) (by decide) (by decide)
  obtain ⟨r, e, q⟩ := loop_inv (f := lazarettolaw11_BlocksTimers_L1 pt l) (TonI l) (fun r => ∃ x, r = .inr x) (fun s => 100 - s.2.2.2.2.2.2.2) (by
    rintro ⟨s1, s2, s3, s4, now, fr, was, i⟩ ⟨il, ih, n0, n1, off, on⟩
    dsimp only at il ih n0 n1 off on ⊢
    simp only [lazarettolaw11_BlocksTimers_L1, ep]
    by_cases h1 : i < l.length
    · rw [if_pos (by omega)]
      by_cases h2 : i < 100
      · rw [if_pos (by omega), List.getElem?_eq_getElem h1, Option.bind_some]
        obtain ⟨d, ed, d0, d1⟩ := umod l[i].Later (k := 1000) (by decide) (by decide)
        have en : w64 (now + d) = now + d := by rw [w64_eq]; omega
        rw [ed, en]
        left
        by_cases h3 : l[i].In.a0 = 0
        · rw [if_pos h3, h3]
          refine ⟨(0, 0, s3, 0, now + d, fr, false, i + 1), ?_, ⟨h1, h2, by dsimp only; omega, by dsimp only; omega, fun _ => rfl, (fun h => by cases h)⟩, by dsimp only; omega⟩
          simp [stepTon, blocks_ton, wrap_1, outTon0, outTon1, wrap_4, bitI]
        · rw [if_neg h3]
          have e1 : wrapS 1 l[i].In.a0 = 1 := by rw [wrap_1, if_neg h3]
          have e4 : wrapS 4 p = p := wrap4_id p0 (by omega)
          cases was with
          | true =>
            obtain ⟨o1, rfl, o3, o4⟩ := on rfl
            subst o1
            have ew : w64 (now + d - s3) = now + d - s3 := by rw [w64_eq]; omega
            have hm : wrapS 4 (min (now + d - s3) p) = min (now + d - s3) p := wrap4_id (by omega) (by omega)
            refine ⟨(bitI (decide (p ≤ min (now + d - s3) p)), min (now + d - s3) p, s3, 1, now + d, s3, true, i + 1), ?_, ⟨h1, h2, by dsimp only; omega, by dsimp only; omega, (fun h => by cases h), fun _ => ⟨rfl, rfl, o3, by dsimp only; omega⟩⟩, by dsimp only; omega⟩
            have hs := sinceN (now := now + d) (from_ := s3) (most := p) o3 (by omega) (by omega) p0 (by omega)
            simp only [if_true, stepTon, blocks_ton, e1, e4, List.getElem?_cons_zero, List.getElem?_cons_succ, Option.bind_some, hs, bit_eq, outTon0, outTon1, hm, ew, minI_eq]
            by_cases h5 : p ≤ now + d - s3
            · have h6 : p ≤ min (now + d - s3) p := by omega
              simp [h5, h6, bitI, hm]
            · have h6 : ¬ p ≤ min (now + d - s3) p := by omega
              simp [h5, h6, bitI, hm]
          | false =>
            obtain rfl := off rfl
            have ew : w64 (now + d - (now + d)) = 0 := by rw [w64_eq]; omega
            have hm : min (now + d - (now + d)) p = 0 := by omega
            have hm0 : min (0 : Int) p = 0 := by omega
            have hw : wrapS 4 0 = 0 := wrap4_id (by omega) (by omega)
            refine ⟨(bitI (decide (p ≤ 0)), 0, now + d, 1, now + d, now + d, true, i + 1), ?_, ⟨h1, h2, by dsimp only; omega, by dsimp only; omega, (fun h => by cases h), fun _ => ⟨rfl, rfl, by dsimp only; omega, by dsimp only; omega⟩⟩, by dsimp only; omega⟩
            have hs := sinceN (now := now + d) (from_ := now + d) (most := p) (by omega) (by omega) (by omega) p0 (by omega)
            rw [hm] at hs
            simp only [Bool.false_eq_true, if_false, stepTon, blocks_ton, e1, e4, List.getElem?_cons_zero, List.getElem?_cons_succ, Option.bind_some, hs, bit_eq, outTon0, outTon1, hw, ew, if_true, hm0, minI_eq]
            by_cases h5 : p ≤ 0
            · simp [h5, bitI, hw]
            · simp [h5, bitI, hw]
      · rw [if_neg (by omega)]
        exact .inr ⟨_, rfl, _, rfl⟩
    · rw [if_neg (by omega)]
      exact .inr ⟨_, rfl, _, rfl⟩) (0, 0, 0, 0, 0, 0, false, 0) ⟨Nat.zero_le _, by decide, by decide, by decide, fun _ => rfl, (fun h => by cases h)⟩
  obtain ⟨x, rfl⟩ := q
  rw [e, awake11]
  rfl
structure CtuI (l : List lazarettolaw11_Call) (s : Int × Int × Int × Int × Int × Int × Nat) : Prop where
  il : s.2.2.2.2.2.2 ≤ l.length
  ih : s.2.2.2.2.2.2 ≤ 100
  n0 : 0 ≤ s.2.2.2.2.1
  n1 : s.2.2.2.2.1 ≤ s.2.2.2.2.2.2
  cv : s.2.1 = s.2.2.2.2.1
  was : s.2.2.2.1 = s.2.2.2.2.2.1
theorem wrap2_id {n : Int} (h0 : 0 ≤ n) (h1 : n ≤ 1000) : wrapS 2 n = n := by rw [wrap_2]; omega
theorem countsLaw (pv : Int) (l : List lazarettolaw11_Call) : lazarettolaw11_BlocksCounts pv l = some true := by
  unfold lazarettolaw11_BlocksCounts
  obtain ⟨r, e, q⟩ := loop_inv (f := lazarettolaw11_BlocksCounts_L1 pv l) (CtuI l) (fun r => ∃ x, r = .inr x) (fun s => 100 - s.2.2.2.2.2.2) (by
    rintro ⟨s1, s2, s3, s4, n, was, i⟩ ⟨il, ih, n0, n1, cv, wa⟩
    dsimp only at il ih n0 n1 cv wa ⊢
    subst cv wa
    simp only [lazarettolaw11_BlocksCounts_L1]
    by_cases h1 : i < l.length
    · rw [if_pos (by omega)]
      by_cases h2 : i < 100
      · rw [if_pos (by omega), List.getElem?_eq_getElem h1, Option.bind_some, refWrap, refWrap, Option.bind_some]
        left
        have hb : wrapS 1 l[i].In.a0 = 0 ∨ wrapS 1 l[i].In.a0 = 1 := by rw [wrap_1]; split <;> simp
        have en : w64 (s2 + 1) = s2 + 1 := by rw [w64_eq]; omega
        have hw1 : wrapS 2 (s2 + 1) = s2 + 1 := wrap2_id (by omega) (by omega)
        have hw0 : wrapS 2 s2 = s2 := wrap2_id (by omega) (by omega)
        have hwz : wrapS 2 0 = 0 := wrap2_id (by omega) (by omega)
        generalize hv : wrapS 2 pv = v
        have fin : ∀ (m c : Int), 0 ≤ m → m ≤ i + 1 → CtuI l (bitI (decide (v ≤ m)), m, s3, c, m, c, i + 1) := fun m c m0 m1 => ⟨h1, h2, m0, by dsimp only; omega, rfl, rfl⟩
        by_cases h3 : l[i].In.a1 = 0
        · rw [if_pos h3]
          have hr : wrapS 1 l[i].In.a1 = 0 := by rw [wrap_1, if_pos h3]
          rcases hb with hb | hb
          · refine ⟨(bitI (decide (v ≤ s2)), s2, s3, 0, s2, 0, i + 1), ?_, fin s2 0 n0 (by omega), by dsimp only; omega⟩
            simp only [hb, show ((0 : Int) = 1) = False by simp, if_false, stepCtu, blocks_ctu, hr, hv, List.getElem?_cons_zero, List.getElem?_cons_succ, Option.bind_some, bit_eq, outCtu0, outCtu1, hw0, if_true]
            by_cases h5 : v ≤ s2 <;> simp [h5, bitI]
          · by_cases h4 : s4 = 0
            · refine ⟨(bitI (decide (v ≤ s2 + 1)), s2 + 1, s3, 1, s2 + 1, 1, i + 1), ?_, fin (s2 + 1) 1 (by omega) (by omega), by dsimp only; omega⟩
              have hu : blocks_up s2 = some (s2 + 1) := by unfold blocks_up; rw [if_neg (by omega), en]
              simp only [hb, h4, show ((0 : Int) = 1) = False by simp, if_false, stepCtu, blocks_ctu, hr, hv, hu, List.getElem?_cons_zero, List.getElem?_cons_succ, Option.bind_some, bit_eq, outCtu0, outCtu1, hw1, en, if_true]
              by_cases h5 : v ≤ s2 + 1 <;> simp [h5, bitI]
            · refine ⟨(bitI (decide (v ≤ s2)), s2, s3, 1, s2, 1, i + 1), ?_, fin s2 1 n0 (by omega), by dsimp only; omega⟩
              simp only [hb, h4, show ((0 : Int) = 1) = False by simp, if_false, stepCtu, blocks_ctu, hr, hv, List.getElem?_cons_zero, List.getElem?_cons_succ, Option.bind_some, bit_eq, outCtu0, outCtu1, hw0, if_true]
              by_cases h5 : v ≤ s2 <;> simp [h5, bitI]
        · rw [if_neg h3]
          have hr : wrapS 1 l[i].In.a1 = 1 := by rw [wrap_1, if_neg h3]
          refine ⟨(bitI (decide (v ≤ 0)), 0, s3, wrapS 1 l[i].In.a0, 0, wrapS 1 l[i].In.a0, i + 1), ?_, fin 0 _ (by omega) (by omega), by dsimp only; omega⟩
          simp only [stepCtu, blocks_ctu, hr, hv, List.getElem?_cons_zero, List.getElem?_cons_succ, Option.bind_some, bit_eq, outCtu0, outCtu1, hwz, if_true]
          by_cases h5 : v ≤ 0 <;> simp [h5, bitI]
      · rw [if_neg (by omega)]
        exact .inr ⟨_, rfl, _, rfl⟩
    · rw [if_neg (by omega)]
      exact .inr ⟨_, rfl, _, rfl⟩) (0, 0, 0, 0, 0, 0, 0) ⟨Nat.zero_le _, by decide, by decide, by decide, rfl, rfl⟩
  obtain ⟨x, rfl⟩ := q
  rw [e, awake11]
  rfl
end Go.Lz
