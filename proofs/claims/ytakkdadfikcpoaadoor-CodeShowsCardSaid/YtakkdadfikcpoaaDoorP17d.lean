/- P17d: instructions' texts; the chapter's example; the laws of chapter 17 in plain words. -/
import Derived.Test.YtakkdadfikcpoaaDoorP17c
namespace Go.Lz
set_option linter.unusedVariables false
set_option linter.unusedSimpArgs false
set_option maxRecDepth 100000
def ch (d : Nat) : UInt8 := UInt8.ofNat (48 + d)
def dS : Nat → Nat → Str
  | 0, n => [ch n]
  | k + 1, n => if n < 10 then [ch n] else dS k (n / 10) ++ [ch (n % 10)]
theorem dS_len : ∀ k n, (dS k n).length ≤ k + 1
  | 0, n => by simp [dS]
  | k + 1, n => by
    unfold dS
    split
    · simp
    · rw [List.length_append]; have := dS_len k (n / 10); simp; omega
theorem ch_nat {d : Nat} (h : d < 10) : (ch d).toNat = 48 + d := by
  unfold ch; rw [UInt8.toNat_ofNat']; omega
theorem ch_int {d : Nat} (h : d < 10) : IntKind.u8.wrap (w64 (48 + (d : Int))) = ((ch d).toNat : Int) := by
  rw [ch_nat h, w64_id (by omega) (by omega), wu8]; omega
theorem td10 (m : Nat) : (m : Int).tdiv 10 = ((m / 10 : Nat) : Int) := by rw [Int.tdiv_eq_ediv_of_nonneg (by omega)]; omega
theorem tm10 (m : Nat) : (m : Int).tmod 10 = ((m % 10 : Nat) : Int) := by rw [Int.tmod_eq_emod_of_nonneg (by omega)]; omega
theorem lex_loop : ∀ (k m : Nat) (b : List Int), m < 10 ^ k → m < 9223372036854775808 → b ≠ [] → b.length + k ≤ 1000 → loop lex_Digits_L1 ((m : Int), b) = some ((if m = 0 then [] else sBytes (dS k m)) ++ b)
  | 0, m, b, h, _, _, _ => by
    have : m = 0 := by simp at h; exact h
    subst this
    rw [loop_inr (r := b) (by simp only [lex_Digits_L1]; rw [if_neg (by omega)])]
    rfl
  | k + 1, m, b, h, hm, hb, hl => by
    by_cases h0 : m = 0
    · subst h0
      rw [loop_inr (r := b) (by simp only [lex_Digits_L1]; rw [if_neg (by omega)])]
      rfl
    rw [loop_inl (s' := (((m / 10 : Nat) : Int), [((ch (m % 10)).toNat : Int)] ++ b)) (by
      simp only [lex_Digits_L1]
      have e1 : w64 (((m / 10 : Nat) : Int)) = ((m / 10 : Nat) : Int) := w64_id (by omega) (by omega)
      rw [td10, tm10, e1]
      rw [if_pos (by omega), if_neg (by simpa using hb), need_of (by omega), ch_int (by omega)])]
    rw [lex_loop k (m / 10) _ (by rw [Nat.pow_succ] at h; omega) (by omega) (by simp) (by simp; omega), if_neg h0]
    have e : dS (k + 1) m = if m < 10 then [ch m] else dS k (m / 10) ++ [ch (m % 10)] := rfl
    rw [e]
    by_cases h10 : m < 10
    · rw [if_pos (by omega), if_pos h10, show m % 10 = m by omega]; rfl
    · rw [if_neg (by omega), if_neg h10, sB_app, List.append_assoc]; rfl
theorem lexD {n : Nat} (h : n < 9223372036854775808) : lex_Digits (n : Int) = some (dS 20 n) := by
  unfold lex_Digits
  have e1 : w64 (((n / 10 : Nat) : Int)) = ((n / 10 : Nat) : Int) := w64_id (by omega) (by omega)
  rw [td10, tm10, e1, ch_int (by omega), lex_loop 19 (n / 10) _ (by omega) (by omega) (by simp) (by simp), Option.bind_some]
  show some (iBytes _) = some (if n < 10 then [ch n] else dS 19 (n / 10) ++ [ch (n % 10)])
  congr 1
  by_cases h10 : n < 10
  · rw [if_pos (by omega), if_pos h10, show n % 10 = n by omega]
    exact iB_sB [ch n]
  · rw [if_neg (by omega), if_neg h10, ← iB_sB (dS 19 (n / 10) ++ [ch (n % 10)]), sB_app]
    rfl
theorem dig10 : ∀ d : Nat, d < 10 → ((([48, 49, 50, 51, 52, 53, 54, 55, 56, 57] : Str).take (d + 1)).drop d) = [ch d] := by decide
theorem ref_dig {d : Nat} (h : d < 10) : (0 ≤ (d : Int) ∧ (d : Int) ≤ (w64 ((d : Int) + 1)) ∧ (w64 ((d : Int) + 1)) ≤ 10) ∧ ((([48, 49, 50, 51, 52, 53, 54, 55, 56, 57] : Str).take (w64 ((d : Int) + 1)).toNat).drop (d : Int).toNat) = [ch d] := by
  rw [w64_id (by omega) (by omega)]
  refine ⟨by omega, ?_⟩
  rw [show ((d : Int) + 1).toNat = d + 1 by omega, show (d : Int).toNat = d by omega]
  exact dig10 d h
theorem ref_loop : ∀ (k n : Nat) (s : Str), n < 10 ^ (k + 1) → n < 9223372036854775808 → s.length + k ≤ 1000 → ∃ t : Nat, ∃ u : Str, loop lazarettoref05_Digits_L1 ((n : Int), s) = some ((t : Int), u) ∧ t < 10 ∧ [ch t] ++ u = dS k n ++ s ∧ u.length ≤ 1000
  | 0, n, s, h, _, hl => by
    refine ⟨n, s, ?_, by simpa using h, rfl, by omega⟩
    rw [loop_inr (r := ((n : Int), s)) (by simp only [lazarettoref05_Digits_L1]; rw [if_neg (by simp at h; omega)])]
  | k + 1, n, s, h, hn, hl => by
    by_cases h10 : n < 10
    · refine ⟨n, s, ?_, h10, by unfold dS; rw [if_pos h10], by omega⟩
      rw [loop_inr (r := ((n : Int), s)) (by simp only [lazarettoref05_Digits_L1]; rw [if_neg (by omega)])]
    · obtain ⟨t, u, h1, h2, h3, h4⟩ := ref_loop k (n / 10) ([ch (n % 10)] ++ s) (by rw [Nat.pow_succ] at h; omega) (by omega) (by simp; omega)
      refine ⟨t, u, ?_, h2, ?_, h4⟩
      · rw [loop_inl (s' := (((n / 10 : Nat) : Int), [ch (n % 10)] ++ s)) (by
          simp only [lazarettoref05_Digits_L1]
          have e1 : w64 (((n / 10 : Nat) : Int)) = ((n / 10 : Nat) : Int) := w64_id (by omega) (by omega)
          rw [td10, tm10, e1]
          obtain ⟨q1, q2⟩ := ref_dig (d := n % 10) (by omega)
          rw [if_pos (by omega), need_of q1, q2, need_of (by simp; omega)])]
        exact h1
      · rw [h3]
        show dS k (n / 10) ++ ([ch (n % 10)] ++ s) = (if n < 10 then [ch n] else dS k (n / 10) ++ [ch (n % 10)]) ++ s
        rw [if_neg h10, List.append_assoc]
theorem refD {n : Nat} (h : n < 9223372036854775808) : lazarettoref05_Digits (n : Int) = some (dS 20 n) := by
  obtain ⟨t, u, h1, h2, h3, h4⟩ := ref_loop 20 n [] (by omega) h (by simp)
  unfold lazarettoref05_Digits
  rw [h1, Option.bind_some]
  obtain ⟨q1, q2⟩ := ref_dig h2
  simp only
  rw [need_of q1, q2, need_of (by simp; omega), h3, List.append_nil]
def numS (n : Int) : Str := if 0 ≤ n then dS 20 n.toNat else [45] ++ dS 20 (-n).toNat
theorem numS_len (n : Int) : (numS n).length ≤ 22 := by
  unfold numS
  split
  · have := dS_len 20 n.toNat; omega
  · have := dS_len 20 (-n).toNat; simp; omega
def I64 (n : Int) : Prop := -9223372036854775808 ≤ n ∧ n ≤ 9223372036854775807
theorem minS : [45] ++ dS 20 922337203685477580 ++ dS 20 8 = numS (-9223372036854775808) := by decide +kernel
theorem minR : ([45, 57, 50, 50, 51, 51, 55, 50, 48, 51, 54, 56, 53, 52, 55, 55, 53, 56, 48, 56] : Str) = numS (-9223372036854775808) := by decide +kernel
theorem number_eq {n : Int} (h : I64 n) : code_number n = some (numS n) := by
  unfold I64 at h
  unfold code_number
  by_cases h0 : 0 ≤ n
  · obtain ⟨k, rfl⟩ := Int.eq_ofNat_of_zero_le h0
    rw [if_pos h0, lexD (by omega), Option.bind_some]
    unfold numS
    rw [if_pos h0]; rfl
  rw [if_neg h0]
  by_cases hm : n = -9223372036854775808
  · subst hm
    rw [if_pos (by decide)]
    rw [show w64 (0 - w64 (Int.tdiv (-9223372036854775808) 10)) = ((922337203685477580 : Nat) : Int) by decide, show w64 (0 - Int.tmod (-9223372036854775808) 10) = ((8 : Nat) : Int) by decide, lexD (by omega), lexD (by omega), Option.bind_some]
    have l1 := dS_len 20 922337203685477580
    have l2 := dS_len 20 8
    rw [need_of (by omega), Option.bind_some, need_of (by omega), minS]
  · have e : w64 (0 - n) = ((-n).toNat : Int) := by rw [w64_id (by omega) (by omega)]; omega
    rw [e, if_neg (by omega), lexD (by omega), Option.bind_some]
    have l1 := dS_len 20 (-n).toNat
    rw [need_of (by omega)]
    unfold numS
    rw [if_neg h0]
theorem signed_eq {n : Int} (h : I64 n) : lazarettoref17_signed n = some (numS n) := by
  unfold I64 at h
  unfold lazarettoref17_signed
  by_cases h0 : 0 ≤ n
  · obtain ⟨k, rfl⟩ := Int.eq_ofNat_of_zero_le h0
    rw [if_pos h0, refD (by omega), Option.bind_some]
    unfold numS
    rw [if_pos h0]; rfl
  rw [if_neg h0]
  by_cases hm : n = -9223372036854775808
  · subst hm
    rw [if_pos rfl, minR]
  · have e : w64 (0 - n) = ((-n).toNat : Int) := by rw [w64_id (by omega) (by omega)]; omega
    rw [if_neg hm, e, refD (by omega), Option.bind_some]
    have l1 := dS_len 20 (-n).toNat
    rw [need_of (by omega)]
    unfold numS
    rw [if_neg h0]
abbrev words : List Str := [[80, 85, 83, 72], [76, 79, 65, 68], [76, 79, 65, 68, 88], [83, 84, 79, 82, 69], [83, 84, 79, 82, 69, 88], [79, 80], [79, 85, 84], [67, 65, 76, 76], [68, 69, 67, 76], [71, 85, 65, 82, 68], [73, 70], [69, 76, 83, 69], [76, 79, 79, 80], [87, 72, 73, 76, 69], [70, 79, 82], [69, 78, 68]]
theorem fields_eq : strings_Fields ([63, 32, 80, 85, 83, 72, 32, 76, 79, 65, 68, 32, 76, 79, 65, 68, 88, 32, 83, 84, 79, 82, 69, 32, 83, 84, 79, 82, 69, 88, 32, 79, 80, 32, 79, 85, 84, 32, 67, 65, 76, 76, 32, 68, 69, 67, 76, 32, 71, 85, 65, 82, 68, 32, 73, 70, 32, 69, 76, 83, 69, 32, 76, 79, 79, 80, 32, 87, 72, 73, 76, 69, 32, 70, 79, 82, 32, 69, 78, 68] : Str) = some ([63] :: words) := by
  unfold strings_Fields
  rw [need_of (by decide +kernel)]
  exact congrArg some (by decide +kernel)
theorem word_at {op : Int} (h1 : 1 ≤ op) (h2 : op ≤ 16) (w : Str) : ∃ x : Str, idx (w :: words) op = some x ∧ idx words (op - 1) = some x ∧ x.length ≤ 6 := by
  have hlt : (op - 1).toNat < words.length := by show _ < 16; omega
  refine ⟨words[(op - 1).toNat], ?_, ?_, ?_⟩
  · unfold idx
    rw [if_pos (by omega), show op.toNat = (op - 1).toNat + 1 by omega, List.getElem?_cons_succ, List.getElem?_eq_getElem hlt]
  · unfold idx
    rw [if_pos (by omega), List.getElem?_eq_getElem hlt]
  · have : ∀ x ∈ words, x.length ≤ 6 := by decide
    exact this _ (List.getElem_mem hlt)
def ok4 (i : api_Ins) : Prop := I64 i.A ∧ I64 i.B_ ∧ I64 i.Label
theorem shows_eq {i : api_Ins} (h : ok4 i) : code_Show i = lazarettoref17_Show i ∧ ∃ r, code_Show i = some r := by
  obtain ⟨hA, hB, hL⟩ := h
  have lA := numS_len i.A
  have lB := numS_len i.B_
  have lL := numS_len i.Label
  unfold code_Show lazarettoref17_Show
  rw [fields_eq, Option.bind_some]
  by_cases h1 : i.Op < 1
  · rw [if_pos h1, if_pos h1]; exact ⟨rfl, _, rfl⟩
  rw [if_neg h1, if_neg h1]
  by_cases h2 : 16 < i.Op
  · rw [if_pos (show (((([63] : Str) :: words).length : Nat) : Int) ≤ i.Op by show (17 : Int) ≤ _; omega), if_pos h2]; exact ⟨rfl, _, rfl⟩
  rw [if_neg (show ¬ (((([63] : Str) :: words).length : Nat) : Int) ≤ i.Op by show ¬ (17 : Int) ≤ _; omega), if_neg h2]
  obtain ⟨x, x1, x2, x3⟩ := word_at (op := i.Op) (by omega) (by omega) [63]
  obtain ⟨y, y1, y2, _⟩ := word_at (op := i.Op) (by omega) (by omega) []
  have : y = x := Option.some.inj (y2.symm.trans x2)
  subst this
  obtain ⟨k, a, b, l, e1, e2, e3, e4, e5⟩ := names2 i.Op
  rw [x1, Option.bind_some, e1, Option.bind_some, e2, Option.bind_some]
  show _ = (idx ([] :: words) i.Op).bind _ ∧ _
  rw [y1, Option.bind_some, number_eq hA, number_eq hB, number_eq hL, signed_eq hA, signed_eq hB, signed_eq hL]
  simp only [Option.bind_some, e3, e4, e5]
  cases a <;> cases b <;> cases l <;> simp only [reduceCtorEq, if_true, if_false] <;> repeat (first | exact ⟨rfl, _, rfl⟩ | exact ⟨trivial, _, rfl⟩ | rw [need_of (by omega)])
abbrev ins1 : api_Ins := ⟨1, 5, 2, 0⟩
theorem c_one : codeC [ins1] = 0 := by
  rw [codeC_zero]
  exact ⟨by simp, fun i hi => by rw [List.mem_singleton.1 hi]; decide +kernel⟩
theorem bind_iff {α : Type} {x : Option α} {r : α} (h : x = some r) {β : Type} (f : α → Option β) : x.bind f = f r := by rw [h]; rfl
theorem show1 : code_Show ins1 = some [80, 85, 83, 72, 32, 53, 32, 50] := by
  rw [(shows_eq (i := ins1) (by unfold ok4 I64; simp)).1]
  unfold lazarettoref17_Show
  rw [signed_eq (n := ins1.A) (by unfold I64; simp), signed_eq (n := ins1.B_) (by unfold I64; simp), signed_eq (n := ins1.Label) (by unfold I64; simp)]
  decide +kernel
abbrev ins2 : api_Ins := ⟨10, 0, 0, 2⟩
theorem show2 : code_Show ins2 = some [71, 85, 65, 82, 68, 32, 64, 50] := by
  rw [(shows_eq (i := ins2) (by unfold ok4 I64; simp)).1]
  unfold lazarettoref17_Show
  rw [signed_eq (n := ins2.A) (by unfold I64; simp), signed_eq (n := ins2.Label) (by unfold I64; simp)]
  decide +kernel
theorem c_none : codeC [(⟨0, 0, 0, 0⟩ : api_Ins)] = 8 := by decide +kernel
theorem Decode_fwd {l : List api_Ins} (h : codeC l = 0) (x : Str) : code_Decode (encCode l ++ x) = some (if x = [] then (l, 0) else ([], 8)) := by
  unfold code_Decode
  rw [Read_fwd h, Option.bind_some]
  have hl : (encCode l ++ x).length = 4 + 7 * l.length + x.length := by rw [List.length_append, encCode_len]
  simp only
  by_cases hx : x = []
  · subst hx
    rw [if_pos trivial, if_pos (by rw [hl]; simp), if_pos rfl]
  · have : x.length ≠ 0 := by simpa using hx
    rw [if_pos trivial, if_neg (by omega), if_neg hx]
theorem awake17 : lazarettolaw17_awake = some true := by
  unfold lazarettolaw17_awake
  have d1 := Decode_fwd c_one []
  rw [List.append_nil, if_pos rfl] at d1
  have d2 := Decode_fwd c_one [120]
  rw [if_neg (by simp)] at d2
  have hl : (encCode [ins1]).length = 11 := encCode_len _
  rw [Encode_ok c_one, Option.bind_some, d1, Option.bind_some, need_of (by omega), d2, Option.bind_some, if_pos (show encCode [ins1] = [0, 0, 0, 1, 1, 0, 2, 0, 0, 0, 5] by decide +kernel)]
  simp only
  rw [if_pos trivial, if_pos (by simp)]
  simp only [List.getElem?_cons_zero, Option.bind_some, and_self, if_true]
  rw [show1, Option.bind_some, if_pos rfl, Check_ok, c_none, Option.bind_some, if_pos rfl, show2, Option.bind_some]
  rfl
theorem Encode_bad {l : List api_Ins} (h : ¬ codeC l = 0) : code_Encode l = some [] := by
  unfold code_Encode
  rw [Check_ok, Option.bind_some, if_neg h]
theorem rEncode_bad {l : List api_Ins} (h : ¬ codeC l = 0) : lazarettoref17_Encode l = some [] := by
  unfold lazarettoref17_Encode
  rw [refCheckC, Option.bind_some, if_neg h]
theorem checksLaw17 (l : List api_Ins) : lazarettolaw17_CodeChecks l = some true := by
  unfold lazarettolaw17_CodeChecks
  rw [awake17]
  by_cases h : 40000 < (l.length : Int)
  · rw [if_pos h]; rfl
  rw [if_neg h, Check_ok, refCheckC, Option.bind_some, Option.bind_some, if_pos rfl]
  by_cases hc : codeC l = 0
  · rw [Encode_ok hc, rEncode hc, Option.bind_some, Option.bind_some, if_pos rfl]; rfl
  · rw [Encode_bad hc, rEncode_bad hc, Option.bind_some, Option.bind_some, if_pos rfl]; rfl
/-- What is read of any bytes. -/
theorem Decode_t (s : Str) : Tot (code_Decode s) fun r => r = ([], 8) ∨ (r.2 = 0 ∧ codeC r.1 = 0 ∧ s = encCode r.1) := by
  unfold code_Decode
  refine (Read_inv s).bind fun r hr => Tot.ite (fun h => Tot.ite (fun h2 => Tot.mk (.inr ?_)) (fun _ => Tot.mk (.inl rfl))) (fun _ => Tot.mk (.inl rfl))
  obtain ⟨h3, h4, h5, h6⟩ := hr h
  refine ⟨rfl, h3, ?_⟩
  rw [List.drop_eq_nil_of_le (by omega), List.append_nil] at h6
  exact h6
theorem rDecode_t (s : Str) : Tot (lazarettoref17_Decode s) fun r => r = ([], 8) ∨ (r.2 = 0 ∧ codeC r.1 = 0 ∧ s = encCode r.1) := by
  unfold lazarettoref17_Decode
  by_cases hx : ∃ l, codeC l = 0 ∧ s = encCode l
  · obtain ⟨l, h1, rfl⟩ := hx
    have := rRead_fwd h1 []
    rw [List.append_nil] at this
    rw [this, Option.bind_some]
    simp only
    rw [if_pos trivial, if_pos (by rw [encCode_len]; omega)]
    exact Tot.mk (.inr ⟨rfl, h1, rfl⟩)
  · refine (rRead_t2 s).bind fun r hr => Tot.ite (fun h => Tot.ite (fun h2 => ?_) (fun _ => Tot.mk (.inl rfl))) (fun _ => Tot.mk (.inl rfl))
    obtain ⟨h3, h4⟩ := hr h
    rw [List.drop_eq_nil_of_le (by omega), List.append_nil] at h4
    exact (hx ⟨r.1, h3, h4⟩).elim
theorem decodesLaw17 (s : Str) : lazarettolaw17_CodeDecodes s = some true := by
  unfold lazarettolaw17_CodeDecodes
  rw [awake17]
  by_cases h : 300000 < (s.length : Int)
  · rw [if_pos h]; rfl
  rw [if_neg h]
  have e : code_Decode s = lazarettoref17_Decode s := by
    obtain ⟨r, hr, hq⟩ := Decode_t s
    obtain ⟨q, hq', hqq⟩ := rDecode_t s
    rw [hr, hq']
    have inj : ∀ {a b : List api_Ins}, codeC a = 0 → codeC b = 0 → encCode a = encCode b → a = b := fun {a b} ha hb he => by
      have h1 := Decode_fwd ha []
      have h2 := Decode_fwd hb []
      rw [List.append_nil] at h1 h2
      rw [he, h2] at h1
      simp at h1
      exact h1.symm
    rcases hq with rfl | ⟨h1, h2, h3⟩
    · rcases hqq with rfl | ⟨g1, g2, g3⟩
      · rfl
      · have := Decode_fwd g2 []
        rw [List.append_nil, ← g3, hr] at this
        simp at this
    · rcases hqq with rfl | ⟨g1, g2, g3⟩
      · have := rRead_fwd h2 []
        rw [List.append_nil, ← h3] at this
        unfold lazarettoref17_Decode at hq'
        rw [this, Option.bind_some] at hq'
        simp only at hq'
        rw [if_pos trivial, if_pos (by rw [h3, encCode_len]; omega)] at hq'
        simp at hq'
      · obtain ⟨a, b⟩ := r
        obtain ⟨c, d⟩ := q
        simp only at h1 h2 h3 g1 g2 g3
        subst h1; subst g1
        rw [inj h2 g2 (h3.symm.trans g3)]
  obtain ⟨q, hq, _⟩ := rDecode_t s
  rw [e, hq, Option.bind_some, Option.bind_some, ins_self, Option.bind_some, if_pos rfl, if_pos rfl]
  rfl
theorem backLaw17 (l : List api_Ins) : lazarettolaw17_CodeBack l = some true := by
  unfold lazarettolaw17_CodeBack
  rw [awake17]
  by_cases h : 2000 < (l.length : Int)
  · rw [if_pos h]; rfl
  rw [if_neg h, Check_ok, Option.bind_some]
  by_cases hc : codeC l = 0
  · have := Decode_fwd hc []
    rw [List.append_nil, if_pos rfl] at this
    rw [if_pos hc, Encode_ok hc, Option.bind_some, this, Option.bind_some]
    simp only
    rw [if_pos trivial, ins_self, Option.bind_some, if_pos rfl]
    rfl
  · rw [if_neg hc]; rfl
theorem onlyLaw17 (s : Str) : lazarettolaw17_CodeOnly s = some true := by
  unfold lazarettolaw17_CodeOnly
  rw [awake17]
  by_cases h : 300000 < (s.length : Int)
  · rw [if_pos h]; rfl
  rw [if_neg h]
  obtain ⟨r, hr, hq⟩ := Decode_t s
  rw [hr, Option.bind_some]
  rcases hq with rfl | ⟨h1, h2, h3⟩
  · rfl
  · rw [if_pos h1, Encode_ok h2, Option.bind_some, if_pos h3.symm, Check_ok, Option.bind_some, if_pos h2]
    rfl
theorem showsLaw17 (i : api_Ins) (h : ok4 i) : lazarettolaw17_CodeShows i = some true := by
  unfold lazarettolaw17_CodeShows
  obtain ⟨h1, r, h2⟩ := shows_eq h
  rw [← h1, h2, Option.bind_some, Option.bind_some, if_pos rfl, awake17]
  rfl
end Go.Lz
