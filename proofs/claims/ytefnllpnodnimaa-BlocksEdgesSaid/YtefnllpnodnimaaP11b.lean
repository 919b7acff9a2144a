/- P11b: laws of the blocks: values of their kinds; edges. -/
import Derived.Test.YtefnllpnodnimaaV11c
import Derived.Test.YtefnllpnodnimaaP11
namespace Go.Lz
set_option linter.unusedVariables false
set_option linter.unusedSimpArgs false
def sinceV (a b c : Int) : Int := (blocks_since a b c).getD 0
theorem someD {α : Type} {x : Option α} (d : α) (h : ∃ r, x = some r) : x = some (x.getD d) := by obtain ⟨r, rfl⟩ := h; rfl
theorem sinceT (a b c : Int) : blocks_since a b c = some (sinceV a b c) := someD 0 (by unfold blocks_since; repeat' split
                                                                                       all_goals exact ⟨_, rfl⟩)
def zA : A4 Int := ⟨0, 0, 0, 0⟩
def runV (s : A4 Int) (a b : Int) : A4 Int := (blocks_run s a b).getD zA
theorem runT (s : A4 Int) (a b : Int) : blocks_run s a b = some (runV s a b) := someD zA (by
  unfold blocks_run; simp only [sinceT, Option.bind_some]; repeat' split
  all_goals exact ⟨_, rfl⟩)
def upV (n : Int) : Int := (blocks_up n).getD 0
theorem upT (n : Int) : blocks_up n = some (upV n) := someD 0 (by unfold blocks_up; split <;> exact ⟨_, rfl⟩)
def downV (n : Int) : Int := (blocks_down n).getD 0
theorem downT (n : Int) : blocks_down n = some (downV n) := someD 0 (by unfold blocks_down; split <;> exact ⟨_, rfl⟩)
theorem tonT (s : A4 Int) (x y now : Int) : ∃ r, blocks_ton s [x, y] now = some r := by
  unfold blocks_ton
  simp only [List.getElem?_cons_zero, List.getElem?_cons_succ, Option.bind_some, bit_eq, sinceT]
  repeat' split
  all_goals exact ⟨_, rfl⟩
theorem tofT (s : A4 Int) (x y now : Int) : ∃ r, blocks_tof s [x, y] now = some r := by
  unfold blocks_tof
  simp only [List.getElem?_cons_zero, List.getElem?_cons_succ, Option.bind_some, bit_eq, runT]
  repeat' split
  all_goals exact ⟨_, rfl⟩
theorem tpT (s : A4 Int) (x y now : Int) : ∃ r, blocks_tp s [x, y] now = some r := by
  unfold blocks_tp
  simp only [List.getElem?_cons_zero, List.getElem?_cons_succ, Option.bind_some, bit_eq, runT]
  repeat' split
  all_goals first | exact ⟨_, rfl⟩ | (exfalso; omega)
theorem ctuT (s : A4 Int) (x y w now : Int) : ∃ r, blocks_ctu s [x, y, w] now = some r := by
  unfold blocks_ctu
  simp only [List.getElem?_cons_zero, List.getElem?_cons_succ, Option.bind_some, bit_eq, upT]
  repeat' split
  all_goals first | exact ⟨_, rfl⟩ | (exfalso; omega)
theorem ctdT (s : A4 Int) (x y w now : Int) : ∃ r, blocks_ctd s [x, y, w] now = some r := by
  unfold blocks_ctd
  simp only [List.getElem?_cons_zero, List.getElem?_cons_succ, Option.bind_some, bit_eq, downT]
  repeat' split
  all_goals first | exact ⟨_, rfl⟩ | (exfalso; omega)
theorem ctudT (s : A4 Int) (a b c d e now : Int) : ∃ r, blocks_ctud s [a, b, c, d, e] now = some r := by
  unfold blocks_ctud
  simp only [List.getElem?_cons_zero, List.getElem?_cons_succ, Option.bind_some, bit_eq, upT, downT]
  repeat' split
  all_goals first | exact ⟨_, rfl⟩ | (exfalso; omega)
theorem srT (s : A4 Int) (x y now : Int) : ∃ r, blocks_sr s [x, y] now = some r := by
  unfold blocks_sr
  simp only [List.getElem?_cons_zero, List.getElem?_cons_succ, Option.bind_some, bit_eq]
  repeat' split
  all_goals first | exact ⟨_, rfl⟩ | (exfalso; omega)
theorem rsT (s : A4 Int) (x y now : Int) : ∃ r, blocks_rs s [x, y] now = some r := by
  unfold blocks_rs
  simp only [List.getElem?_cons_zero, List.getElem?_cons_succ, Option.bind_some, bit_eq]
  repeat' split
  all_goals first | exact ⟨_, rfl⟩ | (exfalso; omega)
def riseV (s : A4 Int) (x : Int) : A4 Int := ⟨bitI (decide (x = 1) && decide (s.a3 = 0)), s.a1, s.a2, x⟩
theorem riseE (s : A4 Int) (x now : Int) : blocks_rises s [x] now = some (riseV s x) := by
  unfold blocks_rises riseV
  by_cases h : x = 1 <;> simp [h, bit_eq]
def fallV (s : A4 Int) (x : Int) : A4 Int := ⟨bitI (decide (x = 0) && !decide (s.a3 = 0)), s.a1, s.a2, x⟩
theorem fallE (s : A4 Int) (x now : Int) : blocks_falls s [x] now = some (fallV s x) := by
  unfold blocks_falls fallV
  by_cases h : x = 0 <;> simp [h, bit_eq]
/-! Steps by kind. -/
theorem stepTof (s : A4 Int) (a p now : Int) : blocks_Step [84, 79, 70] s [a, p] now = blocks_tof s [wrapS 1 a, wrapS 4 p] now := by
  simp [blocks_Step, need, blocks_Step_L2, loop_eq, ints_Wrap]
theorem stepTp (s : A4 Int) (a p now : Int) : blocks_Step [84, 80] s [a, p] now = blocks_tp s [wrapS 1 a, wrapS 4 p] now := by
  simp [blocks_Step, need, blocks_Step_L3, loop_eq, ints_Wrap]
theorem stepCtd (s : A4 Int) (a r p now : Int) : blocks_Step [67, 84, 68] s [a, r, p] now = blocks_ctd s [wrapS 1 a, wrapS 1 r, wrapS 2 p] now := by
  simp [blocks_Step, need, blocks_Step_L5, loop_eq, ints_Wrap]
theorem stepR (s : A4 Int) (a now : Int) : blocks_Step [82, 95, 84, 82, 73, 71] s [a] now = some (riseV s (wrapS 1 a)) := by
  simp [blocks_Step, need, blocks_Step_L7, loop_eq, ints_Wrap, riseE]
theorem stepF_ (s : A4 Int) (a now : Int) : blocks_Step [70, 95, 84, 82, 73, 71] s [a] now = some (fallV s (wrapS 1 a)) := by
  simp [blocks_Step, need, blocks_Step_L8, loop_eq, ints_Wrap, fallE]
theorem stepSr (s : A4 Int) (a p now : Int) : blocks_Step [83, 82] s [a, p] now = blocks_sr s [wrapS 1 a, wrapS 1 p] now := by
  simp [blocks_Step, need, blocks_Step_L9, loop_eq, ints_Wrap]
theorem stepRs (s : A4 Int) (a p now : Int) : blocks_Step [82, 83] s [a, p] now = blocks_rs s [wrapS 1 a, wrapS 1 p] now := by
  simp [blocks_Step, need, blocks_Step_L10, loop_eq, ints_Wrap]
/-! What play gives. -/
def prevA (out : List (A4 Int)) (j : Nat) : A4 Int := if j = 0 then zA else out.getD (j - 1) zA
def insOf (c : lazarettolaw11_Call) (n : Nat) : List Int := [c.In.a0, c.In.a1, c.In.a2, c.In.a3, c.In.a4].take n
def c0 : lazarettolaw11_Call := ⟨0, ⟨0, 0, 0, 0, 0⟩⟩
structure PlayI (kind : Str) (l : List lazarettolaw11_Call) (n : Nat) (s : A4 Int) (out : List (A4 Int)) (i : Nat) : Prop where
  il : i ≤ l.length
  ih : i ≤ 100
  len : out.length = i
  st : s = prevA out i
  each : ∀ j, j < i → ∃ now, blocks_Step kind (prevA out j) (insOf (l.getD j c0) n) now = some (out.getD j zA)
theorem playE {kind : Str} {ins : List Int} (hin : lazarettoref11_Inputs kind = some ins) (h5 : ins.length ≤ 5) (hs : ∀ s c now, ∃ r, blocks_Step kind s (insOf c ins.length) now = some r) (l : List lazarettolaw11_Call) :
    ∃ out, lazarettolaw11_play kind l = some (out, decide (0 < (ins.length : Int))) ∧ out.length = min l.length 100 ∧ ∀ j, j < out.length → ∃ now, blocks_Step kind (prevA out j) (insOf (l.getD j c0) ins.length) now = some (out.getD j zA) := by
  unfold lazarettolaw11_play
  rw [hin, Option.bind_some]
  obtain ⟨r, e, q⟩ := loop_inv (f := lazarettolaw11_play_L1 kind l ins)
    (fun s => PlayI kind l ins.length ⟨s.1, s.2.1, s.2.2.1, s.2.2.2.1⟩ s.2.2.2.2.1 s.2.2.2.2.2.2)
    (fun r => ∃ s, PlayI kind l ins.length s r.2.2.2.2 (min l.length 100)) (fun s => 100 - s.2.2.2.2.2.2) (by
    rintro ⟨s1, s2, s3, s4, out, now, i⟩ hI
    have hI0 := hI
    obtain ⟨il, ih, len, st, each⟩ := hI
    dsimp only at il ih len st each hI0 ⊢
    simp only [lazarettolaw11_play_L1]
    by_cases h1 : i < l.length
    · rw [if_pos (by omega)]
      by_cases h2 : i < 100
      · rw [if_pos (by omega), List.getElem?_eq_getElem h1, Option.bind_some, need_of (by omega)]
        left
        have hg : l.getD i c0 = l[i] := by simp [List.getD_eq_getElem?_getD, h1]
        have next : ∀ (nw : Int) (r : A4 Int), blocks_Step kind ⟨s1, s2, s3, s4⟩ (insOf l[i] ins.length) nw = some r → PlayI kind l ins.length ⟨r.a0, r.a1, r.a2, r.a3⟩ (out ++ [r]) (i + 1) := fun nw r hr => by
          have g1 : ∀ j, j < i → (out ++ [r]).getD j zA = out.getD j zA := fun j hj => by
            simp [List.getD_eq_getElem?_getD, List.getElem?_append_left (show j < out.length by omega)]
          have g2 : (out ++ [r]).getD i zA = r := by
            rw [← len]; simp [List.getD_eq_getElem?_getD]
          have g3 : ∀ j, j ≤ i → prevA (out ++ [r]) j = prevA out j := fun j hj => by
            unfold prevA
            by_cases e : j = 0
            · rw [if_pos e, if_pos e]
            · rw [if_neg e, if_neg e, g1 _ (by omega)]
          refine ⟨h1, h2, by simp [len], ?_, fun j hj => ?_⟩
          · unfold prevA; rw [if_neg (by omega), Nat.add_sub_cancel, g2]
          · by_cases e : j = i
            · subst e
              rw [g3 j (Nat.le_refl _), g2, ← st, hg]
              exact ⟨nw, hr⟩
            · rw [g3 j (by omega), g1 j (by omega)]
              exact each j (by omega)
        obtain ⟨r, hr⟩ := hs ⟨s1, s2, s3, s4⟩ l[i] (w64 (now + w64 ((IntKind.u64.wrap l[i].Later).tmod 1000)))
        have hr' := hr
        unfold insOf at hr'
        refine ⟨(r.a0, r.a1, r.a2, r.a3, out ++ [r], w64 (now + w64 ((IntKind.u64.wrap l[i].Later).tmod 1000)), i + 1), ?_, next _ r hr, by dsimp only; omega⟩
        split
        · rename_i he
          rw [List.isEmpty_iff] at he
          rw [he] at hr'
          rw [hr', Option.bind_some, need_of (by omega)]
        · have hl : (List.take ins.length [l[i].In.a0, l[i].In.a1, l[i].In.a2, l[i].In.a3, l[i].In.a4]).length ≤ 5 := by simp; omega
          rw [need_of (by omega), hr', Option.bind_some, need_of (by omega)]
      · rw [if_neg (by omega)]
        right
        refine ⟨(s1, s2, s3, s4, out), rfl, ⟨s1, s2, s3, s4⟩, ?_⟩
        rw [show min l.length 100 = i by omega]
        exact hI0
    · rw [if_neg (by omega)]
      right
      refine ⟨(s1, s2, s3, s4, out), rfl, ⟨s1, s2, s3, s4⟩, ?_⟩
      rw [show min l.length 100 = i by omega]
      exact hI0) (0, 0, 0, 0, [], 0, 0) ⟨Nat.zero_le _, Nat.zero_le _, rfl, rfl, fun j hj => (Nat.not_lt_zero _ hj).elim⟩
  obtain ⟨s, q⟩ := q
  rw [e]
  refine ⟨r.2.2.2.2, rfl, q.len, fun j hj => q.each j (by have := q.len; omega)⟩
theorem validBit (b : Bool) : lazarettoref03_Valid 1 (bitI b) = some true := by cases b <;> simp [lazarettoref03_Valid, bitI]
theorem valid2 (n : Int) : lazarettoref03_Valid 2 (wrapS 2 n) = some true := by
  have h1 : -32768 ≤ wrapS 2 n ∧ wrapS 2 n ≤ 32767 := by rw [wrap_2]; omega
  generalize wrapS 2 n = v at *
  have e : w64 (0 - 32768) = -32768 := by rw [w64_eq]; omega
  simp only [lazarettoref03_Valid, refBits, lazarettoref03_half, show ((2 : Int) = 1) = False by simp, if_true, if_false, Option.bind_some, show ((0 : Int) < 16) = True by simp, e]
  rw [if_pos h1.1, decide_eq_true (by omega)]
theorem valid4 (n : Int) : lazarettoref03_Valid 4 (wrapS 4 n) = some true := by
  have h1 : -2147483648 ≤ wrapS 4 n ∧ wrapS 4 n ≤ 2147483647 := by rw [wrap_4]; omega
  generalize wrapS 4 n = v at *
  have e : w64 (0 - 2147483648) = -2147483648 := by rw [w64_eq]; omega
  simp only [lazarettoref03_Valid, refBits, lazarettoref03_half, show ((4 : Int) = 1) = False by simp, show ((4 : Int) = 2) = False by simp, show ((4 : Int) = 3) = False by simp, if_true, if_false, Option.bind_some, show ((0 : Int) < 32) = True by simp, e]
  rw [if_pos h1.1, decide_eq_true (by omega)]
structure KindOk (k : Str) (ins outs : List Int) : Prop where
  i : lazarettoref11_Inputs k = some ins
  o : lazarettoref11_Outputs k = some outs
  five : ins.length ≤ 5
  step : ∀ s c now, ∃ r, blocks_Step k s (insOf c ins.length) now = some r
  out : ∀ s (n : Nat) x, outs[n]? = some x → ∃ v, blocks_Out k s n = some v ∧ lazarettoref03_Valid x v = some true
theorem outs2 {P : Nat → Int → Prop} {a b : Int} (h0 : P 0 a) (h1 : P 1 b) : ∀ (n : Nat) x, [a, b][n]? = some x → P n x
  | 0, x, h => by simp at h; exact h ▸ h0
  | 1, x, h => by simp at h; exact h ▸ h1
  | n + 2, x, h => by simp at h
theorem outs1 {P : Nat → Int → Prop} {a : Int} (h0 : P 0 a) : ∀ (n : Nat) x, [a][n]? = some x → P n x
  | 0, x, h => by simp at h; exact h ▸ h0
  | n + 1, x, h => by simp at h
theorem outs3 {P : Nat → Int → Prop} {a b c : Int} (h0 : P 0 a) (h1 : P 1 b) (h2 : P 2 c) : ∀ (n : Nat) x, [a, b, c][n]? = some x → P n x
  | 0, x, h => by simp at h; exact h ▸ h0
  | 1, x, h => by simp at h; exact h ▸ h1
  | 2, x, h => by simp at h; exact h ▸ h2
  | n + 3, x, h => by simp at h
theorem kindOk (k : Str) : ∃ ins outs, KindOk k ins outs := by
  by_cases h1 : k = [84, 79, 78]
  · subst h1
    exact ⟨[1, 4], [1, 4], by simp [lazarettoref11_Inputs], by simp [lazarettoref11_Outputs], by simp, fun s c now => by obtain ⟨r, e⟩ := tonT s (wrapS 1 c.In.a0) (wrapS 4 c.In.a1) now; exact ⟨r, by simp [insOf, stepTon, e]⟩,
      fun s => outs2 ⟨_, outTon0 s, validBit _⟩ ⟨_, outTon1 s, valid4 _⟩⟩
  by_cases h2 : k = [84, 79, 70]
  · subst h2
    exact ⟨[1, 4], [1, 4], by simp [lazarettoref11_Inputs], by simp [lazarettoref11_Outputs], by simp, fun s c now => by obtain ⟨r, e⟩ := tofT s (wrapS 1 c.In.a0) (wrapS 4 c.In.a1) now; exact ⟨r, by simp [insOf, stepTof, e]⟩,
      fun s => outs2 ⟨_, by simp [blocks_Out, bit_eq]; rfl, validBit _⟩ ⟨_, by simp [blocks_Out, bit_eq, blocks_of, idx, ints_Wrap]; rfl, valid4 _⟩⟩
  by_cases h3 : k = [84, 80]
  · subst h3
    exact ⟨[1, 4], [1, 4], by simp [lazarettoref11_Inputs], by simp [lazarettoref11_Outputs], by simp, fun s c now => by obtain ⟨r, e⟩ := tpT s (wrapS 1 c.In.a0) (wrapS 4 c.In.a1) now; exact ⟨r, by simp [insOf, stepTp, e]⟩,
      fun s => outs2 ⟨_, by simp [blocks_Out, bit_eq]; rfl, validBit _⟩ ⟨_, by simp [blocks_Out, bit_eq, blocks_of, idx, ints_Wrap]; rfl, valid4 _⟩⟩
  by_cases h4 : k = [67, 84, 85]
  · subst h4
    exact ⟨[1, 1, 2], [1, 2], by simp [lazarettoref11_Inputs], by simp [lazarettoref11_Outputs], by simp, fun s c now => by obtain ⟨r, e⟩ := ctuT s (wrapS 1 c.In.a0) (wrapS 1 c.In.a1) (wrapS 2 c.In.a2) now; exact ⟨r, by simp [insOf, stepCtu, e]⟩,
      fun s => outs2 ⟨_, outCtu0 s, validBit _⟩ ⟨_, outCtu1 s, valid2 _⟩⟩
  by_cases h5 : k = [67, 84, 68]
  · subst h5
    exact ⟨[1, 1, 2], [1, 2], by simp [lazarettoref11_Inputs], by simp [lazarettoref11_Outputs], by simp, fun s c now => by obtain ⟨r, e⟩ := ctdT s (wrapS 1 c.In.a0) (wrapS 1 c.In.a1) (wrapS 2 c.In.a2) now; exact ⟨r, by simp [insOf, stepCtd, e]⟩,
      fun s => outs2 ⟨_, by simp [blocks_Out, bit_eq]; rfl, validBit _⟩ ⟨_, by simp [blocks_Out, bit_eq, blocks_of, idx, ints_Wrap]; rfl, valid2 _⟩⟩
  by_cases h6 : k = [67, 84, 85, 68]
  · subst h6
    exact ⟨[1, 1, 1, 1, 2], [1, 1, 2], by simp [lazarettoref11_Inputs], by simp [lazarettoref11_Outputs], by simp, fun s c now => by obtain ⟨r, e⟩ := ctudT s (wrapS 1 c.In.a0) (wrapS 1 c.In.a1) (wrapS 1 c.In.a2) (wrapS 1 c.In.a3) (wrapS 2 c.In.a4) now; exact ⟨r, by simp [insOf, stepCtud, e]⟩,
      fun s => outs3 ⟨_, by simp [blocks_Out, bit_eq, blocks_of, idx, ints_Wrap]; rfl, validBit _⟩ ⟨_, by simp [blocks_Out, bit_eq, blocks_of, idx, ints_Wrap]; rfl, validBit _⟩ ⟨_, by simp [blocks_Out, bit_eq, blocks_of, idx, ints_Wrap]; rfl, valid2 _⟩⟩
  by_cases h7 : k = [82, 95, 84, 82, 73, 71]
  · subst h7
    exact ⟨[1], [1], by simp [lazarettoref11_Inputs], by simp [lazarettoref11_Outputs], by simp, fun s c now => ⟨_, by simp [insOf, stepR]; rfl⟩,
      fun s => outs1 ⟨_, by simp [blocks_Out, bit_eq]; rfl, validBit _⟩⟩
  by_cases h8 : k = [70, 95, 84, 82, 73, 71]
  · subst h8
    exact ⟨[1], [1], by simp [lazarettoref11_Inputs], by simp [lazarettoref11_Outputs], by simp, fun s c now => ⟨_, by simp [insOf, stepF_]; rfl⟩,
      fun s => outs1 ⟨_, by simp [blocks_Out, bit_eq]; rfl, validBit _⟩⟩
  by_cases h9 : k = [83, 82]
  · subst h9
    exact ⟨[1, 1], [1], by simp [lazarettoref11_Inputs], by simp [lazarettoref11_Outputs], by simp, fun s c now => by obtain ⟨r, e⟩ := srT s (wrapS 1 c.In.a0) (wrapS 1 c.In.a1) now; exact ⟨r, by simp [insOf, stepSr, e]⟩,
      fun s => outs1 ⟨_, by simp [blocks_Out, bit_eq]; rfl, validBit _⟩⟩
  by_cases h10 : k = [82, 83]
  · subst h10
    exact ⟨[1, 1], [1], by simp [lazarettoref11_Inputs], by simp [lazarettoref11_Outputs], by simp, fun s c now => by obtain ⟨r, e⟩ := rsT s (wrapS 1 c.In.a0) (wrapS 1 c.In.a1) now; exact ⟨r, by simp [insOf, stepRs, e]⟩,
      fun s => outs1 ⟨_, by simp [blocks_Out, bit_eq]; rfl, validBit _⟩⟩
  exact ⟨[], [], by simp [lazarettoref11_Inputs, h1, h2, h3, h4, h5, h6, h7, h8, h9, h10], by simp [lazarettoref11_Outputs, h1, h2, h3, h4, h5, h6, h7, h8, h9, h10], by simp,
    fun s c now => ⟨s, by simp [blocks_Step, h1, h2, h3, h4, h5, h6, h7, h8, h9, h10]⟩, fun s n x h => by simp at h⟩
theorem validLaw (k : Str) (l : List lazarettolaw11_Call) : lazarettolaw11_BlocksValid k l = some true := by
  obtain ⟨ins, outs, ok⟩ := kindOk k
  obtain ⟨out, e, _, _⟩ := playE ok.i ok.five ok.step l
  unfold lazarettolaw11_BlocksValid
  rw [e, Option.bind_some, ok.o, awake11]
  split
  · rw [Option.bind_some]
    have inner : ∀ i, i < out.length → loop (lazarettolaw11_BlocksValid_L2 k (out, decide (0 < (ins.length : Int))) outs i) 0 = some (.inr ()) := fun i hi => by
      rw [loop_all (xs := outs) (p := fun _ => true) (a := (.inl false : Bool ⊕ Unit)) (b := .inr ()) (fun n hn => by
        obtain ⟨v, e1, e2⟩ := ok.out out[i] n outs[n] (List.getElem?_eq_getElem hn)
        simp only [lazarettolaw11_BlocksValid_L2, Int.ofNat_lt, hn, if_true, List.getElem?_eq_getElem hn, List.getElem?_eq_getElem hi, Option.bind_some, e1, e2]) (by simp [lazarettolaw11_BlocksValid_L2])]
      simp
    rw [loop_all (xs := out) (p := fun _ => true) (a := (.inl false : Bool ⊕ Unit)) (b := .inr ()) (fun i hi => by
      simp only [lazarettolaw11_BlocksValid_L1, Int.ofNat_lt, hi, if_true, inner i hi, Option.bind_some]) (by simp [lazarettolaw11_BlocksValid_L1])]
    simp
  · rfl
/-! Edges. -/
def inn (l : List lazarettolaw11_Call) (j : Nat) : Int := wrapS 1 (l.getD j c0).In.a0
def wasN (l : List lazarettolaw11_Call) (j : Nat) : Int := if j = 0 then 0 else inn l (j - 1)
theorem inn_01 (l : List lazarettolaw11_Call) (j : Nat) : inn l j = 0 ∨ inn l j = 1 := by unfold inn; rw [wrap_1]; split <;> simp
theorem was_01 (l : List lazarettolaw11_Call) (j : Nat) : wasN l j = 0 ∨ wasN l j = 1 := by
  unfold wasN; split
  · exact .inl rfl
  · exact inn_01 l _
theorem prev_a3 {l : List lazarettolaw11_Call} {out : List (A4 Int)} (h : ∀ j, j < out.length → (out.getD j zA).a3 = inn l j) {j : Nat} (hj : j < out.length) : (prevA out j).a3 = wasN l j := by
  unfold prevA wasN
  split
  · rfl
  · exact h _ (by omega)
theorem outR (s : A4 Int) : blocks_Out [82, 95, 84, 82, 73, 71] s 0 = some (bitI (!decide (s.a0 = 0))) := by simp [blocks_Out, bit_eq]
theorem outF (s : A4 Int) : blocks_Out [70, 95, 84, 82, 73, 71] s 0 = some (bitI (!decide (s.a0 = 0))) := by simp [blocks_Out, bit_eq]
theorem bitI_ne (b : Bool) : (!decide (bitI b = 0)) = b := by cases b <;> simp [bitI]
theorem edgesLaw (l : List lazarettolaw11_Call) : lazarettolaw11_BlocksEdges l = some true := by
  obtain ⟨up, e1, l1, u1⟩ := playE (kind := [82, 95, 84, 82, 73, 71]) (ins := [1]) (by simp [lazarettoref11_Inputs]) (by simp) (fun s c now => ⟨_, by simp [insOf, stepR]; rfl⟩) l
  obtain ⟨dn, e2, l2, d1⟩ := playE (kind := [70, 95, 84, 82, 73, 71]) (ins := [1]) (by simp [lazarettoref11_Inputs]) (by simp) (fun s c now => ⟨_, by simp [insOf, stepF_]; rfl⟩) l
  have u2 : ∀ j, j < up.length → up.getD j zA = riseV (prevA up j) (inn l j) := fun j hj => by
    obtain ⟨now, e⟩ := u1 j hj
    rw [show insOf (l.getD j c0) [(1 : Int)].length = [(l.getD j c0).In.a0] from rfl, stepR] at e
    exact (Option.some.inj e).symm
  have d2 : ∀ j, j < dn.length → dn.getD j zA = fallV (prevA dn j) (inn l j) := fun j hj => by
    obtain ⟨now, e⟩ := d1 j hj
    rw [show insOf (l.getD j c0) [(1 : Int)].length = [(l.getD j c0).In.a0] from rfl, stepF_] at e
    exact (Option.some.inj e).symm
  have u3 : ∀ j, j < up.length → (up.getD j zA).a0 = bitI (decide (inn l j = 1) && decide (wasN l j = 0)) := fun j hj => by
    rw [u2 j hj]
    simp only [riseV]
    rw [prev_a3 (l := l) (fun j hj => by rw [u2 j hj]; rfl) hj]
  have d3 : ∀ j, j < dn.length → (dn.getD j zA).a0 = bitI (decide (inn l j = 0) && !decide (wasN l j = 0)) := fun j hj => by
    rw [d2 j hj]
    simp only [fallV]
    rw [prev_a3 (l := l) (fun j hj => by rw [d2 j hj]; rfl) hj]
  unfold lazarettolaw11_BlocksEdges
  rw [e1, e2, awake11]
  simp only [Option.bind_some, l1, l2]
  obtain ⟨r, e, q⟩ := loop_inv (f := lazarettolaw11_BlocksEdges_L1 l (up, decide (0 < (([1] : List Int).length : Int))) (dn, decide (0 < (([1] : List Int).length : Int))))
    (fun s => s.2 ≤ up.length ∧ s.1 = wasN l s.2) (fun r => r = .inr ()) (fun s => up.length - s.2) (by
    rintro ⟨was, i⟩ ⟨h1, h2⟩
    dsimp only at h1 h2 ⊢
    subst h2
    simp only [lazarettolaw11_BlocksEdges_L1]
    by_cases hi : i < up.length
    · left
      have hd : i < dn.length := by omega
      have hl : i < l.length := by omega
      have x1 := u3 i hi
      have x2 := d3 i hd
      have g1 : up.getD i zA = up[i] := by simp [List.getD_eq_getElem?_getD, hi]
      have g2 : dn.getD i zA = dn[i] := by simp [List.getD_eq_getElem?_getD, hd]
      have g3 : wrapS 1 l[i].In.a0 = inn l i := by unfold inn; simp [List.getD_eq_getElem?_getD, hl]
      rw [g1] at x1
      rw [g2] at x2
      have hw : wasN l (i + 1) = inn l i := by simp [wasN]
      refine ⟨(inn l i, i + 1), ?_, ⟨hi, hw.symm⟩, by dsimp only; omega⟩
      rw [if_pos (by omega), List.getElem?_eq_getElem hl, List.getElem?_eq_getElem hi, List.getElem?_eq_getElem hd]
      simp only [Option.bind_some, refWrap, g3, outR, outF, x1, x2, bitI_ne]
      rcases inn_01 l i with c | c <;> rcases was_01 l i with w | w <;> simp [c, w, bitI]
    · right
      exact ⟨_, by rw [if_neg (by omega)], rfl⟩) (0, 0) ⟨Nat.zero_le _, rfl⟩
  subst q
  have e' := e
  simp only [List.length_cons, List.length_nil] at e'
  simp only [List.length_cons, List.length_nil, e']
  simp
end Go.Lz
