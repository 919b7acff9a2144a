/- P23: what the latches' merging comes to. -/
import Derived.Test.YtbcpfhnlidpcbaaV23
import Derived.Test.YtbcpfhnlidpcbaaLp2
namespace Go.Lz
set_option linter.unusedVariables false
set_option linter.unusedSimpArgs false
theorem ints_self (a : List Int) : lazarettoref04_Ints a a = some true := by
  unfold lazarettoref04_Ints
  have hs : ∀ i, i < a.length → lazarettoref04_Ints_L1 a a i = some (.inl (i + 1)) := fun i hi => by simp [lazarettoref04_Ints_L1, hi]
  have hl : lazarettoref04_Ints_L1 a a a.length = some (.inr (.inr ())) := by simp [lazarettoref04_Ints_L1]
  rw [if_pos rfl, loop_for (fun i => i) a.length (.inr ()) hs hl]
  rfl
def mergeN (a b : List Int) : List Int := (List.range (max a.length b.length)).map fun i => if a.getD i 0 = 0 then b.getD i 0 else a.getD i 0
theorem len_mergeN {a b : List Int} : (mergeN a b).length = max a.length b.length := by simp [mergeN]
theorem get_mergeN {a b : List Int} {i : Nat} : (mergeN a b).getD i 0 = if a.getD i 0 = 0 then b.getD i 0 else a.getD i 0 := by
  by_cases h : i < max a.length b.length
  · simp [mergeN, List.getD_eq_getElem?_getD, h]
  · have h1 : a[i]? = none := by simp; omega
    have h2 : b[i]? = none := by simp; omega
    simp [mergeN, List.getD_eq_getElem?_getD, h1, h2, h]
theorem mergeN_assoc {a b c : List Int} : mergeN (mergeN a b) c = mergeN a (mergeN b c) := by
  apply List.ext_getElem?
  intro i
  by_cases h : i < max a.length (max b.length c.length)
  · have h1 : ∀ l : List Int, i < l.length → l[i]? = some (l.getD i 0) := fun l hl => by simp [List.getD_eq_getElem?_getD, hl]
    rw [h1 _ (by rw [len_mergeN, len_mergeN]; omega), h1 _ (by rw [len_mergeN, len_mergeN]; omega)]
    simp only [get_mergeN]
    split <;> simp_all
  · rw [List.getElem?_eq_none (by rw [len_mergeN, len_mergeN]; omega), List.getElem?_eq_none (by rw [len_mergeN, len_mergeN]; omega)]
theorem refMerge {a b : List Int} (ha : a.length ≤ 1000) (hb : b.length ≤ 1000) : lazarettoref23_Merge a b = some (mergeN a b) := by
  let S : Nat → List Int × Nat := fun i => ((List.range i).map fun i => if a.getD i 0 = 0 then b.getD i 0 else a.getD i 0, i)
  have hs : ∀ i, i < max a.length b.length → lazarettoref23_Merge_L1 a b (S i) = some (.inl (S (i + 1))) := by
    intro i hi
    have hn : (i + 1) * 8 ≤ 140737488355328 := by omega
    simp only [S, ← range_snoc]
    by_cases h1 : i < a.length <;> by_cases h2 : i < b.length
    · by_cases h3 : a[i] = 0 <;> simp [lazarettoref23_Merge_L1, need, h1, h2, h3, hn, List.getD_eq_getElem?_getD]
    · by_cases h3 : a[i] = 0 <;> simp [lazarettoref23_Merge_L1, need, h1, h2, h3, hn, List.getD_eq_getElem?_getD]
    · simp [lazarettoref23_Merge_L1, need, h1, h2, hn, List.getD_eq_getElem?_getD]
    · omega
  have hl : lazarettoref23_Merge_L1 a b (S (max a.length b.length)) = some (.inr (mergeN a b)) := by
    have h1 : ¬ max a.length b.length < a.length := by omega
    have h2 : ¬ max a.length b.length < b.length := by omega
    simp only [S, lazarettoref23_Merge_L1, Int.ofNat_lt, h1, h2, if_false]; rfl
  unfold lazarettoref23_Merge
  rw [show (([] : List Int), 0) = S 0 from rfl, loop_for S _ _ hs hl]
  rfl
theorem getMerge {a b : List Int} (ha : a.length ≤ 1000) (hb : b.length ≤ 1000) : latches_Merge a b = some (mergeN a b) := by
  let S : Nat → List Int × Nat := fun i => ((List.range (max a.length b.length)).map fun j => if j < i then (if a.getD j 0 = 0 then b.getD j 0 else a.getD j 0) else b.getD j 0, i)
  have e2 : (copyL (List.replicate (max a.length b.length) 0) b, 0) = S 0 := by
    show (_, 0) = (_, 0)
    congr 1
    apply List.ext_getElem?
    intro i
    by_cases h : i < max a.length b.length
    · by_cases h2 : i < b.length
      · simp [copyL, h, h2, List.getElem?_append, List.getD_eq_getElem?_getD]
        intro h3; omega
      · have hi : i < a.length := by omega
        have h4 : min (max a.length b.length) b.length = b.length := by omega
        simp [copyL, h, h2, hi, h4, List.getElem?_append, List.getD_eq_getElem?_getD, List.getElem?_replicate]; omega
    · rw [List.getElem?_eq_none (by rw [copyL_len]; simp; omega), List.getElem?_eq_none (by simp; omega)]
  have hs : ∀ i, i < a.length → latches_Merge_L1 a (S i) = some (.inl (S (i + 1))) := by
    intro i hi
    have hm : i < max a.length b.length := by omega
    by_cases h3 : a[i] = 0
    · simp only [S, latches_Merge_L1, Int.ofNat_lt, hi, if_true, List.getElem?_eq_getElem hi, Option.bind_some, h3]
      congr 3
      apply List.map_congr_left
      intro j hj
      by_cases e : j = i
      · subst e; simp [List.getD_eq_getElem?_getD, hi, h3]
      · have : j < i + 1 ↔ j < i := by omega
        simp only [this]
    · simp only [S, latches_Merge_L1, Int.ofNat_lt, hi, if_true, List.getElem?_eq_getElem hi, Option.bind_some, h3, if_false]
      rw [List.getElem?_eq_getElem (by simpa using hm), Option.bind_some]
      congr 3
      apply List.ext_getElem?
      intro j
      by_cases e : i = j
      · subst e
        rw [List.getElem?_set_self (by simpa using hm)]
        simp [hm, List.getD_eq_getElem?_getD, hi, h3]
      · rw [List.getElem?_set_ne e]
        have : j < i + 1 ↔ j < i := by omega
        by_cases hj : j < max a.length b.length <;> simp [hj, this]
  have hl : latches_Merge_L1 a (S a.length) = some (.inr (mergeN a b)) := by
    simp only [S, latches_Merge_L1, Int.lt_irrefl, if_false]
    congr 2
    apply List.map_congr_left
    intro j hj
    by_cases h : j < a.length
    · simp [h]
    · simp [h, List.getD_eq_getElem?_getD]
  unfold latches_Merge
  have e1 : (max (a.length : Int) (b.length : Int)) = ((max a.length b.length : Nat) : Int) := by omega
  rw [need_of (by omega), e1, Int.toNat_natCast, e2, loop_for S _ _ hs hl]
  rfl
theorem mergeLaw (aw : lazarettolaw23_awake = some true) (a b c : List Int) : lazarettolaw23_LatchesMerge a b c = some true := by
  unfold lazarettolaw23_LatchesMerge
  rw [aw]
  by_cases ha : a.length ≤ 1000
  · by_cases hb : b.length ≤ 1000
    · by_cases hc : c.length ≤ 1000
      · have l1 := len_mergeN (a := a) (b := b)
        have l2 := len_mergeN (a := b) (b := c)
        rw [if_neg (by omega), if_neg (by omega), if_neg (by omega)]
        simp only [getMerge ha hb, refMerge ha hb, Option.bind_some, ints_self, if_true, getMerge hb hc, getMerge (show (mergeN a b).length ≤ 1000 by omega) hc, getMerge ha (show (mergeN b c).length ≤ 1000 by omega), mergeN_assoc]
      · rw [if_neg (by omega), if_neg (by omega), if_pos (by omega)]; rfl
    · rw [if_neg (by omega), if_pos (by omega)]; rfl
  · rw [if_pos (by omega)]; rfl
theorem awake23 : lazarettolaw23_awake = some true := by
  unfold lazarettolaw23_awake
  simp [latches_Outputs, latches_Outputs_L1, latches_Forced, latches_Forced_L1, lattice_Leq, lattice_is, lattice_above, lattice_above_L1, lattice_above_L2, lazarettoref04_Ints, lazarettoref04_Ints_L1, loop_eq, need, idx, show latches_Merge [0, 2] [1, 1, 1] = some [1, 2, 1] from getMerge (by decide) (by decide)]
end Go.Lz
