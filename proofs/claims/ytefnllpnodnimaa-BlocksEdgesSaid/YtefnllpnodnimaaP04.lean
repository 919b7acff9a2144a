/- P04: types, cells, what is asked and set; the laws of chapter 04 in plain words. -/
import Derived.Test.YtefnllpnodnimaaV04
import Derived.Test.YtefnllpnodnimaaLp3
namespace Go.Lz
set_option linter.unusedVariables false
set_option linter.unusedSimpArgs false
theorem zip_all {a b : List Int} (h : a.length = b.length) : (a.zip b).all (fun p => decide (p.1 = p.2)) = decide (a = b) := by
  induction a generalizing b with
  | nil => cases b with
    | nil => rfl
    | cons y b => simp at h
  | cons x a ih => cases b with
    | nil => simp at h
    | cons y b =>
      rw [List.zip_cons_cons, List.all_cons, ih (by simpa using h), Bool.eq_iff_iff]
      simp
theorem intsEq (a b : List Int) : lazarettoref04_Ints a b = some (decide (a = b)) := by
  unfold lazarettoref04_Ints
  by_cases h : a.length = b.length
  · have hz : (a.zip b).length = a.length := by simp [h]
    rw [if_pos (by omega), loop_all (xs := a.zip b) (p := fun p => decide (p.1 = p.2)) (a := .inl false) (b := .inr ()) (fun i hi => by
      have h1 : i < a.length := by omega
      have h2 : i < b.length := by omega
      by_cases e : a[i] = b[i] <;> simp [lazarettoref04_Ints_L1, h1, h2, e]) (by simp [lazarettoref04_Ints_L1, hz, h]), zip_all h]
    by_cases e : a = b <;> simp [e]
  · rw [if_neg (by omega)]
    have : a ≠ b := fun e => h (by rw [e])
    simp [this]
/-- May a type be? -/
def tOk (t : api_Type) : Prop := (1 ≤ t.Kind ∧ t.Kind ≤ 4) ∧ 0 ≤ t.Len ∧ t.Len ≤ 32 ∧ -32768 ≤ t.Low ∧ t.Low ≤ 32767 ∧ (t.Len = 0 → t.Low = 0)
instance (t : api_Type) : Decidable (tOk t) := by unfold tOk; exact inferInstance
theorem intsBits (k : Int) : ints_Bits k = some (if k = 1 then 1 else if k = 2 then 16 else if k = 3 then 32 else if k = 4 then 32 else 0) := by
  unfold ints_Bits; repeat' split
  all_goals rfl
theorem refBits (k : Int) : lazarettoref03_Bits k = some (if k = 1 then 1 else if k = 2 then 16 else if k = 3 then 32 else if k = 4 then 32 else 0) := by
  unfold lazarettoref03_Bits; repeat' split
  all_goals rfl
theorem cellsCheck (t : api_Type) : cells_Check t = some (if tOk t then 0 else 6) := by
  have hb : (if t.Kind = 1 then (1 : Int) else if t.Kind = 2 then 16 else if t.Kind = 3 then 32 else if t.Kind = 4 then 32 else 0) = 0 ↔ ¬ (1 ≤ t.Kind ∧ t.Kind ≤ 4) := by
    repeat' split
    all_goals omega
  unfold cells_Check
  simp only [intsBits, Option.bind_some]
  generalize (if t.Kind = 1 then (1 : Int) else if t.Kind = 2 then 16 else if t.Kind = 3 then 32 else if t.Kind = 4 then 32 else 0) = b at hb ⊢
  by_cases h : tOk t
  · unfold tOk at h
    rw [if_pos (show tOk t from h)]
    repeat' split
    all_goals first | rfl | (exfalso; omega)
  · rw [if_neg h]
    unfold tOk at h
    repeat' split
    all_goals first | rfl | (exfalso; omega)
theorem refCheck04 (t : api_Type) : lazarettoref04_Check t = some (if tOk t then 0 else 6) := by
  have hb : (if t.Kind = 1 then (1 : Int) else if t.Kind = 2 then 16 else if t.Kind = 3 then 32 else if t.Kind = 4 then 32 else 0) = 0 ↔ ¬ (1 ≤ t.Kind ∧ t.Kind ≤ 4) := by
    repeat' split
    all_goals omega
  unfold lazarettoref04_Check
  simp only [refBits, Option.bind_some]
  generalize (if t.Kind = 1 then (1 : Int) else if t.Kind = 2 then 16 else if t.Kind = 3 then 32 else if t.Kind = 4 then 32 else 0) = b at hb ⊢
  by_cases h : tOk t
  · unfold tOk at h
    rw [if_pos (show tOk t from h)]
    repeat' split
    all_goals first | rfl | (exfalso; omega)
  · rw [if_neg h]
    unfold tOk at h
    repeat' split
    all_goals first | rfl | (exfalso; omega)
/-- How many cells. -/
def sizeN (t : api_Type) : Nat := if tOk t then max t.Len.toNat 1 else 0
theorem cellsSize (t : api_Type) : cells_Size t = some (sizeN t : Int) := by
  unfold cells_Size sizeN
  rw [cellsCheck, Option.bind_some]
  by_cases h : tOk t
  · have := h.2.1
    simp only [h, if_true]; congr 1; omega
  · simp [h]
theorem refSize (t : api_Type) : lazarettoref04_Size t = some (sizeN t : Int) := by
  unfold lazarettoref04_Size sizeN
  rw [refCheck04, Option.bind_some]
  by_cases h : tOk t
  · have := h.2.1
    simp only [h, if_true]; congr 1; omega
  · simp [h]
theorem sizeN_le (t : api_Type) : sizeN t ≤ 32 := by
  unfold sizeN
  split
  · rename_i h; have := h.2.2.1; have := h.2.1; omega
  · omega
theorem cellsZero (t : api_Type) : cells_Zero t = some (List.replicate (sizeN t) 0) := by
  unfold cells_Zero
  have := sizeN_le t
  rw [cellsSize, Option.bind_some, need_of (by omega)]
  simp
theorem refZero (t : api_Type) : lazarettoref04_Zero t = some (List.replicate (sizeN t) 0) := by
  unfold lazarettoref04_Zero
  have := sizeN_le t
  rw [refSize, Option.bind_some, need_of (by omega)]
  simp
/-- An index's place. -/
def placeN (t : api_Type) (n : Nat) (i : Int) : Option Nat :=
  if tOk t ∧ n = sizeN t then (if t.Len = 0 then some 0 else if t.Low ≤ i ∧ i < t.Low + t.Len then some (i - t.Low).toNat else none) else none
theorem place_lt {t : api_Type} {n : Nat} {i : Int} {k : Nat} (h : placeN t n i = some k) : k < n := by
  unfold placeN at h
  split at h
  · rename_i h0
    obtain ⟨h1, h2⟩ := h0
    have h3 := h1.2.1
    have h4 : sizeN t = max t.Len.toNat 1 := by simp [sizeN, h1]
    split at h
    · cases h; omega
    · split at h
      · cases h; omega
      · cases h
  · cases h
theorem w64_id {n : Int} (h1 : -9223372036854775808 ≤ n) (h2 : n ≤ 9223372036854775807) : w64 n = n := by rw [w64_eq]; omega
theorem cellsPlace {t : api_Type} {l : List Int} {i : Int} : ∃ k b, cells_place t l i = some (k, b) ∧ (b = true → placeN t l.length i = some k.toNat ∧ 0 ≤ k) ∧ (b = false → placeN t l.length i = none) := by
  unfold cells_place
  rw [cellsCheck, cellsSize]
  simp only [Option.bind_some]
  by_cases h : tOk t
  case neg => exact ⟨0, false, by simp [h], by simp, fun _ => by simp [placeN, h]⟩
  by_cases h2 : l.length = sizeN t
  case neg => exact ⟨0, false, by simp only [h, if_true]; rw [if_neg (by omega)], by simp, fun _ => by simp [placeN, h2]⟩
  have a1 := h.2.1; have a2 := h.2.2.1; have a3 := h.2.2.2.1; have a4 := h.2.2.2.2.1
  by_cases h3 : t.Len = 0
  · exact ⟨0, true, by simp [h, h2, h3], fun _ => ⟨by simp [placeN, h, h2, h3], by omega⟩, by simp⟩
  by_cases h4 : t.Low ≤ i
  · have e : w64 (t.Low + t.Len) = t.Low + t.Len := w64_id (by omega) (by omega)
    by_cases h5 : i < t.Low + t.Len
    · have e2 : w64 (i - t.Low) = i - t.Low := w64_id (by omega) (by omega)
      exact ⟨i - t.Low, true, by simp [h, h2, h3, h4, e, e2, h5], fun _ => ⟨by simp [placeN, h, h2, h3, h4, h5], by omega⟩, by simp⟩
    · exact ⟨w64 (i - t.Low), false, by simp [h, h2, h3, h4, e, h5], by simp, fun _ => by simp [placeN, h, h2, h3, h5]⟩
  · exact ⟨w64 (i - t.Low), false, by simp [h, h2, h3, h4], by simp, fun _ => by simp [placeN, h, h2, h3, h4]⟩
theorem refPlace {t : api_Type} {l : List Int} {i : Int} : lazarettoref04_place t l i = some (match placeN t l.length i with | some k => (k : Int) | none => -1) := by
  unfold lazarettoref04_place placeN
  rw [refCheck04, refSize]
  simp only [Option.bind_some]
  by_cases h : tOk t
  case neg => simp [h]
  by_cases h2 : l.length = sizeN t
  case neg => simp only [h, if_true, h2, and_false, if_false]; rw [if_neg (by omega)]
  have a1 := h.2.1; have a2 := h.2.2.1; have a3 := h.2.2.2.1; have a4 := h.2.2.2.2.1
  by_cases h3 : t.Len = 0
  · simp [h, h2, h3]
  have e : w64 (t.Low + t.Len) = t.Low + t.Len := w64_id (by omega) (by omega)
  simp only [h, h2, h3, if_true, if_false, true_and, e]
  by_cases h4 : i < t.Low
  · have : ¬ (t.Low ≤ i ∧ i < t.Low + t.Len) := by omega
    simp [h4, this]
  by_cases h5 : t.Low + t.Len ≤ i
  · have : ¬ (t.Low ≤ i ∧ i < t.Low + t.Len) := by omega
    simp [h4, h5, this]
  · have h6 : t.Low ≤ i ∧ i < t.Low + t.Len := by omega
    have e2 : w64 (i - t.Low) = i - t.Low := w64_id (by omega) (by omega)
    simp only [h4, h5, if_false, if_pos h6, e2]
    congr 1; exact (Int.toNat_of_nonneg (by omega)).symm
def getN (t : api_Type) (l : List Int) (i : Int) : Int × Int := match placeN t l.length i with | some k => (l.getD k 0, 0) | none => (0, 2)
theorem cellsGet (t : api_Type) (l : List Int) (i : Int) : cells_Get t l i = some (getN t l i) := by
  unfold cells_Get getN
  obtain ⟨k, b, e, h1, h2⟩ := @cellsPlace t l i
  rw [e, Option.bind_some]
  cases b with
  | false => rw [h2 rfl]; simp
  | true =>
    obtain ⟨h3, h4⟩ := h1 rfl
    have := place_lt h3
    rw [h3]
    simp [idx, h4, this, List.getD_eq_getElem?_getD]
theorem refGet (t : api_Type) (l : List Int) (i : Int) : lazarettoref04_Get t l i = some (getN t l i) := by
  unfold lazarettoref04_Get getN
  rw [refPlace, Option.bind_some]
  cases h : placeN t l.length i with
  | none => simp
  | some k =>
    have := place_lt h
    simp [idx, this, List.getD_eq_getElem?_getD]
theorem refWrap (k n : Int) : lazarettoref03_Wrap k n = some (wrapS k n) := by
  have tm : ∀ m : Int, 0 < m → ∃ q, n = m * q + n.tmod m ∧ (0 ≤ n → 0 ≤ n.tmod m ∧ n.tmod m < m) ∧ (n ≤ 0 → -m < n.tmod m ∧ n.tmod m ≤ 0) := fun m hm => by
    refine ⟨n.tdiv m, (Int.mul_tdiv_add_tmod n m).symm, fun h => ⟨Int.tmod_nonneg _ h, Int.tmod_lt_of_pos _ hm⟩, fun h => ?_⟩
    have h1 : (-n).tmod m = - n.tmod m := Int.neg_tmod ..
    have h2 := Int.tmod_nonneg m (show 0 ≤ -n by omega)
    have h3 := Int.tmod_lt_of_pos (-n) hm
    omega
  unfold lazarettoref03_Wrap
  rw [refBits]
  simp only [Option.bind_some]
  rcases kinds k with rfl | rfl | rfl | rfl | ⟨h1, h2, h3, h4⟩
  · by_cases h : n = 0 <;> simp [h, wrap_1]
  · obtain ⟨q, h1, h2, h3⟩ := tm 65536 (by decide)
    simp only [lazarettoref03_half, wrap_2, show (w64 (2 * 32768)) = 65536 from rfl, show w64 (0 - 32768) = -32768 from rfl, if_true, Option.bind_some, show ((2 : Int) = 1) = False by simp, if_false, show ((16 : Int) = 0) = False by simp, need_of (show ¬ (65536 : Int) = 0 by decide)]
    generalize n.tmod 65536 = r at *
    simp only [w64_eq]
    repeat' split
    all_goals (congr 1; omega)
  · obtain ⟨q, h1, h2, h3⟩ := tm 4294967296 (by decide)
    simp only [lazarettoref03_half, wrap_3, show (w64 (2 * 2147483648)) = 4294967296 from rfl, show w64 (0 - 2147483648) = -2147483648 from rfl, if_true, Option.bind_some, show ((3 : Int) = 1) = False by simp, show ((3 : Int) = 2) = False by simp, if_false, show ((32 : Int) = 0) = False by simp, need_of (show ¬ (4294967296 : Int) = 0 by decide)]
    generalize n.tmod 4294967296 = r at *
    simp only [w64_eq]
    repeat' split
    all_goals (congr 1; omega)
  · obtain ⟨q, h1, h2, h3⟩ := tm 4294967296 (by decide)
    simp only [lazarettoref03_half, wrap_4, show (w64 (2 * 2147483648)) = 4294967296 from rfl, show w64 (0 - 2147483648) = -2147483648 from rfl, if_true, Option.bind_some, show ((4 : Int) = 1) = False by simp, show ((4 : Int) = 2) = False by simp, show ((4 : Int) = 3) = False by simp, if_false, show ((32 : Int) = 0) = False by simp, need_of (show ¬ (4294967296 : Int) = 0 by decide)]
    generalize n.tmod 4294967296 = r at *
    simp only [w64_eq]
    repeat' split
    all_goals (congr 1; omega)
  · simp [h1, h2, h3, h4, wrap_o h1 h2 h3 h4]
def setN (t : api_Type) (l : List Int) (i v : Int) : List Int × Int := match placeN t l.length i with | some k => (l.set k (wrapS t.Kind v), 0) | none => (l, 2)
theorem cellsSet (t : api_Type) {l : List Int} (hl : l.length ≤ 1000) (i v : Int) : cells_Set t l i v = some (setN t l i v) := by
  unfold cells_Set setN
  obtain ⟨k, b, e, h1, h2⟩ := @cellsPlace t l i
  rw [need_of (by omega), e, Option.bind_some]
  cases b with
  | false => rw [h2 rfl]; simp
  | true =>
    obtain ⟨h3, h4⟩ := h1 rfl
    have := place_lt h3
    rw [h3]
    simp [idx, h4, this, ints_Wrap]
theorem refSet (t : api_Type) {l : List Int} (hl : l.length ≤ 1000) (i v : Int) : lazarettoref04_Set t l i v = some (setN t l i v) := by
  unfold lazarettoref04_Set setN
  rw [refPlace, Option.bind_some]
  cases l with
  | nil =>
    cases h : placeN t ([] : List Int).length i with
    | none => simp
    | some k => have := place_lt h; simp at this
  | cons x xs =>
    generalize hx : x :: xs = l at *
    have he : l.isEmpty = false := by subst hx; rfl
    rw [he]
    simp only [Bool.false_eq_true, if_false]
    rw [need_of (by omega)]
    cases h : placeN t l.length i with
    | none => simp
    | some k =>
      have := place_lt h
      simp only [refWrap, Option.bind_some, idx_nat, List.getElem?_eq_getElem this, Int.toNat_natCast]
      rw [if_neg (by omega)]
theorem awake04 : lazarettolaw04_awake = some true := by
  unfold lazarettolaw04_awake
  simp only [cellsGet, cellsSet _ (show ([7, 8] : List Int).length ≤ 1000 by decide), cellsSize, cellsCheck, cellsZero, intsEq, Option.bind_some]
  have e1 : getN ⟨2, 5, 2⟩ [7, 8] 6 = (8, 0) := by decide
  have e2 : getN ⟨2, 5, 2⟩ [7, 8] 7 = (0, 2) := by decide
  have e3 : setN ⟨2, 5, 2⟩ [7, 8] 5 65537 = ([1, 8], 0) := by decide
  have e4 : sizeN ⟨2, 5, 2⟩ = 2 := by decide
  have e5 : tOk ⟨2, 5, 2⟩ := by decide
  simp [e1, e2, e3, e4, e5]
theorem typesLaw (t : api_Type) : lazarettolaw04_CellsTypes t = some true := by
  unfold lazarettolaw04_CellsTypes
  simp [cellsCheck, refCheck04, cellsSize, refSize, cellsZero, refZero, intsEq, awake04]
theorem getsLaw (t : api_Type) (l : List Int) (i : Int) : lazarettolaw04_CellsGets t l i = some true := by
  unfold lazarettolaw04_CellsGets
  simp [cellsGet, refGet, awake04]
theorem setsLaw (t : api_Type) (l : List Int) (n : A2 Int) : lazarettolaw04_CellsSets t l n = some true := by
  unfold lazarettolaw04_CellsSets
  by_cases h : 1000 < (l.length : Int)
  · simp [h, awake04]
  · simp [h, cellsSet t (show l.length ≤ 1000 by omega), refSet t (show l.length ≤ 1000 by omega), intsEq, awake04]
theorem place_zero {t : api_Type} {i : Int} : placeN t (sizeN t) i = if tOk t then (if t.Len = 0 then some 0 else if t.Low ≤ i ∧ i < t.Low + t.Len then some (i - t.Low).toNat else none) else none := by simp [placeN]
theorem backLaw (t : api_Type) (n : A3 Int) : lazarettolaw04_CellsBack t n = some true := by
  unfold lazarettolaw04_CellsBack
  have hs := sizeN_le t
  have hz : (List.replicate (sizeN t) (0 : Int)).length ≤ 1000 := by simp; omega
  simp only [cellsZero, cellsSet t hz, cellsGet, Option.bind_some, awake04, intsEq]
  unfold setN
  rw [List.length_replicate]
  cases h : placeN t (sizeN t) n.a0 with
  | none => simp [getN, h]
  | some k =>
    have hk := place_lt h
    have hg : ∀ i, getN t ((List.replicate (sizeN t) 0).set k (wrapS t.Kind n.a1)) i = match placeN t (sizeN t) i with | some j => (if k = j then wrapS t.Kind n.a1 else 0, 0) | none => (0, 2) := by
      intro i
      unfold getN
      rw [List.length_set, List.length_replicate]
      cases hi : placeN t (sizeN t) i with
      | none => rfl
      | some j =>
        have hj := place_lt hi
        by_cases e : k = j
        · subst e; simp [List.getD_eq_getElem?_getD, hj]
        · simp [List.getD_eq_getElem?_getD, List.getElem?_set_ne e, hj, e]
    simp only [hg, h, if_true, List.length_set, List.length_replicate]
    by_cases e : n.a2 = n.a0
    · simp [e, h]
    · simp only [e, if_false]
      cases h2 : placeN t (sizeN t) n.a2 with
      | none => simp
      | some j =>
        by_cases hl : t.Len = 0
        · simp [hl]
        · have hne : ¬ k = j := by
            rw [place_zero] at h h2
            split at h
            · rename_i ho
              simp only [ho, hl, if_true, if_false] at h h2
              split at h
              · split at h2
                · cases h; cases h2; omega
                · cases h2
              · cases h
            · cases h
          simp [hl, hne]
theorem allLaw (t : api_Type) (i : Int) : lazarettolaw04_CellsAll t i = some true := by
  unfold lazarettolaw04_CellsAll
  simp only [cellsZero, cellsGet, refCheck04, awake04, Option.bind_some]
  unfold getN
  rw [List.length_replicate, place_zero]
  by_cases h : tOk t
  case neg => simp [h]
  have a1 := h.2.1; have a2 := h.2.2.1; have a3 := h.2.2.2.1; have a4 := h.2.2.2.2.1
  by_cases h3 : t.Len = 0
  · simp [h, h3]
  have e : w64 (t.Low + t.Len) = t.Low + t.Len := w64_id (by omega) (by omega)
  by_cases h4 : t.Low ≤ i
  · by_cases h5 : i < t.Low + t.Len
    · simp [h, h3, h4, h5, e]
    · simp [h, h3, h4, h5, e]
  · simp [h, h3, h4]
end Go.Lz
