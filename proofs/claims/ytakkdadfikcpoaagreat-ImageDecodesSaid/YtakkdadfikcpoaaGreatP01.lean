
/- P01: the laws of the lattice in plain words. -/
import Derived.Test.YtakkdadfikcpoaaGreatPLat
namespace Go.Lz
set_option linter.unusedVariables false
set_option linter.unusedSimpArgs false
/-! The check. -/
def edgeOk (l : api_Lattice) (e : A2 Int) : Bool := decide (inN l e.a0) && decide (inN l e.a1)
noncomputable def pairBad (l : api_Lattice) (a b : Nat) : Bool := (leqN l a b && leqN l b a) || decide (joinN l a b < 0) || decide (meetN l a b < 0)
noncomputable def nodeBad (l : api_Lattice) (a : Nat) : Bool := decide (l.Names.getD a [] = []) || (List.range a).any fun b => decide (l.Names.getD b [] = l.Names.getD a []) || pairBad l a b
noncomputable def checkN (l : api_Lattice) : Int :=
  if l.Names.length < 1 then 3 else if 8 < l.Names.length then 3 else if l.Below.all (edgeOk l) then (if (List.range l.Names.length).any (nodeBad l) then 4 else 0) else 4
theorem elim_any {ρ : Type} {p : Nat → Bool} {a b : ρ} (xs : List Nat) : (xs.find? p).elim a (fun _ => b) = if xs.any p then b else a := by
  induction xs with
  | nil => rfl
  | cons x xs ih =>
    rw [List.find?_cons, List.any_cons]
    cases p x with
    | true => rfl
    | false => simpa using ih
theorem any_range {α : Type} {p : α → Bool} {xs : List α} {d : α} : (List.range xs.length).any (fun i => p (xs.getD i d)) = xs.any p := by
  rw [Bool.eq_iff_iff, List.any_eq_true, List.any_eq_true]
  constructor
  · rintro ⟨i, hi, h⟩
    have hi : i < xs.length := by simpa using hi
    refine ⟨xs[i], List.getElem_mem hi, ?_⟩
    simpa [List.getD_eq_getElem?_getD, hi] using h
  · rintro ⟨x, hx, h⟩
    obtain ⟨i, hi⟩ := List.getElem?_of_mem hx
    have hl := (List.getElem?_eq_some_iff.1 hi).1
    exact ⟨i, by simpa using hl, by simp [List.getD_eq_getElem?_getD, hi, h]⟩
theorem refCheck {l : api_Lattice} : lazarettoref01_Check l = some (checkN l) := by
  unfold lazarettoref01_Check checkN
  by_cases h1 : l.Names.length < 1
  · rw [if_pos (by omega), if_pos h1]
  by_cases h2 : 8 < l.Names.length
  · rw [if_neg (by omega), if_pos (by omega), if_neg h1, if_pos h2]
  have hn : l.Names.length ≤ 1000000 := by omega
  rw [if_neg (by omega), if_neg (by omega), if_neg h1, if_neg h2]
  have k1 := loop_first (f := lazarettoref01_Check_L1 l) l.Below.length (fun i => !edgeOk l (l.Below.getD i ⟨0, 0⟩)) (fun _ => .inl 4) (.inr ()) (by
    intro i hi
    simp only [lazarettoref01_Check_L1, Int.ofNat_lt, hi, if_true, List.getElem?_eq_getElem hi, Option.bind_some, refIs, edgeOk, List.getD_eq_getElem?_getD, Option.getD_some, decide_eq_true_eq]
    by_cases c1 : inN l l.Below[i].a0 <;> by_cases c2 : inN l l.Below[i].a1 <;> simp [c1, c2]) (by simp [lazarettoref01_Check_L1])
  have k3 : ∀ a : Nat, a < l.Names.length → loop (lazarettoref01_Check_L3 l a (l.Names.getD a [])) 0 = some (if (List.range a).any fun b => decide (l.Names.getD b [] = l.Names.getD a []) || pairBad l a b then .inl 4 else .inr ()) := by
    intro a ha
    have k := loop_first (f := lazarettoref01_Check_L3 l a (l.Names.getD a [])) a (fun b => decide (l.Names.getD b [] = l.Names.getD a []) || pairBad l a b) (fun _ => .inl 4) (.inr ()) (by
      intro b hb
      have hbl : b < l.Names.length := by omega
      have eb : l.Names[b]? = some (l.Names.getD b []) := by simp [List.getD_eq_getElem?_getD, hbl]
      simp only [lazarettoref01_Check_L3, Int.ofNat_lt, hb, if_true, eb, Option.bind_some, refLeq hn, refJoin hn, refMeet hn, pairBad]
      generalize l.Names.getD a [] = na
      generalize l.Names.getD b [] = nb
      by_cases c0 : na = nb
      · subst c0; simp
      · have c0' : ¬ nb = na := fun h => c0 h.symm
        by_cases c1 : joinN l a b < 0 <;> by_cases c2 : meetN l a b < 0 <;> rcases Bool.eq_false_or_eq_true (leqN l a b) with c3 | c3 <;> rcases Bool.eq_false_or_eq_true (leqN l b a) with c4 | c4 <;> simp [c0, c0', c1, c2, c3, c4]) (by simp [lazarettoref01_Check_L3])
    rw [k, elim_any]
  have k2 := loop_first (f := lazarettoref01_Check_L2 l) l.Names.length (nodeBad l) (fun _ => .inl 4) (.inr ()) (by
    intro a ha
    have ea : l.Names[a]? = some (l.Names.getD a []) := by simp [List.getD_eq_getElem?_getD, ha]
    simp only [lazarettoref01_Check_L2, Int.ofNat_lt, ha, if_true, ea, Option.bind_some, k3 a ha]
    by_cases c0 : l.Names.getD a [] = []
    · have hb : nodeBad l a = true := by unfold nodeBad; rw [decide_eq_true c0]; rfl
      rw [if_pos c0, if_pos hb]
    · have hb : nodeBad l a = (List.range a).any fun b => decide (l.Names.getD b [] = l.Names.getD a []) || pairBad l a b := by unfold nodeBad; rw [decide_eq_false c0, Bool.false_or]
      rw [if_neg c0, ← hb]
      rcases Bool.eq_false_or_eq_true (nodeBad l a) with c1 | c1 <;> simp [c1]) (by simp [lazarettoref01_Check_L2])
  rw [k1, k2, elim_any, elim_any, any_range (p := fun e => !edgeOk l e)]
  simp only [Option.bind_some]
  have e1 : l.Below.any (fun e => !edgeOk l e) = !l.Below.all (edgeOk l) := by rw [List.all_eq_not_any_not]; simp
  rw [e1]
  cases l.Below.all (edgeOk l) <;> cases (List.range l.Names.length).any (nodeBad l) <;> rfl
noncomputable def seenN (l : api_Lattice) (i : Nat) : List (Str × Bool) := (List.range i).foldl (fun s b => mset (l.Names.getD b []) true s) (mset [] true [])
theorem seen_get (l : api_Lattice) (k : Str) : ∀ i, (mget k (seenN l i)).getD false = (decide (k = []) || (List.range i).any fun b => decide (l.Names.getD b [] = k))
  | 0 => by
    by_cases h : k = []
    · subst h; simp [seenN, mget_same]
    · simp [seenN, mget_other h, mget, h]
  | i + 1 => by
    have e : seenN l (i + 1) = mset (l.Names.getD i []) true (seenN l i) := by simp [seenN, List.range_succ]
    rw [e, List.range_succ, List.any_append]
    by_cases h : k = l.Names.getD i []
    · subst h; rw [mget_same]; simp
    · rw [mget_other h, seen_get l k i]
      have h' : ¬ l.Names.getD i [] = k := fun h2 => h h2.symm
      rw [List.any_cons, decide_eq_false h', List.any_nil]
      simp
theorem latCheck {l : api_Lattice} : lattice_Check l = some (checkN l) := by
  unfold lattice_Check checkN
  by_cases h1 : l.Names.length < 1
  · rw [if_pos (by omega), if_pos h1]
  by_cases h2 : 8 < l.Names.length
  · rw [if_neg (by omega), if_pos (by omega), if_neg h1, if_pos h2]
  have hn : l.Names.length ≤ 1000000 := by omega
  rw [if_neg (by omega), if_neg (by omega), if_neg h1, if_neg h2]
  have k1 := loop_first (f := lattice_Check_L1 l) l.Below.length (fun i => !edgeOk l (l.Below.getD i ⟨0, 0⟩)) (fun _ => .inl 4) (.inr ()) (by
    intro i hi
    simp only [lattice_Check_L1, Int.ofNat_lt, hi, if_true, List.getElem?_eq_getElem hi, Option.bind_some, latIs, edgeOk, List.getD_eq_getElem?_getD, Option.getD_some, decide_eq_true_eq]
    by_cases c1 : inN l l.Below[i].a0 <;> by_cases c2 : inN l l.Below[i].a1 <;> simp [c1, c2]) (by simp [lattice_Check_L1])
  have k3 : ∀ a : Nat, a < l.Names.length → loop (lattice_Check_L3 l a) 0 = some (if (List.range a).any fun b => pairBad l a b then .inl 4 else .inr ()) := by
    intro a ha
    have k := loop_first (f := lattice_Check_L3 l a) a (fun b => pairBad l a b) (fun _ => .inl 4) (.inr ()) (by
      intro b hb
      simp only [lattice_Check_L3, Int.ofNat_lt, hb, if_true, Option.bind_some, latLeq hn, latJoin hn, latMeet hn, pairBad]
      by_cases c1 : joinN l a b < 0 <;> by_cases c2 : meetN l a b < 0 <;> rcases Bool.eq_false_or_eq_true (leqN l a b) with c3 | c3 <;> rcases Bool.eq_false_or_eq_true (leqN l b a) with c4 | c4 <;> simp [c1, c2, c3, c4]) (by simp [lattice_Check_L3])
    rw [k, elim_any]
  have k2 := loop_firstS (f := lattice_Check_L2 l) (fun i => (seenN l i, i)) l.Names.length (nodeBad l) (fun _ => .inl 4) (.inr (seenN l l.Names.length)) (by
    intro a ha
    have ea : l.Names[a]? = some (l.Names.getD a []) := by simp [List.getD_eq_getElem?_getD, ha]
    have es : seenN l (a + 1) = mset (l.Names.getD a []) true (seenN l a) := by simp [seenN, List.range_succ]
    have hb : nodeBad l a = ((decide (l.Names.getD a [] = []) || (List.range a).any fun b => decide (l.Names.getD b [] = l.Names.getD a [])) || (List.range a).any fun b => pairBad l a b) := by
      unfold nodeBad
      rw [Bool.or_assoc]
      congr 1
      induction List.range a with
      | nil => rfl
      | cons x xs ih => simp only [List.any_cons, ih]; simp only [Bool.or_assoc, Bool.or_left_comm]
    simp only [lattice_Check_L2, Int.ofNat_lt, ha, if_true, ea, Option.bind_some, seen_get, k3 a ha, es]
    rcases Bool.eq_false_or_eq_true (decide (l.Names.getD a [] = []) || (List.range a).any fun b => decide (l.Names.getD b [] = l.Names.getD a [])) with c1 | c1
    · rw [c1, Bool.true_or] at hb
      rw [if_pos c1, if_pos hb]
    · rw [c1, Bool.false_or] at hb
      rw [if_neg (by rw [c1]; simp), ← hb]
      rcases Bool.eq_false_or_eq_true (nodeBad l a) with c2 | c2 <;> simp [c2]) (by simp [lattice_Check_L2])
  have e0 : (mset [] true ([] : List (Str × Bool)), 0) = (seenN l 0, 0) := rfl
  rw [k1, e0, k2, elim_any, elim_any, any_range (p := fun e => !edgeOk l e)]
  simp only [Option.bind_some]
  have e1 : l.Below.any (fun e => !edgeOk l e) = !l.Below.all (edgeOk l) := by rw [List.all_eq_not_any_not]; simp
  rw [e1]
  cases l.Below.all (edgeOk l) <;> cases (List.range l.Names.length).any (nodeBad l) <;> rfl
end Go.Lz
