
/- P01: the laws of the lattice in plain words. -/
import Derived.Test.YtefnllpnodnimaaPLat
namespace Go.Lz
set_option linter.unusedVariables false
set_option linter.unusedSimpArgs false
theorem best_eq {n : Nat} {o o' : Nat → Bool} {ah ah' : Nat → Nat → Bool} (h1 : ∀ x, x < n → o x = o' x) (h2 : ∀ x y, x < n → y < n → ah x y = ah' x y) : bestN n o ah = bestN n o' ah' := by
  unfold bestN
  congr 1
  have : ∀ (xs : List Nat), (∀ x ∈ xs, x < n) → xs.find? (fun x => o x && (List.range n).all fun y => !o y || ah x y) = xs.find? (fun x => o' x && (List.range n).all fun y => !o' y || ah' x y) := by
    intro xs
    induction xs with
    | nil => intro _; rfl
    | cons x xs ih =>
      intro h
      have hx := h x (by simp)
      rw [List.find?_cons, List.find?_cons, ih (fun y hy => h y (by simp [hy])), h1 x hx]
      have : ((List.range n).all fun y => !o y || ah x y) = (List.range n).all fun y => !o' y || ah' x y := by
        rw [Bool.eq_iff_iff, List.all_eq_true, List.all_eq_true]
        constructor
        · intro hh y hy; have := hh y hy; rw [h1 y (by simpa using hy), h2 x y hx (by simpa using hy)] at this; exact this
        · intro hh y hy; have := hh y hy; rw [← h1 y (by simpa using hy), ← h2 x y hx (by simpa using hy)] at this; exact this
      rw [this]
  exact this _ (fun x hx => by simpa using hx)
/-! The check. -/
def edgeOk (l : api_Lattice) (e : A2 Int) : Bool := decide (inN l e.a0) && decide (inN l e.a1)
noncomputable def pairBad (l : api_Lattice) (a b : Nat) : Bool := (leqN l a b && leqN l b a) || decide (joinN l a b < 0) || decide (meetN l a b < 0)
noncomputable def nodeBad (l : api_Lattice) (a : Nat) : Bool := decide (l.Names.getD a [] = []) || (List.range a).any fun b => decide (l.Names.getD b [] = l.Names.getD a []) || pairBad l a b
noncomputable def checkN (l : api_Lattice) : Int :=
  if l.Names.length < 1 then 3 else if 8 < l.Names.length then 3 else if l.Below.all (edgeOk l) then (if (List.range l.Names.length).any (nodeBad l) then 4 else 0) else 4
theorem elim_any {ρ : Type} {p : Nat → Bool} {a b : ρ} (xs : List Nat) : (xs.find? p).elim a (fun _ => b) = if xs.any p then b else a := by
  induction xs with
  | nil => rfl
  | cons x xs ih =>
    rw [List.find?_cons, List.any_cons]
    cases p x with
    | true => rfl
    | false => simpa using ih
theorem any_range {α : Type} {p : α → Bool} {xs : List α} {d : α} : (List.range xs.length).any (fun i => p (xs.getD i d)) = xs.any p := by
  rw [Bool.eq_iff_iff, List.any_eq_true, List.any_eq_true]
  constructor
  · rintro ⟨i, hi, h⟩
    have hi : i < xs.length := by simpa using hi
    refine ⟨xs[i], List.getElem_mem hi, ?_⟩
    simpa [List.getD_eq_getElem?_getD, hi] using h
  · rintro ⟨x, hx, h⟩
    obtain ⟨i, hi⟩ := List.getElem?_of_mem hx
    have hl := (List.getElem?_eq_some_iff.1 hi).1
    exact ⟨i, by simpa using hl, by simp [List.getD_eq_getElem?_getD, hi, h]⟩
theorem refCheck {l : api_Lattice} : lazarettoref01_Check l = some (checkN l) := by
  unfold lazarettoref01_Check checkN
  by_cases h1 : l.Names.length < 1
  · rw [if_pos (by omega), if_pos h1]
  by_cases h2 : 8 < l.Names.length
  · rw [if_neg (by omega), if_pos (by omega), if_neg h1, if_pos h2]
  have hn : l.Names.length ≤ 1000000 := by omega
  rw [if_neg (by omega), if_neg (by omega), if_neg h1, if_neg h2]
  have k1 := loop_first (f := lazarettoref01_Check_L1 l) l.Below.length (fun i => !edgeOk l (l.Below.getD i ⟨0, 0⟩)) (fun _ => .inl 4) (.inr ()) (by
    intro i hi
    simp only [lazarettoref01_Check_L1, Int.ofNat_lt, hi, if_true, List.getElem?_eq_getElem hi, Option.bind_some, refIs, edgeOk, List.getD_eq_getElem?_getD, Option.getD_some, decide_eq_true_eq]
    by_cases c1 : inN l l.Below[i].a0 <;> by_cases c2 : inN l l.Below[i].a1 <;> simp [c1, c2]) (by simp [lazarettoref01_Check_L1])
  have k3 : ∀ a : Nat, a < l.Names.length → loop (lazarettoref01_Check_L3 l a (l.Names.getD a [])) 0 = some (if (List.range a).any fun b => decide (l.Names.getD b [] = l.Names.getD a []) || pairBad l a b then .inl 4 else .inr ()) := by
    intro a ha
    have k := loop_first (f := lazarettoref01_Check_L3 l a (l.Names.getD a [])) a (fun b => decide (l.Names.getD b [] = l.Names.getD a []) || pairBad l a b) (fun _ => .inl 4) (.inr ()) (by
      intro b hb
      have hbl : b < l.Names.length := by omega
      have eb : l.Names[b]? = some (l.Names.getD b []) := by simp [List.getD_eq_getElem?_getD, hbl]
      simp only [lazarettoref01_Check_L3, Int.ofNat_lt, hb, if_true, eb, Option.bind_some, refLeq hn, refJoin hn, refMeet hn, pairBad]
      generalize l.Names.getD a [] = na
      generalize l.Names.getD b [] = nb
      by_cases c0 : na = nb
      · subst c0; simp
      · have c0' : ¬ nb = na := fun h => c0 h.symm
        by_cases c1 : joinN l a b < 0 <;> by_cases c2 : meetN l a b < 0 <;> rcases Bool.eq_false_or_eq_true (leqN l a b) with c3 | c3 <;> rcases Bool.eq_false_or_eq_true (leqN l b a) with c4 | c4 <;> simp [c0, c0', c1, c2, c3, c4]) (by simp [lazarettoref01_Check_L3])
    rw [k, elim_any]
  have k2 := loop_first (f := lazarettoref01_Check_L2 l) l.Names.length (nodeBad l) (fun _ => .inl 4) (.inr ()) (by
    intro a ha
    have ea : l.Names[a]? = some (l.Names.getD a []) := by simp [List.getD_eq_getElem?_getD, ha]
    simp only [lazarettoref01_Check_L2, Int.ofNat_lt, ha, if_true, ea, Option.bind_some, k3 a ha]
    by_cases c0 : l.Names.getD a [] = []
    · have hb : nodeBad l a = true := by unfold nodeBad; rw [decide_eq_true c0]; rfl
      rw [if_pos c0, if_pos hb]
    · have hb : nodeBad l a = (List.range a).any fun b => decide (l.Names.getD b [] = l.Names.getD a []) || pairBad l a b := by unfold nodeBad; rw [decide_eq_false c0, Bool.false_or]
      rw [if_neg c0, ← hb]
      rcases Bool.eq_false_or_eq_true (nodeBad l a) with c1 | c1 <;> simp [c1]) (by simp [lazarettoref01_Check_L2])
  rw [k1, k2, elim_any, elim_any, any_range (p := fun e => !edgeOk l e)]
  simp only [Option.bind_some]
  have e1 : l.Below.any (fun e => !edgeOk l e) = !l.Below.all (edgeOk l) := by rw [List.all_eq_not_any_not]; simp
  rw [e1]
  cases l.Below.all (edgeOk l) <;> cases (List.range l.Names.length).any (nodeBad l) <;> rfl
end Go.Lz
