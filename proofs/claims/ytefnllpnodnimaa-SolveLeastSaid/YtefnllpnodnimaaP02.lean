/- P02: the laws of the constraints: the program's answer is the law's, and it is the least. -/
import Derived.Test.YtefnllpnodnimaaP01c
import Derived.Test.YtefnllpnodnimaaLp3
namespace Go.Lz
set_option linter.unusedVariables false
set_option linter.unusedSimpArgs false
/-- A walk over a list whose state is a function of the place, with an early end. -/
theorem loop_path {α τ ρ : Type} {xs : List α} {S : Nat → τ} {p : α → Bool} {a b : ρ} {f : τ → Option (τ ⊕ ρ)} (step : ∀ i (h : i < xs.length), f (S i) = some (if p xs[i] then .inl (S (i + 1)) else .inr a)) (last : f (S xs.length) = some (.inr b)) :
    loop f (S 0) = some (if xs.all p then b else a) := by
  have key : ∀ k i, xs.length - i = k → i ≤ xs.length → loop f (S i) = some (if (xs.drop i).all p then b else a) := by
    intro k
    induction k with
    | zero =>
      intro i hk hi
      have : i = xs.length := by omega
      subst this
      rw [loop_inr last, List.drop_length]; rfl
    | succ k ih =>
      intro i hk hi
      have hi' : i < xs.length := by omega
      have hs := step i hi'
      rw [drop_cons hi', List.all_cons]
      cases hp : p xs[i] with
      | true => rw [hp] at hs; rw [loop_inl hs, ih (i + 1) (by omega) (by omega)]; rfl
      | false => rw [hp] at hs; rw [loop_inr hs]; rfl
  exact key _ 0 rfl (Nat.zero_le _)
def inR (n : Nat) (i : Int) : Bool := decide (0 ≤ i) && decide (i < (n : Int))
theorem inR_iff {n : Nat} {i : Int} : inR n i = true ↔ 0 ≤ i ∧ i < (n : Int) := by simp [inR]
theorem idx_in {xs : List Int} {i : Int} (h : inR xs.length i = true) : idx xs i = some (xs.getD i.toNat 0) := by
  have := inR_iff.1 h
  unfold idx
  rw [if_pos this.1, List.getElem?_eq_getElem (by omega)]
  simp [List.getD_eq_getElem?_getD, List.getElem?_eq_getElem (show i.toNat < xs.length by omega)]
theorem ints02 (a b : List Int) (h : a = b) : lazarettoref02_Ints a b = some true := by
  subst h
  unfold lazarettoref02_Ints
  rw [if_pos rfl, loop_all (xs := a) (p := fun _ => true) (a := (.inl false : Bool ⊕ Unit)) (b := .inr ()) (fun i hi => by simp [lazarettoref02_Ints_L1, hi]) (by simp [lazarettoref02_Ints_L1])]
  simp
theorem rowAt (out : List Int) (i : Int) : solve_row_int_at ⟨out⟩ i = some (if inR out.length i then (out.getD i.toNat 0, true) else (0, false)) := by
  unfold solve_row_int_at
  by_cases h1 : i < 0
  · have : inR out.length i = false := by cases h : inR out.length i with | false => rfl | true => have := inR_iff.1 h; omega
    simp [h1, this]
  by_cases h2 : (out.length : Int) ≤ i
  · have : inR out.length i = false := by cases h : inR out.length i with | false => rfl | true => have := inR_iff.1 h; omega
    simp [h1, h2, this]
  · have : inR out.length i = true := inR_iff.2 ⟨by omega, by omega⟩
    simp [h1, h2, this, idx_in this]
noncomputable def holdsN (l : api_Lattice) (labels : List Int) (rules : List (A2 Int)) : Bool := rules.all fun r => inR labels.length r.a0 && inR labels.length r.a1 && leqN l (labels.getD r.a0.toNat 0) (labels.getD r.a1.toNat 0)
theorem solveHolds {l : api_Lattice} (hn : l.Names.length ≤ 1000000) (labels : List Int) (rules : List (A2 Int)) : solve_Holds l labels rules = some (holdsN l labels rules) := by
  unfold solve_Holds holdsN
  rw [loop_all (xs := rules) (p := fun r => inR labels.length r.a0 && inR labels.length r.a1 && leqN l (labels.getD r.a0.toNat 0) (labels.getD r.a1.toNat 0)) (a := (.inl false : Bool ⊕ Unit)) (b := .inr ()) (fun i hi => by
    simp only [solve_Holds_L1, Int.ofNat_lt, hi, if_true, List.getElem?_eq_getElem hi, Option.bind_some, rowAt]
    cases inR labels.length rules[i].a0 <;> cases inR labels.length rules[i].a1 <;> simp [latLeq hn]
    split <;> rfl) (by simp [solve_Holds_L1])]
  cases rules.all fun r => inR labels.length r.a0 && inR labels.length r.a1 && leqN l (labels.getD r.a0.toNat 0) (labels.getD r.a1.toNat 0) <;> rfl
theorem inR_neg {n : Nat} {i : Int} : inR n i = false ↔ i < 0 ∨ (n : Int) ≤ i := by
  rw [← Bool.not_eq_true, inR_iff]; omega
theorem refHolds {l : api_Lattice} (hn : l.Names.length ≤ 1000000) (labels : List Int) (rules : List (A2 Int)) : lazarettoref02_Holds l labels rules = some (holdsN l labels rules) := by
  unfold lazarettoref02_Holds holdsN
  rw [loop_all (xs := rules) (p := fun r => inR labels.length r.a0 && inR labels.length r.a1 && leqN l (labels.getD r.a0.toNat 0) (labels.getD r.a1.toNat 0)) (a := (.inl false : Bool ⊕ Unit)) (b := .inr ()) (fun i hi => by
    simp only [lazarettoref02_Holds_L1, Int.ofNat_lt, hi, if_true, List.getElem?_eq_getElem hi, Option.bind_some]
    cases h0 : inR labels.length rules[i].a0 with
    | false =>
      by_cases c : rules[i].a0 < 0
      · simp [c]
      · have : (labels.length : Int) ≤ rules[i].a0 := by have := inR_neg.1 h0; omega
        simp [c, this]
    | true =>
      have c0 := inR_iff.1 h0
      rw [if_neg (by omega), if_neg (by omega)]
      cases h1 : inR labels.length rules[i].a1 with
      | false =>
        by_cases c : rules[i].a1 < 0
        · simp [c]
        · have : (labels.length : Int) ≤ rules[i].a1 := by have := inR_neg.1 h1; omega
          simp [c, this]
      | true =>
        have c1 := inR_iff.1 h1
        rw [if_neg (by omega), if_neg (by omega), idx_in h0, idx_in h1]
        simp [refLeq hn]
        split <;> rfl) (by simp [lazarettoref02_Holds_L1])]
  cases rules.all fun r => inR labels.length r.a0 && inR labels.length r.a1 && leqN l (labels.getD r.a0.toNat 0) (labels.getD r.a1.toNat 0) <;> rfl
/-! All, Up, Down. -/
theorem keepEq {l : api_Lattice} {p : Nat → Bool} {f : List Int × Nat → Option ((List Int × Nat) ⊕ List Int)} (hn : l.Names.length ≤ 1000000)
    (hf : ∀ out i, f (out, i) = if (i : Int) < (l.Names.length : Int) then (if p i = true then need ((out.length + 1) * 8 ≤ 140737488355328) (some (.inl (out ++ [(i : Int)], i + 1))) else some (.inl (out, i + 1))) else some (.inr out)) : ∃ r, loop f ([], 0) = some r := by
  obtain ⟨r, e, _⟩ := loop_inv (f := f) (fun s => s.2 ≤ l.Names.length ∧ s.1.length ≤ s.2) (fun _ => True) (fun s => l.Names.length - s.2) (by
    rintro ⟨out, i⟩ ⟨h1, h2⟩
    dsimp only at h1 h2
    rw [hf]
    by_cases hi : i < l.Names.length
    · left
      rw [if_pos (by omega)]
      cases p i with
      | true => exact ⟨_, by rw [if_pos rfl, need_of (by omega)], ⟨by dsimp only; omega, by simp; omega⟩, by dsimp only; omega⟩
      | false => exact ⟨_, by rw [if_neg (by simp)], ⟨by dsimp only; omega, by dsimp only; omega⟩, by dsimp only; omega⟩
    · right
      exact ⟨out, by rw [if_neg (by omega)], trivial⟩) ([], 0) ⟨Nat.zero_le _, Nat.zero_le _⟩
  exact ⟨r, e⟩
theorem upEq {l : api_Lattice} (hn : l.Names.length ≤ 1000000) (a : Int) : ∃ r, solve_Up l a = some r ∧ lazarettoref02_Up l a = some r := by
  have e : solve_keep_L1 l (solve_Up_1 l a) = lazarettoref02_Up_L1 l a := by
    funext s
    obtain ⟨out, i⟩ := s
    simp [solve_keep_L1, lazarettoref02_Up_L1, solve_Up_1, latLeq hn, refLeq hn]
  obtain ⟨r, hr⟩ := keepEq (l := l) (p := fun i => leqN l a i) (f := lazarettoref02_Up_L1 l a) hn (fun out i => by simp [lazarettoref02_Up_L1, refLeq hn])
  exact ⟨r, by unfold solve_Up solve_keep; rw [e, hr]; rfl, by unfold lazarettoref02_Up; rw [hr]; rfl⟩
theorem downEq {l : api_Lattice} (hn : l.Names.length ≤ 1000000) (a : Int) : ∃ r, solve_Down l a = some r ∧ lazarettoref02_Down l a = some r := by
  have e : solve_keep_L1 l (solve_Down_1 l a) = lazarettoref02_Down_L1 l a := by
    funext s
    obtain ⟨out, i⟩ := s
    simp [solve_keep_L1, lazarettoref02_Down_L1, solve_Down_1, latLeq hn, refLeq hn]
  obtain ⟨r, hr⟩ := keepEq (l := l) (p := fun i => leqN l i a) (f := lazarettoref02_Down_L1 l a) hn (fun out i => by simp [lazarettoref02_Down_L1, refLeq hn])
  exact ⟨r, by unfold solve_Down solve_keep; rw [e, hr]; rfl, by unfold lazarettoref02_Down; rw [hr]; rfl⟩
theorem allEq {l : api_Lattice} (hn : l.Names.length ≤ 1000000) (xs : List Int) : ∃ r, solve_All l xs = some r ∧ lazarettoref02_All l xs = some r := by
  have e : solve_All_L1 l xs = lazarettoref02_All_L1 l xs := by
    funext s
    obtain ⟨a, i⟩ := s
    simp only [solve_All_L1, lazarettoref02_All_L1, latJoin hn, refJoin hn, refIs, Option.bind_some, decide_eq_true_eq]
    by_cases hi : (i : Int) < (xs.length : Int)
    · have hi' : i < xs.length := by omega
      simp only [hi, if_true, List.getElem?_eq_getElem hi', Option.bind_some]
      by_cases h1 : a < 0
      · simp [h1]
      · by_cases h2 : xs[i] < 0
        · have : ¬ inN l xs[i] := fun h => by have := h.1; omega
          simp [h1, h2, this]
        · by_cases h3 : (l.Names.length : Int) ≤ xs[i]
          · have : ¬ inN l xs[i] := fun h => by have := h.2; omega
            simp [h1, h2, h3, this]
          · have : inN l xs[i] := ⟨by omega, by omega⟩
            simp [h1, h2, h3, this]
    · simp [hi]
  have ht : ∀ b : Int, ∃ r, loop (lazarettoref02_All_L1 l xs) (b, 0) = some r := fun b => by
    obtain ⟨r, e, _⟩ := loop_inv (f := lazarettoref02_All_L1 l xs) (fun s => s.2 ≤ xs.length) (fun _ => True) (fun s => xs.length - s.2) (by
      rintro ⟨a, i⟩ h1
      dsimp only at h1
      simp only [lazarettoref02_All_L1, refJoin hn, refIs, Option.bind_some, decide_eq_true_eq]
      by_cases hi : i < xs.length
      · simp only [show (i : Int) < (xs.length : Int) by omega, if_true, List.getElem?_eq_getElem hi, Option.bind_some]
        by_cases h1 : a < 0
        · right; exact ⟨_, by rw [if_pos h1], trivial⟩
        · rw [if_neg h1]
          by_cases h2 : inN l xs[i]
          · left; exact ⟨_, by rw [if_pos h2], by dsimp only; omega, by dsimp only; omega⟩
          · right; exact ⟨_, by rw [if_neg h2], trivial⟩
      · right; exact ⟨_, by rw [if_neg (by omega)], trivial⟩) (b, 0) (Nat.zero_le _)
    exact ⟨r, e⟩
  unfold solve_All lazarettoref02_All
  rw [latBottom hn, refBottom hn, e]
  obtain ⟨r, hr⟩ := ht (bottomN l)
  simp only [Option.bind_some, hr]
  cases r with
  | inl a => exact ⟨a, rfl, rfl⟩
  | inr a => exact ⟨a, rfl, rfl⟩
end Go.Lz
