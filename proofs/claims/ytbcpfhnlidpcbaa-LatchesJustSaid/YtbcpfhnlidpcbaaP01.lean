/- P01: the laws of the lattice in plain words. -/
import Derived.Test.YtbcpfhnlidpcbaaPLat
namespace Go.Lz
set_option linter.unusedVariables false
set_option linter.unusedSimpArgs false
theorem leq_of {l : api_Lattice} {a b : Int} {v : Bool} (hn : l.Names.length ≤ 1000000) (h : lattice_Leq l a b = some v) : leqN l a b = v := by
  rw [latLeq hn] at h
  exact Option.some.inj h
abbrev lat2 : api_Lattice := ⟨[([108, 111, 119] : Str), ([104, 105, 103, 104] : Str)], [(⟨0, 1⟩ : A2 Int)]⟩
abbrev lat4 : api_Lattice := ⟨[([97] : Str), ([98] : Str), ([99] : Str), ([100] : Str)], [(⟨0, 1⟩ : A2 Int), (⟨0, 2⟩ : A2 Int), (⟨1, 3⟩ : A2 Int), (⟨2, 3⟩ : A2 Int)]⟩
theorem leq2 : ∀ a b : Nat, a < 2 → b < 2 → leqN lat2 a b = decide (a ≤ b) := by
  intro a b ha hb
  refine leq_of (by decide) ?_
  obtain rfl | rfl : a = 0 ∨ a = 1 := by omega
  all_goals obtain rfl | rfl : b = 0 ∨ b = 1 := by omega
  all_goals simp [lat2, lattice_Leq, lattice_is, lattice_above, lattice_above_L1, lattice_above_L2, loop_eq, need, idx]
def ord4 (a b : Nat) : Bool := decide (a = b) || decide (a = 0) || decide (b = 3)
theorem leq4 : ∀ a b : Nat, a < 4 → b < 4 → leqN lat4 a b = ord4 a b := by
  intro a b ha hb
  refine leq_of (by decide) ?_
  obtain rfl | rfl | rfl | rfl : a = 0 ∨ a = 1 ∨ a = 2 ∨ a = 3 := by omega
  all_goals obtain rfl | rfl | rfl | rfl : b = 0 ∨ b = 1 ∨ b = 2 ∨ b = 3 := by omega
  all_goals simp [lat4, lattice_Leq, lattice_is, lattice_above, lattice_above_L1, lattice_above_L2, loop_eq, need, idx, ord4]
theorem best_eq {n : Nat} {o o' : Nat → Bool} {ah ah' : Nat → Nat → Bool} (h1 : ∀ x, x < n → o x = o' x) (h2 : ∀ x y, x < n → y < n → ah x y = ah' x y) : bestN n o ah = bestN n o' ah' := by
  unfold bestN
  congr 1
  have : ∀ (xs : List Nat), (∀ x ∈ xs, x < n) → xs.find? (fun x => o x && (List.range n).all fun y => !o y || ah x y) = xs.find? (fun x => o' x && (List.range n).all fun y => !o' y || ah' x y) := by
    intro xs
    induction xs with
    | nil => intro _; rfl
    | cons x xs ih =>
      intro h
      have hx := h x (by simp)
      rw [List.find?_cons, List.find?_cons, ih (fun y hy => h y (by simp [hy])), h1 x hx]
      have : ((List.range n).all fun y => !o y || ah x y) = (List.range n).all fun y => !o' y || ah' x y := by
        rw [Bool.eq_iff_iff, List.all_eq_true, List.all_eq_true]
        constructor
        · intro hh y hy; have := hh y hy; rw [h1 y (by simpa using hy), h2 x y hx (by simpa using hy)] at this; exact this
        · intro hh y hy; have := hh y hy; rw [← h1 y (by simpa using hy), ← h2 x y hx (by simpa using hy)] at this; exact this
      rw [this]
  exact this _ (fun x hx => by simpa using hx)
theorem join4 (a b : Nat) (ha : a < 4) (hb : b < 4) : joinN lat4 a b = bestN 4 (fun c => ord4 a c && ord4 b c) ord4 := best_eq (fun x hx => by rw [leq4 a x ha hx, leq4 b x hb hx]) (fun x y hx hy => leq4 x y hx hy)
theorem meet4 (a b : Nat) (ha : a < 4) (hb : b < 4) : meetN lat4 a b = bestN 4 (fun c => ord4 c a && ord4 c b) (fun c d => ord4 d c) := best_eq (fun x hx => by rw [leq4 x a hx ha, leq4 x b hx hb]) (fun x y hx hy => leq4 y x hy hx)
theorem ordersLaw (aw : lazarettolaw01_awake = some true) (l : api_Lattice) (a b : Int) : lazarettolaw01_LatticeOrders l a b = some true := by
  unfold lazarettolaw01_LatticeOrders lazarettolaw01_few
  rw [aw]
  by_cases h : (l.Names.length : Int) ≤ 12
  · have hn : l.Names.length ≤ 1000000 := by omega
    simp only [h, if_true, Option.bind_some, latLeq hn, refLeq hn, latJoin hn, refJoin hn, latMeet hn, refMeet hn, beq_self_eq_true, decide_eq_true_eq]
    split <;> rfl
  · simp [h]
/-! The check. -/
def edgeOk (l : api_Lattice) (e : A2 Int) : Bool := decide (inN l e.a0) && decide (inN l e.a1)
noncomputable def pairBad (l : api_Lattice) (a b : Nat) : Bool := (leqN l a b && leqN l b a) || decide (joinN l a b < 0) || decide (meetN l a b < 0)
noncomputable def nodeBad (l : api_Lattice) (a : Nat) : Bool := decide (l.Names.getD a [] = []) || (List.range a).any fun b => decide (l.Names.getD b [] = l.Names.getD a []) || pairBad l a b
noncomputable def checkN (l : api_Lattice) : Int :=
  if l.Names.length < 1 then 3 else if 8 < l.Names.length then 3 else if l.Below.all (edgeOk l) then (if (List.range l.Names.length).any (nodeBad l) then 4 else 0) else 4
theorem elim_any {ρ : Type} {p : Nat → Bool} {a b : ρ} (xs : List Nat) : (xs.find? p).elim a (fun _ => b) = if xs.any p then b else a := by
  induction xs with
  | nil => rfl
  | cons x xs ih =>
    rw [List.find?_cons, List.any_cons]
    cases p x with
    | true => rfl
    | false => simpa using ih
theorem any_range {α : Type} {p : α → Bool} {xs : List α} {d : α} : (List.range xs.length).any (fun i => p (xs.getD i d)) = xs.any p := by
  rw [Bool.eq_iff_iff, List.any_eq_true, List.any_eq_true]
  constructor
  · rintro ⟨i, hi, h⟩
    have hi : i < xs.length := by simpa using hi
    refine ⟨xs[i], List.getElem_mem hi, ?_⟩
    simpa [List.getD_eq_getElem?_getD, hi] using h
  · rintro ⟨x, hx, h⟩
    obtain ⟨i, hi⟩ := List.getElem?_of_mem hx
    have hl := (List.getElem?_eq_some_iff.1 hi).1
    exact ⟨i, by simpa using hl, by simp [List.getD_eq_getElem?_getD, hi, h]⟩
theorem refCheck {l : api_Lattice} : lazarettoref01_Check l = some (checkN l) := by
  unfold lazarettoref01_Check checkN
  by_cases h1 : l.Names.length < 1
  · rw [if_pos (by omega), if_pos h1]
  by_cases h2 : 8 < l.Names.length
  · rw [if_neg (by omega), if_pos (by omega), if_neg h1, if_pos h2]
  have hn : l.Names.length ≤ 1000000 := by omega
  rw [if_neg (by omega), if_neg (by omega), if_neg h1, if_neg h2]
  have k1 := loop_first (f := lazarettoref01_Check_L1 l) l.Below.length (fun i => !edgeOk l (l.Below.getD i ⟨0, 0⟩)) (fun _ => .inl 4) (.inr ()) (by
    intro i hi
    simp only [lazarettoref01_Check_L1, Int.ofNat_lt, hi, if_true, List.getElem?_eq_getElem hi, Option.bind_some, refIs, edgeOk, List.getD_eq_getElem?_getD, Option.getD_some, decide_eq_true_eq]
    by_cases c1 : inN l l.Below[i].a0 <;> by_cases c2 : inN l l.Below[i].a1 <;> simp [c1, c2]) (by simp [lazarettoref01_Check_L1])
  have k3 : ∀ a : Nat, a < l.Names.length → loop (lazarettoref01_Check_L3 l a (l.Names.getD a [])) 0 = some (if (List.range a).any fun b => decide (l.Names.getD b [] = l.Names.getD a []) || pairBad l a b then .inl 4 else .inr ()) := by
    intro a ha
    have k := loop_first (f := lazarettoref01_Check_L3 l a (l.Names.getD a [])) a (fun b => decide (l.Names.getD b [] = l.Names.getD a []) || pairBad l a b) (fun _ => .inl 4) (.inr ()) (by
      intro b hb
      have hbl : b < l.Names.length := by omega
      have eb : l.Names[b]? = some (l.Names.getD b []) := by simp [List.getD_eq_getElem?_getD, hbl]
      simp only [lazarettoref01_Check_L3, Int.ofNat_lt, hb, if_true, eb, Option.bind_some, refLeq hn, refJoin hn, refMeet hn, pairBad]
      generalize l.Names.getD a [] = na
      generalize l.Names.getD b [] = nb
      by_cases c0 : na = nb
      · subst c0; simp
      · have c0' : ¬ nb = na := fun h => c0 h.symm
        by_cases c1 : joinN l a b < 0 <;> by_cases c2 : meetN l a b < 0 <;> rcases Bool.eq_false_or_eq_true (leqN l a b) with c3 | c3 <;> rcases Bool.eq_false_or_eq_true (leqN l b a) with c4 | c4 <;> simp [c0, c0', c1, c2, c3, c4]) (by simp [lazarettoref01_Check_L3])
    rw [k, elim_any]
  have k2 := loop_first (f := lazarettoref01_Check_L2 l) l.Names.length (nodeBad l) (fun _ => .inl 4) (.inr ()) (by
    intro a ha
    have ea : l.Names[a]? = some (l.Names.getD a []) := by simp [List.getD_eq_getElem?_getD, ha]
    simp only [lazarettoref01_Check_L2, Int.ofNat_lt, ha, if_true, ea, Option.bind_some, k3 a ha]
    by_cases c0 : l.Names.getD a [] = []
    · have hb : nodeBad l a = true := by unfold nodeBad; rw [decide_eq_true c0]; rfl
      rw [if_pos c0, if_pos hb]
    · have hb : nodeBad l a = (List.range a).any fun b => decide (l.Names.getD b [] = l.Names.getD a []) || pairBad l a b := by unfold nodeBad; rw [decide_eq_false c0, Bool.false_or]
      rw [if_neg c0, ← hb]
      rcases Bool.eq_false_or_eq_true (nodeBad l a) with c1 | c1 <;> simp [c1]) (by simp [lazarettoref01_Check_L2])
  rw [k1, k2, elim_any, elim_any, any_range (p := fun e => !edgeOk l e)]
  simp only [Option.bind_some]
  have e1 : l.Below.any (fun e => !edgeOk l e) = !l.Below.all (edgeOk l) := by rw [List.all_eq_not_any_not]; simp
  rw [e1]
  cases l.Below.all (edgeOk l) <;> cases (List.range l.Names.length).any (nodeBad l) <;> rfl
noncomputable def seenN (l : api_Lattice) (i : Nat) : List (Str × Bool) := (List.range i).foldl (fun s b => mset (l.Names.getD b []) true s) (mset [] true [])
theorem seen_get (l : api_Lattice) (k : Str) : ∀ i, (mget k (seenN l i)).getD false = (decide (k = []) || (List.range i).any fun b => decide (l.Names.getD b [] = k))
  | 0 => by
    by_cases h : k = []
    · subst h; simp [seenN, mget_same]
    · simp [seenN, mget_other h, mget, h]
  | i + 1 => by
    have e : seenN l (i + 1) = mset (l.Names.getD i []) true (seenN l i) := by simp [seenN, List.range_succ]
    rw [e, List.range_succ, List.any_append]
    by_cases h : k = l.Names.getD i []
    · subst h; rw [mget_same]; simp
    · rw [mget_other h, seen_get l k i]
      have h' : ¬ l.Names.getD i [] = k := fun h2 => h h2.symm
      rw [List.any_cons, decide_eq_false h', List.any_nil]
      simp
theorem latCheck {l : api_Lattice} : lattice_Check l = some (checkN l) := by
  unfold lattice_Check checkN
  by_cases h1 : l.Names.length < 1
  · rw [if_pos (by omega), if_pos h1]
  by_cases h2 : 8 < l.Names.length
  · rw [if_neg (by omega), if_pos (by omega), if_neg h1, if_pos h2]
  have hn : l.Names.length ≤ 1000000 := by omega
  rw [if_neg (by omega), if_neg (by omega), if_neg h1, if_neg h2]
  have k1 := loop_first (f := lattice_Check_L1 l) l.Below.length (fun i => !edgeOk l (l.Below.getD i ⟨0, 0⟩)) (fun _ => .inl 4) (.inr ()) (by
    intro i hi
    simp only [lattice_Check_L1, Int.ofNat_lt, hi, if_true, List.getElem?_eq_getElem hi, Option.bind_some, latIs, edgeOk, List.getD_eq_getElem?_getD, Option.getD_some, decide_eq_true_eq]
    by_cases c1 : inN l l.Below[i].a0 <;> by_cases c2 : inN l l.Below[i].a1 <;> simp [c1, c2]) (by simp [lattice_Check_L1])
  have k3 : ∀ a : Nat, a < l.Names.length → loop (lattice_Check_L3 l a) 0 = some (if (List.range a).any fun b => pairBad l a b then .inl 4 else .inr ()) := by
    intro a ha
    have k := loop_first (f := lattice_Check_L3 l a) a (fun b => pairBad l a b) (fun _ => .inl 4) (.inr ()) (by
      intro b hb
      simp only [lattice_Check_L3, Int.ofNat_lt, hb, if_true, Option.bind_some, latLeq hn, latJoin hn, latMeet hn, pairBad]
      by_cases c1 : joinN l a b < 0 <;> by_cases c2 : meetN l a b < 0 <;> rcases Bool.eq_false_or_eq_true (leqN l a b) with c3 | c3 <;> rcases Bool.eq_false_or_eq_true (leqN l b a) with c4 | c4 <;> simp [c1, c2, c3, c4]) (by simp [lattice_Check_L3])
    rw [k, elim_any]
  have k2 := loop_firstS (f := lattice_Check_L2 l) (fun i => (seenN l i, i)) l.Names.length (nodeBad l) (fun _ => .inl 4) (.inr (seenN l l.Names.length)) (by
    intro a ha
    have ea : l.Names[a]? = some (l.Names.getD a []) := by simp [List.getD_eq_getElem?_getD, ha]
    have es : seenN l (a + 1) = mset (l.Names.getD a []) true (seenN l a) := by simp [seenN, List.range_succ]
    have hb : nodeBad l a = ((decide (l.Names.getD a [] = []) || (List.range a).any fun b => decide (l.Names.getD b [] = l.Names.getD a [])) || (List.range a).any fun b => pairBad l a b) := by
      unfold nodeBad
      rw [Bool.or_assoc]
      congr 1
      induction List.range a with
      | nil => rfl
      | cons x xs ih => simp only [List.any_cons, ih]; simp only [Bool.or_assoc, Bool.or_left_comm]
    simp only [lattice_Check_L2, Int.ofNat_lt, ha, if_true, ea, Option.bind_some, seen_get, k3 a ha, es]
    rcases Bool.eq_false_or_eq_true (decide (l.Names.getD a [] = []) || (List.range a).any fun b => decide (l.Names.getD b [] = l.Names.getD a [])) with c1 | c1
    · rw [c1, Bool.true_or] at hb
      rw [if_pos c1, if_pos hb]
    · rw [c1, Bool.false_or] at hb
      rw [if_neg (by rw [c1]; simp), ← hb]
      rcases Bool.eq_false_or_eq_true (nodeBad l a) with c2 | c2 <;> simp [c2]) (by simp [lattice_Check_L2])
  have e0 : (mset [] true ([] : List (Str × Bool)), 0) = (seenN l 0, 0) := rfl
  rw [k1, e0, k2, elim_any, elim_any, any_range (p := fun e => !edgeOk l e)]
  simp only [Option.bind_some]
  have e1 : l.Below.any (fun e => !edgeOk l e) = !l.Below.all (edgeOk l) := by rw [List.all_eq_not_any_not]; simp
  rw [e1]
  cases l.Below.all (edgeOk l) <;> cases (List.range l.Names.length).any (nodeBad l) <;> rfl
theorem checksLaw (aw : lazarettolaw01_awake = some true) (l : api_Lattice) : lazarettolaw01_LatticeChecks l = some true := by
  unfold lazarettolaw01_LatticeChecks lazarettolaw01_few
  rw [aw]
  by_cases h : (l.Names.length : Int) ≤ 12
  · have hn : l.Names.length ≤ 1000000 := by omega
    simp only [h, if_true, Option.bind_some, latCheck, refCheck, latBottom hn, refBottom hn, latTop hn, refTop hn]
    split <;> rfl
  · simp [h]
theorem bottom4 : bottomN lat4 = 0 := (best_eq (o' := fun _ => true) (ah' := ord4) (fun _ _ => rfl) (fun x y hx hy => leq4 x y hx hy)).trans (by decide)
theorem top4 : topN lat4 = 3 := (best_eq (o' := fun _ => true) (ah' := fun c d => ord4 d c) (fun _ _ => rfl) (fun x y hx hy => leq4 y x hy hx)).trans (by decide)
theorem pair4 (a b : Nat) (ha : a < 4) (hb : b < 4) : pairBad lat4 a b = ((ord4 a b && ord4 b a) || decide (bestN 4 (fun c => ord4 a c && ord4 b c) ord4 < 0) || decide (bestN 4 (fun c => ord4 c a && ord4 c b) (fun c d => ord4 d c) < 0)) := by
  unfold pairBad
  rw [leq4 a b ha hb, leq4 b a hb ha, join4 a b ha hb, meet4 a b ha hb]
theorem check4 : checkN lat4 = 0 := by
  have h1 : ∀ a, a < 4 → nodeBad lat4 a = false := by
    intro a ha
    unfold nodeBad
    rw [Bool.or_eq_false_iff]
    obtain rfl | rfl | rfl | rfl : a = 0 ∨ a = 1 ∨ a = 2 ∨ a = 3 := by omega
    all_goals
      refine ⟨by decide, ?_⟩
      rw [List.any_eq_false]
      intro b hb
      have hb : b < _ := List.mem_range.1 hb
      rw [pair4 _ b (by omega) (by omega)]
      obtain rfl | rfl | rfl : b = 0 ∨ b = 1 ∨ b = 2 := by omega
      all_goals first | omega | decide
  have h2 : (List.range lat4.Names.length).any (nodeBad lat4) = false := by
    rw [List.any_eq_false]
    intro a ha
    rw [h1 a (by simpa using ha)]; simp
  unfold checkN
  rw [if_neg (by decide), if_neg (by decide), if_pos (by decide), h2]
  rfl
theorem join2 : joinN lat2 0 1 = 1 := (best_eq (o' := fun c => decide (0 ≤ c) && decide (1 ≤ c)) (ah' := fun c d => decide (c ≤ d)) (fun x hx => by rw [show leqN lat2 0 x = _ from leq2 0 x (by omega) hx, show leqN lat2 1 x = _ from leq2 1 x (by omega) hx]) (fun x y hx hy => leq2 x y hx hy)).trans (by decide)
theorem meet2 : meetN lat2 0 1 = 0 := (best_eq (o' := fun c => decide (c ≤ 0) && decide (c ≤ 1)) (ah' := fun c d => decide (d ≤ c)) (fun x hx => by rw [show leqN lat2 x 0 = _ from leq2 x 0 hx (by omega), show leqN lat2 x 1 = _ from leq2 x 1 hx (by omega)]) (fun x y hx hy => leq2 y x hy hx)).trans (by decide)
theorem join412 : joinN lat4 1 2 = 3 := (join4 1 2 (by omega) (by omega)).trans (by decide)
theorem awake01 : lazarettolaw01_awake = some true := by
  unfold lazarettolaw01_awake
  have e1 : leqN lat2 0 1 = true := leq2 0 1 (by omega) (by omega)
  have e2 : leqN lat2 1 0 = false := leq2 1 0 (by omega) (by omega)
  have e3 : checkN ⟨[], []⟩ = 3 := rfl
  rw [latJoin (by decide), join2]
  simp only [Option.bind_some, if_true, latMeet (l := lat2) (by decide), meet2, latJoin (l := lat4) (by decide), join412, latCheck, check4, latBottom (l := lat4) (by decide), bottom4, latTop (l := lat4) (by decide), top4, latLeq (l := lat2) (by decide), e1, e2, e3, Bool.false_eq_true, if_false, decide_true]
end Go.Lz
