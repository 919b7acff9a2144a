/- P02c: the laws of the constraints. -/
import Derived.Test.YtefnllpnodnimaaP02b
namespace Go.Lz
set_option linter.unusedVariables false
set_option linter.unusedSimpArgs false
def labF (b x : Int) : Int := if x = -1 then b else x
def fixOk (l : api_Lattice) (x : Int) : Bool := decide (x = -1) || decide (inN l x)
theorem take_snoc {α β : Type} {xs : List α} {f : α → β} {i : Nat} (h : i < xs.length) : (xs.take (i + 1)).map f = (xs.take i).map f ++ [f xs[i]] := by
  rw [List.take_succ_eq_append_getElem h, List.map_append]; rfl
section
variable {l : api_Lattice} (h : Lat l) (fixed : List Int)
include h in
theorem refL1 (hf : fixed.length ≤ 60) : loop (lazarettoref02_Least_L1 l fixed (bottomN l)) ([], 0) = some (if fixed.all (fixOk l) then .inr (fixed.map (labF (bottomN l))) else .inl ([], false)) := by
  obtain ⟨c, hb, hc, _⟩ := h.bottom_spec
  have hbi : inN l (bottomN l) := by rw [hb]; exact ⟨by omega, by omega⟩
  exact loop_path (xs := fixed) (S := fun i => ((fixed.take i).map (labF (bottomN l)), i)) (p := fixOk l) (by
    intro i hi
    have hn : (((fixed.take i).map (labF (bottomN l))).length + 1) * 8 ≤ 140737488355328 := by simp; omega
    simp only [lazarettoref02_Least_L1, Int.ofNat_lt, hi, if_true, List.getElem?_eq_getElem hi, Option.bind_some, refIs, decide_eq_true_eq, need_of hn, take_snoc hi, hbi, fixOk]
    by_cases c1 : fixed[i] = -1
    · simp [c1, labF]
    · by_cases c2 : inN l fixed[i] <;> simp [c1, c2, labF]) (by simp [lazarettoref02_Least_L1])
theorem progL1 : loop (solve_Least_L1 l fixed (bottomN l)) (List.replicate fixed.length 0, 0) = some (if fixed.all (fixOk l) then .inr (fixed.map (labF (bottomN l))) else .inl ([], false)) := by
  have h0 := loop_path (f := solve_Least_L1 l fixed (bottomN l)) (xs := fixed) (S := fun i => ((fixed.take i).map (labF (bottomN l)) ++ List.replicate (fixed.length - i) 0, i)) (p := fixOk l) (a := .inl ([], false)) (b := .inr (fixed.map (labF (bottomN l)))) (by
    intro i hi
    have e : List.replicate (fixed.length - i) (0 : Int) = 0 :: List.replicate (fixed.length - (i + 1)) 0 := by
      rw [← List.replicate_succ]; congr 1; omega
    have hl : ((fixed.take i).map (labF (bottomN l))).length = i := by simp; omega
    have hset : ∀ x y : Int, ((fixed.take i).map (labF (bottomN l)) ++ x :: List.replicate (fixed.length - (i + 1)) 0).set i y = (fixed.take i).map (labF (bottomN l)) ++ y :: List.replicate (fixed.length - (i + 1)) 0 := fun x y => by
      rw [List.set_append_right _ _ (by omega), hl, Nat.sub_self]; rfl
    have hget : ∀ x : Int, ((fixed.take i).map (labF (bottomN l)) ++ x :: List.replicate (fixed.length - (i + 1)) 0)[i]? = some x := fun x => by
      rw [List.getElem?_append_right (by omega), hl, Nat.sub_self]; rfl
    simp only [solve_Least_L1, Int.ofNat_lt, hi, if_true, List.getElem?_eq_getElem hi, Option.bind_some, e, hset, hget, take_snoc hi, fixOk, List.append_assoc, List.singleton_append]
    by_cases c1 : fixed[i] = -1
    · simp [c1, labF]
    · by_cases c2 : fixed[i] < 0
      · have : ¬ inN l fixed[i] := fun h => by have := h.1; omega
        simp [c1, c2, this]
      · by_cases c3 : (l.Names.length : Int) ≤ fixed[i]
        · have : ¬ inN l fixed[i] := fun h => by have := h.2; omega
          simp [c1, c2, c3, this]
        · have : inN l fixed[i] := ⟨by omega, by omega⟩
          simp [c1, c2, c3, this, labF]) (by simp [solve_Least_L1])
  simpa using h0
end
def ruleOk (n : Nat) (r : A2 Int) : Bool := inR n r.a0 && inR n r.a1
theorem progL2 (rules : List (A2 Int)) (out : List Int) : loop (solve_Least_L2 rules out) 0 = some (if rules.all (ruleOk out.length) then .inr () else .inl ([], false)) :=
  loop_all (xs := rules) (p := ruleOk out.length) (a := (.inl ([], false) : (List Int × Bool) ⊕ Unit)) (b := .inr ()) (fun i hi => by
    simp only [solve_Least_L2, Int.ofNat_lt, hi, if_true, List.getElem?_eq_getElem hi, Option.bind_some, rowAt]
    rw [show ruleOk out.length rules[i] = (inR out.length rules[i].a0 && inR out.length rules[i].a1) from rfl]
    cases inR out.length rules[i].a0 <;> cases inR out.length rules[i].a1 <;> simp) (by simp [solve_Least_L2])
theorem refL2 (rules : List (A2 Int)) (out : List Int) : loop (lazarettoref02_Least_L2 rules out) 0 = some (if rules.all (ruleOk out.length) then .inr () else .inl ([], false)) :=
  loop_all (xs := rules) (p := ruleOk out.length) (a := (.inl ([], false) : (List Int × Bool) ⊕ Unit)) (b := .inr ()) (fun i hi => by
    simp only [lazarettoref02_Least_L2, Int.ofNat_lt, hi, if_true, List.getElem?_eq_getElem hi, Option.bind_some]
    rw [show ruleOk out.length rules[i] = (inR out.length rules[i].a0 && inR out.length rules[i].a1) from rfl]
    cases h0 : inR out.length rules[i].a0 with
    | false =>
      by_cases c : rules[i].a0 < 0
      · simp [c]
      · have : (out.length : Int) ≤ rules[i].a0 := by have := inR_neg.1 h0; omega
        simp [c, this]
    | true =>
      have c0 := inR_iff.1 h0
      rw [if_neg (by omega), if_neg (by omega)]
      cases h1 : inR out.length rules[i].a1 with
      | false =>
        by_cases c : rules[i].a1 < 0
        · simp [c]
        · have : (out.length : Int) ≤ rules[i].a1 := by have := inR_neg.1 h1; omega
          simp [c, this]
      | true =>
        have c1 := inR_iff.1 h1
        rw [if_neg (by omega), if_neg (by omega)]
        simp) (by simp [lazarettoref02_Least_L2])
/-- Labels that keep the rules and the fixed labels. -/
structure Keeps (l : api_Lattice) (fixed labels : List Int) (rules : List (A2 Int)) : Prop where
  len : labels.length = fixed.length
  all : ∀ x ∈ labels, inN l x
  holds : holdsN l labels rules = true
  fix : ∀ i, i < fixed.length → fixed.getD i 0 = -1 ∨ fixed.getD i 0 = labels.getD i 0
structure Least (l : api_Lattice) (fixed : List Int) (rules : List (A2 Int)) (r : List Int × Bool) : Prop where
  no : r.2 = false → r.1 = []
  len : r.2 = true → r.1.length = fixed.length
  holds : r.2 = true → holdsN l r.1 rules = true
  fix : r.2 = true → ∀ i, i < fixed.length → fixed.getD i 0 ≠ -1 → r.1.getD i 0 = fixed.getD i 0
  best : ∀ labels, Keeps l fixed labels rules → r.2 = true ∧ ∀ i, i < fixed.length → leqN l (r.1.getD i 0) (labels.getD i 0) = true
theorem holds_at {l : api_Lattice} {labels : List Int} {rules : List (A2 Int)} : holdsN l labels rules = true ↔ ∀ r ∈ rules, inR labels.length r.a0 = true ∧ inR labels.length r.a1 = true ∧ leqN l (labels.getD r.a0.toNat 0) (labels.getD r.a1.toNat 0) = true := by
  unfold holdsN
  rw [List.all_eq_true]
  simp only [Bool.and_eq_true, and_assoc]
theorem getD_mem {xs : List Int} {i : Nat} (h : i < xs.length) : xs.getD i 0 ∈ xs := by
  rw [List.getD_eq_getElem?_getD, List.getElem?_eq_getElem h]; exact List.getElem_mem h
theorem least02 {l : api_Lattice} (h : Lat l) {fixed : List Int} (hf : fixed.length ≤ 60) (rules : List (A2 Int)) : ∃ r, solve_Least l fixed rules = some r ∧ lazarettoref02_Least l fixed rules = some r ∧ Least l fixed rules r := by
  obtain ⟨c, hb, hc, hbot⟩ := h.bottom_spec
  have hbi : inN l (bottomN l) := by rw [hb]; exact ⟨by omega, by omega⟩
  unfold solve_Least lazarettoref02_Least
  rw [latBottom h.big, refBottom h.big]
  simp only [Option.bind_some]
  rw [if_neg (by have := hbi.1; omega), if_neg (by have := hbi.1; omega), need_of (by omega), progL1, refL1 h _ hf]
  simp only [Option.bind_some]
  have fixKeeps : ∀ labels, Keeps l fixed labels rules → fixed.all (fixOk l) = true := fun labels k => List.all_eq_true.2 fun x hx => by
    obtain ⟨i, hi, rfl⟩ := List.getElem_of_mem hx
    have e : fixed.getD i 0 = fixed[i] := by simp [List.getD_eq_getElem?_getD, hi]
    rcases k.fix i hi with h1 | h1
    · rw [e] at h1; simp [fixOk, h1]
    · rw [e] at h1
      have := k.all _ (getD_mem (xs := labels) (i := i) (by rw [k.len]; exact hi))
      rw [← h1] at this
      simp [fixOk, this]
  cases hfo : fixed.all (fixOk l) with
  | false =>
    refine ⟨([], false), by simp, by simp, ⟨fun _ => rfl, (fun h => by cases h), (fun h => by cases h), (fun h => by cases h), fun labels k => ?_⟩⟩
    rw [fixKeeps labels k] at hfo; cases hfo
  | true =>
    simp only [if_true]
    rw [progL2, refL2]
    simp only [Option.bind_some, List.length_map]
    cases hro : rules.all (ruleOk fixed.length) with
    | false =>
      refine ⟨([], false), by simp, by simp, ⟨fun _ => rfl, (fun h => by cases h), (fun h => by cases h), (fun h => by cases h), fun labels k => ?_⟩⟩
      have : rules.all (ruleOk fixed.length) = true := List.all_eq_true.2 fun r hr => by
        have := holds_at.1 k.holds r hr
        rw [k.len] at this
        simp [ruleOk, this.1, this.2.1]
      rw [this] at hro; cases hro
    | true =>
      simp only [if_true]
      have hr : ∀ r ∈ rules, inR fixed.length r.a0 = true ∧ inR fixed.length r.a1 = true := fun r hm => by
        have := List.all_eq_true.1 hro r hm
        simpa [ruleOk] using this
      have fixAt : ∀ i, i < fixed.length → (fixed.map (labF (bottomN l))).getD i 0 = labF (bottomN l) (fixed.getD i 0) := fun i hi => by
        simp [List.getD_eq_getElem?_getD, hi]
      have g0 : GoodL l fixed.length (fixed.map (labF (bottomN l))) := ⟨by simp, fun x hx => by
        obtain ⟨y, hy, rfl⟩ := List.mem_map.1 hx
        have := List.all_eq_true.1 hfo y hy
        unfold labF
        split
        · exact hbi
        · rename_i hne; simpa [fixOk, hne] using this⟩
      obtain ⟨res, e1, e2, q1, ⟨q2, q3⟩, q4⟩ := passes02 h hr (K := fun out => (∀ i, i < fixed.length → fixed.getD i 0 ≠ -1 → out.getD i 0 = fixed.getD i 0) ∧ ∀ labels, Keeps l fixed labels rules → ∀ i, i < fixed.length → leqN l (out.getD i 0) (labels.getD i 0) = true) (by
        intro out r g ⟨k1, k2⟩ hm hfx hle
        obtain ⟨h0, h1⟩ := hr r hm
        have hl : r.a1.toNat < out.length := by rw [g.len]; have := inR_iff.1 h1; omega
        have hl0 : r.a0.toNat < fixed.length := by have := inR_iff.1 h0; omega
        have hl1 : r.a1.toNat < fixed.length := by have := inR_iff.1 h1; omega
        have hs : ∀ i v, (out.set r.a1.toNat v).getD i 0 = if i = r.a1.toNat then v else out.getD i 0 := fun i v => by
          by_cases e : i = r.a1.toNat
          · subst e; simp [List.getD_eq_getElem?_getD, hl]
          · simp [List.getD_eq_getElem?_getD, List.getElem?_set_ne (fun h => e h.symm), e]
        refine ⟨fun i hi hne => ?_, fun labels k i hi => ?_⟩
        · rw [hs, if_neg (fun e => by subst e; exact hne hfx)]; exact k1 i hi hne
        · rw [hs]
          split
          · rename_i e
            subst e
            exact (h.jn (g.at h0) (g.at h1)).2.2.2 _ (leq_trans (k2 labels k _ hl0) (holds_at.1 k.holds r hm).2.2) (k2 labels k _ hl1)
          · exact k2 labels k i hi) g0 ⟨fun i hi hne => by rw [fixAt i hi, labF, if_neg hne], fun labels k i hi => by
        have hin := k.all _ (getD_mem (xs := labels) (i := i) (by rw [k.len]; exact hi))
        obtain ⟨y, hy⟩ : ∃ y : Nat, labels.getD i 0 = y := ⟨(labels.getD i 0).toNat, by have := hin.1; omega⟩
        have hyl : y < l.Names.length := by have := hin.2; omega
        rw [fixAt i hi, labF, hy]
        split
        · rw [hb]; exact hbot y hyl
        · rename_i hne
          rcases k.fix i hi with h1 | h1
          · exact (hne h1).elim
          · rw [h1, hy]; exact leq_refl hyl⟩
      rw [e1, e2]
      simp only [Option.bind_some, solveHolds h.big, refHolds h.big]
      cases hh : holdsN l res rules with
      | true =>
        exact ⟨(res, true), by simp, by simp, ⟨(fun h => by cases h), fun _ => q1.len, fun _ => hh, fun _ => q2, fun labels k => ⟨rfl, q3 labels k⟩⟩⟩
      | false =>
        refine ⟨([], false), by simp, by simp, ⟨fun _ => rfl, (fun h => by cases h), (fun h => by cases h), (fun h => by cases h), fun labels k => ?_⟩⟩
        have : holdsN l res rules = true := holds_at.2 fun r hm => by
          obtain ⟨h0, h1⟩ := hr r hm
          rw [q1.len]
          refine ⟨h0, h1, ?_⟩
          have hl0 : r.a0.toNat < fixed.length := by have := inR_iff.1 h0; omega
          have hl1 : r.a1.toNat < fixed.length := by have := inR_iff.1 h1; omega
          by_cases hfx : fixed.getD r.a1.toNat 0 = -1
          · exact q4 r hm hfx
          · rcases k.fix _ hl1 with h2 | h2
            · exact (hfx h2).elim
            · rw [q2 _ hl1 hfx, h2]
              exact leq_trans (q3 labels k _ hl0) (holds_at.1 k.holds r hm).2.2
        rw [this] at hh; cases hh
theorem few02 {l : api_Lattice} {n : Int} {rules : List (A2 Int)} : lazarettolaw02_few l n rules = some (decide ((l.Names.length : Int) ≤ 12 ∧ (l.Below.length : Int) ≤ 100 ∧ n ≤ 60 ∧ (rules.length : Int) ≤ 200)) := by
  unfold lazarettolaw02_few
  by_cases h1 : (l.Names.length : Int) ≤ 12 <;> by_cases h2 : (l.Below.length : Int) ≤ 100 <;> by_cases h3 : n ≤ 60 <;> simp [h1, h2, h3]
theorem setsLaw2 (aw : lazarettolaw02_awake = some true) (l : api_Lattice) (xs : List Int) (a : Int) : lazarettolaw02_SolveSets l xs a = some true := by
  unfold lazarettolaw02_SolveSets
  rw [aw, few02, refCheck]
  simp only [Option.bind_some, decide_eq_true_eq]
  split
  · rename_i hw
    have hn : l.Names.length ≤ 1000000 := by have := hw.1; omega
    split
    · obtain ⟨r1, e1, e2⟩ := allEq hn xs
      obtain ⟨r2, e3, e4⟩ := upEq hn a
      obtain ⟨r3, e5, e6⟩ := downEq hn a
      simp [e1, e2, e3, e4, e5, e6, ints02]
    · rfl
  · rfl
theorem leastLaw (aw : lazarettolaw02_awake = some true) (l : api_Lattice) (fixed : List Int) (rules : List (A2 Int)) : lazarettolaw02_SolveLeast l fixed rules = some true := by
  unfold lazarettolaw02_SolveLeast
  rw [aw, few02, refCheck]
  simp only [Option.bind_some, decide_eq_true_eq]
  split
  · rename_i hw
    split
    · rename_i hc
      obtain ⟨r, e1, e2, _⟩ := least02 (lat_of hc) (fixed := fixed) (by have := hw.2.2.1; omega) rules
      simp [e1, e2, ints02]
    · rfl
  · rfl
theorem isLaw (aw : lazarettolaw02_awake = some true) (l : api_Lattice) (fixed : List Int) (rules : List (A2 Int)) : lazarettolaw02_SolveIs l fixed rules = some true := by
  unfold lazarettolaw02_SolveIs
  rw [aw, few02, refCheck]
  simp only [Option.bind_some, decide_eq_true_eq]
  split
  · rename_i hw
    split
    · rename_i hc
      have hl := lat_of hc
      obtain ⟨r, e1, _, q⟩ := least02 hl (fixed := fixed) (by have := hw.2.2.1; omega) rules
      rw [e1, Option.bind_some]
      cases hr : r.2 with
      | false => simp [q.no hr]
      | true =>
        have e3 := q.len hr
        simp only [if_true, e3, solveHolds hl.big, q.holds hr, Option.bind_some]
        rw [loop_all (xs := r.1) (p := fun _ => true) (a := (.inl false : Bool ⊕ Unit)) (b := .inr ()) (fun i hi => by
          have hi' : i < fixed.length := by omega
          have e4 := q.fix hr i hi'
          simp only [List.getD_eq_getElem?_getD, List.getElem?_eq_getElem hi, List.getElem?_eq_getElem hi', Option.getD_some] at e4
          simp only [lazarettolaw02_SolveIs_L1, Int.ofNat_lt, hi, if_true, List.getElem?_eq_getElem hi', List.getElem?_eq_getElem hi, Option.bind_some]
          by_cases c : fixed[i] = -1
          · simp [c]
          · simp [c, e4 c]) (by simp [lazarettolaw02_SolveIs_L1])]
        simp
    · rfl
  · rfl
theorem bestLaw (aw : lazarettolaw02_awake = some true) (l : api_Lattice) (labels : List Int) (rules : List (A2 Int)) : lazarettolaw02_SolveBest l labels rules = some true := by
  unfold lazarettolaw02_SolveBest
  rw [aw, few02, refCheck]
  simp only [Option.bind_some, decide_eq_true_eq]
  split
  · rename_i hw
    have h60 : labels.length ≤ 60 := by have := hw.2.2.1; omega
    split
    · rename_i hc
      have hl := lat_of hc
      rw [refHolds hl.big, Option.bind_some]
      split
      · rename_i hh
        have k1 : loop (lazarettolaw02_SolveBest_L1 l labels) ([], 0) = some (if labels.all (fun x => decide (inN l x)) then .inr ((List.range labels.length).map fun (i : Nat) => if (i : Int).tmod 3 = 0 then labels.getD i 0 else -1) else .inl true) :=
          loop_path (xs := labels) (S := fun i => ((List.range i).map fun (i : Nat) => if (i : Int).tmod 3 = 0 then labels.getD i 0 else -1, i)) (p := fun x => decide (inN l x)) (by
            intro i hi
            have hn : (((List.range i).map fun (i : Nat) => if (i : Int).tmod 3 = 0 then labels.getD i 0 else -1).length + 1) * 8 ≤ 140737488355328 := by simp; omega
            have e : labels.getD i 0 = labels[i] := by simp [List.getD_eq_getElem?_getD, hi]
            simp only [lazarettolaw02_SolveBest_L1, Int.ofNat_lt, hi, if_true, List.getElem?_eq_getElem hi, Option.bind_some, refIs, decide_eq_true_eq, need_of hn, List.range_succ, List.map_append, List.map_cons, List.map_nil, aw, e]
            by_cases c1 : inN l labels[i] <;> by_cases c2 : (i : Int).tmod 3 = 0 <;> simp [c1, c2]) (by simp [lazarettolaw02_SolveBest_L1])
        rw [k1]
        cases hal : labels.all (fun x => decide (inN l x)) with
        | false => simp
        | true =>
          simp only [if_true, Option.bind_some]
          obtain ⟨r, e1, _, q⟩ := least02 hl (fixed := (List.range labels.length).map fun (i : Nat) => if (i : Int).tmod 3 = 0 then labels.getD i 0 else -1) (by simpa using h60) rules
          obtain ⟨b1, b2⟩ := q.best labels ⟨by simp, fun x hx => by simpa using List.all_eq_true.1 hal x hx, hh, fun i hi => by
            have hi' : i < labels.length := by simpa using hi
            by_cases c : (i : Int).tmod 3 = 0
            · right; simp [List.getD_eq_getElem?_getD, hi', c]
            · left; simp [List.getD_eq_getElem?_getD, hi', c]⟩
          have e3 : r.1.length = labels.length := by simpa using q.len b1
          rw [e1, Option.bind_some, b1, e3]
          simp only [if_true]
          rw [loop_all (xs := r.1) (p := fun _ => true) (a := (.inl false : Bool ⊕ Unit)) (b := .inr ()) (fun i hi => by
            have hi' : i < labels.length := by omega
            have e4 := b2 i (by simpa using hi')
            simp only [List.getD_eq_getElem?_getD, List.getElem?_eq_getElem hi, List.getElem?_eq_getElem hi', Option.getD_some] at e4
            simp only [lazarettolaw02_SolveBest_L2, Int.ofNat_lt, hi, if_true, List.getElem?_eq_getElem hi', List.getElem?_eq_getElem hi, Option.bind_some, refLeq hl.big, e4]) (by simp [lazarettolaw02_SolveBest_L2])]
          simp
      · rfl
    · rfl
  · rfl
end Go.Lz
