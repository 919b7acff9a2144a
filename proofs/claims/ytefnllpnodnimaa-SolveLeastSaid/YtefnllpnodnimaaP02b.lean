/- P02b: the least solution: the program's way and the law's are one, and what they find is the least. -/
import Derived.Test.YtefnllpnodnimaaP02
namespace Go.Lz
set_option linter.unusedVariables false
set_option linter.unusedSimpArgs false
theorem countP_lt {p q : Nat → Bool} {z : Nat} : ∀ {xs : List Nat}, (∀ y ∈ xs, q y = true → p y = true) → z ∈ xs → p z = true → q z = false → xs.countP q < xs.countP p
  | [], _, h, _, _ => by cases h
  | x :: xs, h, hz, hp, hq => by
    have hle : xs.countP q ≤ xs.countP p := List.countP_mono_left fun y hy => h y (by simp [hy])
    rw [List.countP_cons, List.countP_cons]
    by_cases e : z = x
    · subst e; simp [hp, hq]; omega
    · have := countP_lt (xs := xs) (fun y hy => h y (by simp [hy])) (by rcases List.mem_cons.1 hz with h1 | h1; exact (e h1).elim; exact h1) hp hq
      have hx := h x (by simp)
      cases hqx : q x with
      | false => simp; omega
      | true => rw [hx hqx]; simp; omega
theorem sum_set {f : Int → Nat} : ∀ {xs : List Int} {k : Nat} {v : Int}, k < xs.length → ((xs.set k v).map f).sum + f (xs.getD k 0) = (xs.map f).sum + f v
  | [], k, v, h => by simp at h
  | x :: xs, 0, v, _ => by simp; omega
  | x :: xs, k + 1, v, h => by
    have := sum_set (f := f) (xs := xs) (k := k) (v := v) (by simpa using h)
    simp at this ⊢
    omega
noncomputable def ht (l : api_Lattice) (x : Int) : Nat := (List.range l.Names.length).countP fun (y : Nat) => leqN l x y
noncomputable def mu (l : api_Lattice) (out : List Int) : Nat := (out.map (ht l)).sum
section
variable {l : api_Lattice} (h : Lat l)
include h
theorem Lat.jn {a b : Int} (ha : inN l a) (hb : inN l b) : inN l (joinN l a b) ∧ leqN l a (joinN l a b) = true ∧ leqN l b (joinN l a b) = true ∧ ∀ d : Int, leqN l a d = true → leqN l b d = true → leqN l (joinN l a b) d = true := by
  obtain ⟨x, rfl⟩ : ∃ x : Nat, a = x := ⟨a.toNat, by have := ha.1; omega⟩
  obtain ⟨y, rfl⟩ : ∃ y : Nat, b = y := ⟨b.toNat, by have := hb.1; omega⟩
  obtain ⟨c, e, hc, c1, c2, c3⟩ := h.join_spec (show x < l.Names.length by have := ha.2; omega) (show y < l.Names.length by have := hb.2; omega)
  rw [e]
  refine ⟨⟨by omega, by omega⟩, c1, c2, fun d d1 d2 => ?_⟩
  have hd := (leq_iff.1 d1).2.1
  obtain ⟨z, rfl⟩ : ∃ z : Nat, d = z := ⟨d.toNat, by have := hd.1; omega⟩
  exact c3 z (by have := hd.2; omega) d1 d2
theorem Lat.ht_lt {a b : Int} (ha : inN l a) (hb : inN l b) (hab : leqN l a b = false) : ht l (joinN l a b) < ht l b := by
  obtain ⟨j1, j2, j3, j4⟩ := h.jn ha hb
  obtain ⟨y, hy⟩ : ∃ y : Nat, b = y := ⟨b.toNat, by have := hb.1; omega⟩
  have hyl : y < l.Names.length := by have := hb.2; omega
  refine countP_lt (z := y) (fun w hw hq => leq_trans j3 hq) (by simpa using hyl) (by rw [hy]; exact leq_refl hyl) ?_
  cases hj : leqN l (joinN l a b) y with
  | false => rfl
  | true => rw [← hy] at hj; rw [leq_trans j2 hj] at hab; cases hab
end
structure GoodL (l : api_Lattice) (n : Nat) (out : List Int) : Prop where
  len : out.length = n
  all : ∀ x ∈ out, inN l x
theorem GoodL.at {l : api_Lattice} {n : Nat} {out : List Int} (g : GoodL l n out) {i : Int} (hi : inR n i = true) : inN l (out.getD i.toNat 0) := by
  have := inR_iff.1 hi
  have hl : i.toNat < out.length := by rw [g.len]; omega
  rw [List.getD_eq_getElem?_getD, List.getElem?_eq_getElem hl]
  exact g.all _ (List.getElem_mem hl)
theorem GoodL.set {l : api_Lattice} {n : Nat} {out : List Int} (g : GoodL l n out) {k : Nat} {v : Int} (hv : inN l v) : GoodL l n (out.set k v) :=
  ⟨by rw [List.length_set, g.len], fun x hx => by
    rcases List.mem_or_eq_of_mem_set hx with h1 | h1
    · exact g.all x h1
    · rw [h1]; exact hv⟩
noncomputable def stepN (l : api_Lattice) (fixed out : List Int) (again : Bool) (r : A2 Int) : List Int × Bool :=
  if fixed.getD r.a1.toNat 0 = -1 then (if leqN l (out.getD r.a0.toNat 0) (out.getD r.a1.toNat 0) = true then (out, again) else (out.set r.a1.toNat (joinN l (out.getD r.a0.toNat 0) (out.getD r.a1.toNat 0)), true)) else (out, again)
section
variable {l : api_Lattice} (h : Lat l) {fixed : List Int} {rules : List (A2 Int)} (hr : ∀ r ∈ rules, inR fixed.length r.a0 = true ∧ inR fixed.length r.a1 = true)
include h hr
theorem stepP {out : List Int} (g : GoodL l fixed.length out) (again : Bool) {i : Nat} (hi : i < rules.length) :
    solve_Least_L4 l fixed rules (out, again, i) = some (.inl ((stepN l fixed out again rules[i]).1, (stepN l fixed out again rules[i]).2, i + 1)) := by
  obtain ⟨h0, h1⟩ := hr rules[i] (List.getElem_mem hi)
  have g0 := g.at h0
  have g1 := g.at h1
  rw [← g.len] at h0 h1
  have h1' : inR fixed.length rules[i].a1 = true := by rw [← g.len]; exact h1
  simp only [solve_Least_L4, Int.ofNat_lt, hi, if_true, List.getElem?_eq_getElem hi, Option.bind_some, idx_in h0, idx_in h1, idx_in h1', latLeq h.big, latJoin h.big, stepN]
  by_cases c1 : fixed.getD rules[i].a1.toNat 0 = -1
  · rw [if_pos c1, if_pos c1]
    by_cases c2 : leqN l (out.getD rules[i].a0.toNat 0) (out.getD rules[i].a1.toNat 0) = true
    · rw [if_pos c2, if_pos c2]
    · rw [if_neg c2, if_neg c2]
      obtain ⟨j1, _⟩ := h.jn g0 g1
      have h2 : inR (out.set rules[i].a1.toNat (joinN l (out.getD rules[i].a0.toNat 0) (out.getD rules[i].a1.toNat 0))).length rules[i].a1 = true := by rw [List.length_set]; exact h1
      have hl : rules[i].a1.toNat < out.length := by have := inR_iff.1 h1; omega
      have e : (out.set rules[i].a1.toNat (joinN l (out.getD rules[i].a0.toNat 0) (out.getD rules[i].a1.toNat 0))).getD rules[i].a1.toNat 0 = joinN l (out.getD rules[i].a0.toNat 0) (out.getD rules[i].a1.toNat 0) := by
        rw [List.getD_eq_getElem?_getD, List.getElem?_set_self hl]; rfl
      rw [idx_in h2, Option.bind_some, e, if_pos j1.1, decide_eq_true j1.1]
  · rw [if_neg c1, if_neg c1]
theorem stepR {out : List Int} (g : GoodL l fixed.length out) (again : Bool) {i : Nat} (hi : i < rules.length) :
    lazarettoref02_Least_L4 l fixed rules (out, again, i) = some (.inl ((stepN l fixed out again rules[i]).1, (stepN l fixed out again rules[i]).2, i + 1)) := by
  obtain ⟨h0, h1⟩ := hr rules[i] (List.getElem_mem hi)
  have g0 := g.at h0
  have g1 := g.at h1
  rw [← g.len] at h0 h1
  have h1' : inR fixed.length rules[i].a1 = true := by rw [← g.len]; exact h1
  simp only [lazarettoref02_Least_L4, Int.ofNat_lt, hi, if_true, List.getElem?_eq_getElem hi, Option.bind_some, idx_in h0, idx_in h1, idx_in h1', refLeq h.big, refJoin h.big, stepN]
  by_cases c1 : fixed.getD rules[i].a1.toNat 0 = -1
  · rw [if_pos c1, if_pos c1]
    by_cases c2 : leqN l (out.getD rules[i].a0.toNat 0) (out.getD rules[i].a1.toNat 0) = true
    · rw [if_pos c2, if_pos c2]
    · rw [if_neg c2, if_neg c2]
      obtain ⟨j1, _⟩ := h.jn g0 g1
      rw [if_neg (by have := j1.1; omega)]
  · rw [if_neg c1, if_neg c1]
    split <;> rfl
theorem stepGood {out : List Int} (g : GoodL l fixed.length out) (again : Bool) {r : A2 Int} (hm : r ∈ rules) : GoodL l fixed.length (stepN l fixed out again r).1 := by
  obtain ⟨h0, h1⟩ := hr r hm
  unfold stepN
  split
  · split
    · exact g
    · exact g.set (h.jn (g.at h0) (g.at h1)).1
  · exact g
theorem pass02 {K : List Int → Prop} (hK : ∀ out r, GoodL l fixed.length out → K out → r ∈ rules → fixed.getD r.a1.toNat 0 = -1 → leqN l (out.getD r.a0.toNat 0) (out.getD r.a1.toNat 0) = false → K (out.set r.a1.toNat (joinN l (out.getD r.a0.toNat 0) (out.getD r.a1.toNat 0))))
    {out0 : List Int} (g0 : GoodL l fixed.length out0) (k0 : K out0) :
    ∃ res : List Int × Bool, loop (solve_Least_L4 l fixed rules) (out0, false, 0) = some (.inr res) ∧ loop (lazarettoref02_Least_L4 l fixed rules) (out0, false, 0) = some (.inr res) ∧ GoodL l fixed.length res.1 ∧ K res.1 ∧ (res.2 = true → mu l res.1 < mu l out0) ∧
      (res.2 = false → res.1 = out0 ∧ ∀ r ∈ rules, fixed.getD r.a1.toNat 0 = -1 → leqN l (out0.getD r.a0.toNat 0) (out0.getD r.a1.toNat 0) = true) := by
  have hc : loop (lazarettoref02_Least_L4 l fixed rules) (out0, false, 0) = loop (solve_Least_L4 l fixed rules) (out0, false, 0) := by
    refine loop_congr (fun s => GoodL l fixed.length s.1) (fun s hs => ?_) g0
    obtain ⟨out, again, i⟩ := s
    by_cases hi : i < rules.length
    · rw [stepP h hr hs again hi, stepR h hr hs again hi]
      refine ⟨rfl, fun s' e => ?_⟩
      cases e
      exact stepGood h hr hs again (List.getElem_mem hi)
    · have hi' : ¬ (i : Int) < (rules.length : Int) := by omega
      simp [lazarettoref02_Least_L4, solve_Least_L4, hi']
  rw [hc]
  obtain ⟨r, e, q⟩ := loop_inv (f := solve_Least_L4 l fixed rules)
    (fun s => s.2.2 ≤ rules.length ∧ GoodL l fixed.length s.1 ∧ K s.1 ∧ (s.2.1 = true → mu l s.1 < mu l out0) ∧ (s.2.1 = false → s.1 = out0 ∧ ∀ j (hj : j < rules.length), j < s.2.2 → fixed.getD rules[j].a1.toNat 0 = -1 → leqN l (out0.getD rules[j].a0.toNat 0) (out0.getD rules[j].a1.toNat 0) = true))
    (fun r => ∃ res : List Int × Bool, r = .inr res ∧ GoodL l fixed.length res.1 ∧ K res.1 ∧ (res.2 = true → mu l res.1 < mu l out0) ∧ (res.2 = false → res.1 = out0 ∧ ∀ r ∈ rules, fixed.getD r.a1.toNat 0 = -1 → leqN l (out0.getD r.a0.toNat 0) (out0.getD r.a1.toNat 0) = true))
    (fun s => rules.length - s.2.2) (by
      rintro ⟨out, again, i⟩ ⟨i0, i1, i2, i3, i4⟩
      dsimp only at i0 i1 i2 i3 i4 ⊢
      by_cases hi : i < rules.length
      · left
        refine ⟨_, stepP h hr i1 again hi, ⟨by dsimp only; omega, stepGood h hr i1 again (List.getElem_mem hi), ?_⟩, by dsimp only; omega⟩
        dsimp only
        obtain ⟨h0, h1⟩ := hr rules[i] (List.getElem_mem hi)
        have skip : (fixed.getD rules[i].a1.toNat 0 = -1 → leqN l (out.getD rules[i].a0.toNat 0) (out.getD rules[i].a1.toNat 0) = true) → K out ∧ (again = true → mu l out < mu l out0) ∧ (again = false → out = out0 ∧ ∀ j (hj : j < rules.length), j < i + 1 → fixed.getD rules[j].a1.toNat 0 = -1 → leqN l (out0.getD rules[j].a0.toNat 0) (out0.getD rules[j].a1.toNat 0) = true) := fun hs =>
          ⟨i2, i3, fun ha => ⟨(i4 ha).1, fun j hj hji hf => by
            by_cases e : j = i
            · subst e; rw [← (i4 ha).1]; exact hs hf
            · exact (i4 ha).2 j hj (by omega) hf⟩⟩
        unfold stepN
        by_cases c1 : fixed.getD rules[i].a1.toNat 0 = -1
        · rw [if_pos c1]
          by_cases c2 : leqN l (out.getD rules[i].a0.toNat 0) (out.getD rules[i].a1.toNat 0) = true
          · rw [if_pos c2]; exact skip fun _ => c2
          · rw [if_neg c2]
            have c2' : leqN l (out.getD rules[i].a0.toNat 0) (out.getD rules[i].a1.toNat 0) = false := by simpa using c2
            refine ⟨hK out _ i1 i2 (List.getElem_mem hi) c1 c2', fun _ => ?_, fun hf => by cases hf⟩
            have hlt := h.ht_lt (i1.at h0) (i1.at h1) c2'
            have hl : rules[i].a1.toNat < out.length := by rw [i1.len]; have := inR_iff.1 h1; omega
            have hs := sum_set (f := ht l) (v := joinN l (out.getD rules[i].a0.toNat 0) (out.getD rules[i].a1.toNat 0)) hl
            have hle : mu l out ≤ mu l out0 := by
              cases again with
              | true => have := i3 rfl; omega
              | false => rw [(i4 rfl).1]; exact Nat.le_refl _
            unfold mu at hle ⊢
            dsimp only
            omega
        · rw [if_neg c1]; exact skip fun hf => (c1 hf).elim
      · right
        have e : i = rules.length := by omega
        subst e
        refine ⟨_, by simp only [solve_Least_L4, Int.lt_irrefl, if_false], (out, again), rfl, i1, i2, i3, fun ha => ⟨(i4 ha).1, fun r hm hf => ?_⟩⟩
        obtain ⟨j, hj, rfl⟩ := List.getElem_of_mem hm
        exact (i4 ha).2 j hj hj hf) (out0, false, 0) ⟨Nat.zero_le _, g0, k0, (fun h => by cases h), fun _ => ⟨rfl, fun j _ hj => (Nat.not_lt_zero _ hj).elim⟩⟩
  obtain ⟨res, rfl, q⟩ := q
  exact ⟨res, e, e, q⟩
theorem passes02 {K : List Int → Prop} (hK : ∀ out r, GoodL l fixed.length out → K out → r ∈ rules → fixed.getD r.a1.toNat 0 = -1 → leqN l (out.getD r.a0.toNat 0) (out.getD r.a1.toNat 0) = false → K (out.set r.a1.toNat (joinN l (out.getD r.a0.toNat 0) (out.getD r.a1.toNat 0))))
    {out0 : List Int} (g0 : GoodL l fixed.length out0) (k0 : K out0) :
    ∃ res : List Int, loop (solve_Least_L3 l fixed rules) (out0, true) = some (.inr res) ∧ loop (lazarettoref02_Least_L3 l fixed rules) (out0, true) = some (.inr res) ∧ GoodL l fixed.length res ∧ K res ∧ ∀ r ∈ rules, fixed.getD r.a1.toNat 0 = -1 → leqN l (res.getD r.a0.toNat 0) (res.getD r.a1.toNat 0) = true := by
  have hc : loop (lazarettoref02_Least_L3 l fixed rules) (out0, true) = loop (solve_Least_L3 l fixed rules) (out0, true) := by
    refine loop_congr (fun s => GoodL l fixed.length s.1) (fun s hs => ?_) g0
    obtain ⟨out, again⟩ := s
    obtain ⟨res, e1, e2, q, _⟩ := pass02 h hr (K := fun _ => True) (fun _ _ _ _ _ _ _ => trivial) hs trivial
    cases again with
    | false => simp [lazarettoref02_Least_L3, solve_Least_L3]
    | true =>
      simp only [lazarettoref02_Least_L3, solve_Least_L3, if_true, e1, e2, Option.bind_some]
      refine ⟨trivial, fun s' e => ?_⟩
      cases e
      exact q
  rw [hc]
  obtain ⟨r, e, q⟩ := loop_inv (f := solve_Least_L3 l fixed rules)
    (fun s => GoodL l fixed.length s.1 ∧ K s.1 ∧ (s.2 = false → ∀ r ∈ rules, fixed.getD r.a1.toNat 0 = -1 → leqN l (s.1.getD r.a0.toNat 0) (s.1.getD r.a1.toNat 0) = true))
    (fun r => ∃ res : List Int, r = .inr res ∧ GoodL l fixed.length res ∧ K res ∧ ∀ r ∈ rules, fixed.getD r.a1.toNat 0 = -1 → leqN l (res.getD r.a0.toNat 0) (res.getD r.a1.toNat 0) = true)
    (fun s => 2 * mu l s.1 + (if s.2 then 1 else 0)) (by
      rintro ⟨out, again⟩ ⟨i1, i2, i3⟩
      dsimp only at i1 i2 i3 ⊢
      cases again with
      | false => right; exact ⟨_, by simp only [solve_Least_L3, Bool.false_eq_true, if_false], out, rfl, i1, i2, i3 rfl⟩
      | true =>
        left
        obtain ⟨res, e1, _, q1, q2, q3, q4⟩ := pass02 h hr hK i1 i2
        refine ⟨(res.1, res.2), by simp only [solve_Least_L3, if_true, e1, Option.bind_some], ⟨q1, q2, fun hf => ?_⟩, ?_⟩
        · rw [(q4 hf).1]; exact (q4 hf).2
        · dsimp only
          cases hr2 : res.2 with
          | true => have := q3 hr2; simp only [if_true]; omega
          | false => rw [(q4 hr2).1]; simp) (out0, true) ⟨g0, k0, fun h => by cases h⟩
  obtain ⟨res, rfl, q⟩ := q
  exact ⟨res, e, e, q⟩
end
end Go.Lz
