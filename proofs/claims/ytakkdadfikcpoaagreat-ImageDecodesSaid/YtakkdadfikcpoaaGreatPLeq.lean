
/- PLeq: the order of a lattice, as both the program and its law reckon it, is reachability. -/
import Derived.Test.YtakkdadfikcpoaaGreatV18s
import Derived.Test.YtakkdadfikcpoaaGreatLp2
import Derived.Test.YtakkdadfikcpoaaGreatLp3
namespace Go.Lz
set_option linter.unusedVariables false
set_option linter.unusedSimpArgs false
/-- There is a path from a to b along the pairs, each of them among the names. -/
inductive Reach (l : api_Lattice) (a : Nat) : Nat → Prop
  | refl : Reach l a a
  | step {x y : Nat} {e : A2 Int} (h : Reach l a x) (he : e ∈ l.Below) (h0 : e.a0 = x) (h1 : e.a1 = y) (hy : y < l.Names.length) : Reach l a y
def inN (l : api_Lattice) (a : Int) : Prop := 0 ≤ a ∧ a < (l.Names.length : Int)
instance (l : api_Lattice) (a : Int) : Decidable (inN l a) := by unfold inN; exact inferInstance
open Classical in
noncomputable def leqN (l : api_Lattice) (a b : Int) : Bool := decide (inN l a ∧ inN l b ∧ Reach l a.toNat b.toNat)
theorem Reach.lt {l : api_Lattice} {a b : Nat} (ha : a < l.Names.length) (h : Reach l a b) : b < l.Names.length := by
  cases h with
  | refl => exact ha
  | step _ _ _ _ hy => exact hy
theorem Reach.trans {l : api_Lattice} {a b c : Nat} (h1 : Reach l a b) (h2 : Reach l b c) : Reach l a c := by
  induction h2 with
  | refl => exact h1
  | step _ he h0 h1 hy ih => exact .step ih he h0 h1 hy
theorem latIs (l : api_Lattice) (a : Int) : lattice_is l a = some (decide (inN l a)) := by
  unfold lattice_is inN
  by_cases h : 0 ≤ a <;> simp [h]
theorem refIs (l : api_Lattice) (a : Int) : lazarettoref01_Is l a = some (decide (inN l a)) := by
  unfold lazarettoref01_Is inN
  by_cases h : 0 ≤ a <;> simp [h]
/-- All that is marked can be reached; of what is marked, the pairs' upper ends are marked too: then the marks are the reachable. -/
theorem marks {l : api_Lattice} {a : Nat} {out : List Bool} (hlen : out.length = l.Names.length) (ha : out[a]? = some true) (hr : ∀ k : Nat, out[k]? = some true → Reach l a k)
    (hc : ∀ (k : Nat) (e : A2 Int) (y : Nat), out[k]? = some true → e ∈ l.Below → e.a0 = k → e.a1 = y → y < l.Names.length → out[y]? = some true) (k : Nat) : out[k]? = some true ↔ Reach l a k := by
  refine ⟨hr k, fun h => ?_⟩
  induction h with
  | refl => exact ha
  | step _ he h0 h1 hy ih => exact hc _ _ _ ih he h0 h1 hy

/-! The program's way: what is marked waits in a line until its pairs have been gone through. -/
structure Inv1 (l : api_Lattice) (a : Nat) (out : List Bool) (todo : List Int) : Prop where
  len : out.length = l.Names.length
  ha : out[a]? = some true
  hr : ∀ k : Nat, out[k]? = some true → Reach l a k
  td : ∀ t ∈ todo, 0 ≤ t ∧ out[t.toNat]? = some true
  cnt : out.count false + todo.length ≤ l.Names.length
structure Inv2 (l : api_Lattice) (a : Nat) (x : Nat) (out0 : List Bool) (todo0 : List Int) (out : List Bool) (todo : List Int) (i : Nat) : Prop extends Inv1 l a out todo where
  il : i ≤ l.Below.length
  mono : ∀ k : Nat, out0[k]? = some true → out[k]? = some true
  sub : ∀ t ∈ todo0, t ∈ todo
  new : ∀ k : Nat, out[k]? = some true → out0[k]? = some true ∨ (k : Int) ∈ todo
  done : ∀ (j : Nat) (e : A2 Int) (y : Nat), j < i → l.Below[j]? = some e → e.a0 = x → e.a1 = y → y < l.Names.length → out[y]? = some true
  sum : out.count false + todo.length ≤ out0.count false + todo0.length
theorem above2 {l : api_Lattice} (hn : l.Names.length ≤ 1000000) {a x : Nat} {out0 : List Bool} {todo0 : List Int} (hx : out0[x]? = some true) (h0 : Inv1 l a out0 todo0) :
    ∃ r : List Bool × List Int, loop (lattice_above_L2 l (x : Int)) (out0, todo0, 0) = some r ∧ Inv2 l a x out0 todo0 r.1 r.2 l.Below.length := by
  refine loop_inv (fun s => Inv2 l a x out0 todo0 s.1 s.2.1 s.2.2) (fun (r : List Bool × List Int) => Inv2 l a x out0 todo0 r.1 r.2 l.Below.length) (fun s => l.Below.length - s.2.2) ?_ (out0, todo0, 0)
    ⟨h0, Nat.zero_le _, fun _ h => h, fun _ h => h, fun _ h => .inl h, fun j e y hj => (Nat.not_lt_zero _ hj).elim, Nat.le_refl _⟩
  rintro ⟨out, todo, i⟩ h
  dsimp only at h ⊢
  by_cases hi : i < l.Below.length
  · left
    have hget : l.Below[i]? = some l.Below[i] := List.getElem?_eq_getElem hi
    have skip : (∀ y : Nat, l.Below[i].a0 = x → l.Below[i].a1 = y → y < l.Names.length → out[y]? = some true) → Inv2 l a x out0 todo0 out todo (i + 1) := fun hs =>
      ⟨h.toInv1, hi, h.mono, h.sub, h.new, fun j e y hj hje e0 e1 hy => by
        rcases Nat.lt_or_ge j i with hj' | hj'
        · exact h.done j e y hj' hje e0 e1 hy
        · obtain rfl : j = i := by omega
          rw [hget] at hje
          obtain rfl := Option.some.inj hje
          exact hs y e0 e1 hy, h.sum⟩
    simp only [lattice_above_L2, Int.ofNat_lt, hi, if_true, hget, Option.bind_some, latIs, decide_eq_true_eq]
    by_cases c1 : l.Below[i].a0 = (x : Int)
    · simp only [c1, if_true]
      by_cases c2 : inN l l.Below[i].a1
      · simp only [c2, if_true]
        obtain ⟨y, hy⟩ : ∃ y : Nat, l.Below[i].a1 = y := ⟨l.Below[i].a1.toNat, by have := c2.1; omega⟩
        have hyl : y < l.Names.length := by have := c2.2; omega
        have hyb : y < out.length := by rw [h.len]; exact hyl
        rw [hy, idx_nat]
        have hyo : out[y]? = some out[y] := List.getElem?_eq_getElem hyb
        rw [hyo, Option.bind_some]
        cases hb : out[y] with
        | true =>
          simp only [if_true]
          exact ⟨_, rfl, skip (fun y' _ e1 _ => by rw [hy] at e1; obtain rfl : y = y' := (by omega); rw [hyo, hb]), by simp only; omega⟩
        | false =>
          have hyf : out[y]? = some false := by rw [hyo, hb]
          have hcs := count_set hyf
          have hset : (out.set y true)[y]? = some true := List.getElem?_set_self (by rw [h.len]; exact hyl)
          have hkeep : ∀ k : Nat, out[k]? = some true → (out.set y true)[k]? = some true := fun k hk => by
            by_cases e : y = k
            · subst e; exact hset
            · rw [List.getElem?_set_ne e]; exact hk
          have hback : ∀ k : Nat, (out.set y true)[k]? = some true → k = y ∨ out[k]? = some true := fun k hk => by
            by_cases e : y = k
            · exact .inl e.symm
            · rw [List.getElem?_set_ne e] at hk; exact .inr hk
          have hcn := h.cnt
          have hsm := h.sum
          simp only [Bool.false_eq_true, if_false, Int.toNat_natCast]
          rw [need_of (by omega)]
          refine ⟨(out.set y true, todo ++ [(y : Int)], i + 1), rfl, ?_, by simp only; omega⟩
          dsimp only
          refine ⟨⟨by simpa using h.len, hkeep _ h.ha, fun k hk => ?_, fun t ht => ?_, by simp only [List.length_append, List.length_singleton]; omega⟩, hi, fun k hk => hkeep k (h.mono k hk), fun t ht => List.mem_append_left _ (h.sub t ht),
            fun k hk => ?_, fun j e y' hj hje e0 e1 hy' => ?_, by simp only [List.length_append, List.length_singleton]; omega⟩
          · rcases hback k hk with rfl | hk
            · exact .step (h.hr x (h.mono x hx)) (List.getElem_mem hi) c1 hy hyl
            · exact h.hr k hk
          · rcases List.mem_append.1 ht with ht | ht
            · exact ⟨(h.td t ht).1, hkeep _ (h.td t ht).2⟩
            · rw [List.mem_singleton] at ht
              subst ht
              exact ⟨by omega, by simpa using hset⟩
          · rcases hback k hk with rfl | hk
            · exact .inr (by simp)
            · rcases h.new k hk with h' | h'
              · exact .inl h'
              · exact .inr (List.mem_append_left _ h')
          · rcases Nat.lt_or_ge j i with hj' | hj'
            · exact hkeep _ (h.done j e y' hj' hje e0 e1 hy')
            · obtain rfl : j = i := by omega
              rw [hget] at hje
              obtain rfl := Option.some.inj hje
              rw [hy] at e1
              obtain rfl : y = y' := by omega
              exact hset
      · simp only [c2, if_false]
        exact ⟨_, rfl, skip (fun y _ e1 hy => (c2 ⟨by omega, by omega⟩).elim), by simp only; omega⟩
    · simp only [c1, if_false]
      exact ⟨_, rfl, skip (fun y e0 _ _ => (c1 e0).elim), by simp only; omega⟩
  · right
    have : i = l.Below.length := by have := h.il; omega
    subst this
    exact ⟨(out, todo), by simp [lattice_above_L2], h⟩

theorem above1 {l : api_Lattice} (hn : l.Names.length ≤ 1000000) {a : Nat} (ha : a < l.Names.length) : ∃ out : List Bool, lattice_above l (a : Int) = some out ∧ out.length = l.Names.length ∧ ∀ k : Nat, out[k]? = some true ↔ Reach l a k := by
  let I : List Bool × List Int → Prop := fun s => Inv1 l a s.1 s.2 ∧ ∀ (k : Nat) (e : A2 Int) (y : Nat), s.1[k]? = some true → (k : Int) ∈ s.2 ∨ (e ∈ l.Below → e.a0 = k → e.a1 = y → y < l.Names.length → s.1[y]? = some true)
  have hI : I ((List.replicate l.Names.length false).set a true, [(a : Int)]) := by
    have hset : ((List.replicate l.Names.length false).set a true)[a]? = some true := List.getElem?_set_self (by simpa using ha)
    have hback : ∀ k : Nat, ((List.replicate l.Names.length false).set a true)[k]? = some true → k = a := fun k hk => by
      by_cases e : a = k
      · exact e.symm
      · rw [List.getElem?_set_ne e] at hk; simp [List.getElem?_replicate] at hk
    have hc := count_set (xs := List.replicate l.Names.length false) (i := a) (by simp [List.getElem?_replicate, ha])
    refine ⟨⟨by simp, hset, fun k hk => by rw [hback k hk]; exact .refl, fun t ht => ?_, ?_⟩, fun k e y hk => .inl ?_⟩
    · simp only [List.mem_singleton] at ht; subst ht; exact ⟨by omega, by simpa using hset⟩
    · simp only [List.count_replicate_self] at hc; simp only [List.length_singleton]; omega
    · rw [hback k hk]; simp
  obtain ⟨⟨out, todo⟩, e, hr⟩ := loop_inv (f := lattice_above_L1 l) I (fun r => Inv1 l a r.1 r.2 ∧ r.2 = [] ∧ I r) (fun s => s.1.count false + s.2.length) (by
    rintro ⟨out, todo⟩ ⟨h1, h2⟩
    dsimp only at h1 h2 ⊢
    cases todo with
    | nil => right; exact ⟨(out, []), by simp [lattice_above_L1], h1, rfl, h1, h2⟩
    | cons t todo =>
      left
      obtain ⟨x, rfl⟩ : ∃ x : Nat, t = x := ⟨t.toNat, by have := (h1.td t (by simp)).1; omega⟩
      have hx : out[x]? = some true := by simpa using (h1.td x (by simp)).2
      have hcn := h1.cnt
      simp only [List.length_cons] at hcn
      have h0 : Inv1 l a out todo := ⟨h1.len, h1.ha, h1.hr, fun t ht => h1.td t (by simp [ht]), by omega⟩
      obtain ⟨⟨out', todo'⟩, e2, h3⟩ := above2 hn hx h0
      dsimp only at h3
      have hsm := h3.sum
      refine ⟨(out', todo'), ?_, ⟨h3.toInv1, fun k e y hk => ?_⟩, by simp only [List.length_cons]; omega⟩
      · have hp : (1 : Int) ≤ ((List.length ((x : Int) :: todo) : Nat) : Int) := by simp only [List.length_cons]; omega
        have hq : 0 < ((List.length ((x : Int) :: todo) : Nat) : Int) := by simp only [List.length_cons]; omega
        simp only [lattice_above_L1, hq, if_true, List.getElem?_cons_zero, Option.bind_some, need_of hp, List.drop_succ_cons, List.drop_zero, e2]
      · rcases h3.new k hk with hk' | hk'
        · rcases h2 k e y hk' with h4 | h4
          · rcases List.mem_cons.1 h4 with h5 | h5
            · have h5 : k = x := by omega
              subst h5
              exact .inr fun he e0 e1 hy => by
                obtain ⟨j, hj⟩ := List.getElem?_of_mem he
                exact h3.done j e y (List.getElem?_eq_some_iff.1 hj).1 hj e0 e1 hy
            · exact .inl (h3.sub _ h5)
          · exact .inr fun he e0 e1 hy => h3.mono y (h4 he e0 e1 hy)
        · exact .inl hk') _ hI
  obtain ⟨h1, rfl, _, h2⟩ := hr
  refine ⟨out, ?_, h1.len, marks h1.len h1.ha h1.hr fun k e y hk he e0 e1 hy => (h2 k e y hk).elim (fun h => by simp at h) fun h => h he e0 e1 hy⟩
  unfold lattice_above
  rw [need_of (by omega), idx_nat, List.getElem?_eq_getElem (by simpa using ha), Option.bind_some, Int.toNat_natCast, e]
  rfl
theorem latLeq {l : api_Lattice} (hn : l.Names.length ≤ 1000000) (a b : Int) : lattice_Leq l a b = some (leqN l a b) := by
  unfold lattice_Leq leqN
  simp only [latIs, Option.bind_some, decide_eq_true_eq]
  by_cases ha : inN l a
  · by_cases hb : inN l b
    · obtain ⟨x, rfl⟩ : ∃ x : Nat, a = x := ⟨a.toNat, by have := ha.1; omega⟩
      obtain ⟨y, rfl⟩ : ∃ y : Nat, b = y := ⟨b.toNat, by have := hb.1; omega⟩
      obtain ⟨out, e, hlen, hr⟩ := above1 hn (a := x) (by have := ha.2; omega)
      have hy : y < out.length := by have := hb.2; omega
      simp only [ha, hb, if_true, e, Option.bind_some, idx_nat, List.getElem?_eq_getElem hy, Int.toNat_natCast]
      congr 1
      rw [Bool.eq_iff_iff]
      simp only [decide_eq_true_eq, ha, hb, true_and]
      rw [← hr y, List.getElem?_eq_getElem hy]
      simp
    · simp [ha, hb]
  · simp [ha]

/-! The law's way: pass after pass over the pairs, until a pass marks nothing. -/
structure InvA (l : api_Lattice) (a : Nat) (out : List Bool) : Prop where
  len : out.length = l.Names.length
  ha : out[a]? = some true
  hr : ∀ k : Nat, out[k]? = some true → Reach l a k
structure InvB (l : api_Lattice) (a : Nat) (out0 out : List Bool) (more : Bool) (i : Nat) : Prop extends InvA l a out where
  il : i ≤ l.Below.length
  cnt : out.count false + (if more then 1 else 0) ≤ out0.count false
  same : more = false → ∀ (j : Nat) (e : A2 Int) (x y : Nat), j < i → l.Below[j]? = some e → e.a0 = x → e.a1 = y → y < l.Names.length → out[x]? = some true → out[y]? = some true
theorem pass {l : api_Lattice} {a : Nat} (ha : a < l.Names.length) {out0 : List Bool} (h0 : InvA l a out0) :
    ∃ r : List Bool × Bool, loop (lazarettoref01_Leq_L2 l) (out0, false, 0) = some r ∧ InvB l a out0 r.1 r.2 l.Below.length := by
  refine loop_inv (fun s => InvB l a out0 s.1 s.2.1 s.2.2) (fun (r : List Bool × Bool) => InvB l a out0 r.1 r.2 l.Below.length) (fun s => l.Below.length - s.2.2) ?_ (out0, false, 0)
    ⟨h0, Nat.zero_le _, by simp, fun _ j e x y hj => (Nat.not_lt_zero _ hj).elim⟩
  rintro ⟨out, more, i⟩ h
  dsimp only at h ⊢
  by_cases hi : i < l.Below.length
  · left
    have hget : l.Below[i]? = some l.Below[i] := List.getElem?_eq_getElem hi
    have skip : (∀ x y : Nat, l.Below[i].a0 = x → l.Below[i].a1 = y → y < l.Names.length → out[x]? = some true → out[y]? = some true) → InvB l a out0 out more (i + 1) := fun hs =>
      ⟨h.toInvA, hi, h.cnt, fun hm j e x y hj hje e0 e1 hy hx => by
        rcases Nat.lt_or_ge j i with hj' | hj'
        · exact h.same hm j e x y hj' hje e0 e1 hy hx
        · obtain rfl : j = i := by omega
          rw [hget] at hje
          obtain rfl := Option.some.inj hje
          exact hs x y e0 e1 hy hx⟩
    simp only [lazarettoref01_Leq_L2, Int.ofNat_lt, hi, if_true, hget, Option.bind_some, refIs, decide_eq_true_eq]
    by_cases c1 : inN l l.Below[i].a0
    · simp only [c1, if_true]
      by_cases c2 : inN l l.Below[i].a1
      · simp only [c2, if_true]
        obtain ⟨x, hx⟩ : ∃ x : Nat, l.Below[i].a0 = x := ⟨l.Below[i].a0.toNat, by have := c1.1; omega⟩
        obtain ⟨y, hy⟩ : ∃ y : Nat, l.Below[i].a1 = y := ⟨l.Below[i].a1.toNat, by have := c2.1; omega⟩
        have hxl : x < l.Names.length := by have := c1.2; omega
        have hyl : y < l.Names.length := by have := c2.2; omega
        have hxb : x < out.length := by rw [h.len]; exact hxl
        have hyb : y < out.length := by rw [h.len]; exact hyl
        rw [hy, hx, idx_nat, idx_nat]
        have hxo : out[x]? = some out[x] := List.getElem?_eq_getElem hxb
        have hyo : out[y]? = some out[y] := List.getElem?_eq_getElem hyb
        rw [hxo, Option.bind_some]
        cases hbx : out[x] with
        | false =>
          simp only [Bool.false_eq_true, if_false]
          exact ⟨_, rfl, skip (fun x' y' e0 _ _ hx' => by rw [hx] at e0; obtain rfl : x = x' := (by omega); rw [hxo, hbx] at hx'; cases hx'), by simp only; omega⟩
        | true =>
          simp only [if_true]
          rw [hyo, Option.bind_some]
          cases hb : out[y] with
          | true =>
            simp only [if_true]
            exact ⟨_, rfl, skip (fun x' y' _ e1 _ _ => by rw [hy] at e1; obtain rfl : y = y' := (by omega); rw [hyo, hb]), by simp only; omega⟩
          | false =>
            have hyf : out[y]? = some false := by rw [hyo, hb]
            have hcs := count_set hyf
            have hset : (out.set y true)[y]? = some true := List.getElem?_set_self hyb
            have hkeep : ∀ k : Nat, out[k]? = some true → (out.set y true)[k]? = some true := fun k hk => by
              by_cases e : y = k
              · subst e; exact hset
              · rw [List.getElem?_set_ne e]; exact hk
            have hback : ∀ k : Nat, (out.set y true)[k]? = some true → k = y ∨ out[k]? = some true := fun k hk => by
              by_cases e : y = k
              · exact .inl e.symm
              · rw [List.getElem?_set_ne e] at hk; exact .inr hk
            have hcn := h.cnt
            simp only [Bool.false_eq_true, if_false, Int.toNat_natCast]
            refine ⟨(out.set y true, true, i + 1), rfl, ?_, by simp only; omega⟩
            dsimp only
            refine ⟨⟨by simpa using h.len, hkeep _ h.ha, fun k hk => ?_⟩, hi, by simp only [if_true]; omega, fun hm => by cases hm⟩
            rcases hback k hk with rfl | hk
            · exact .step (h.hr x (by rw [hxo, hbx])) (List.getElem_mem hi) hx hy hyl
            · exact h.hr k hk
      · simp only [c2, if_false]
        exact ⟨_, rfl, skip (fun x y _ e1 hy _ => (c2 ⟨by omega, by omega⟩).elim), by simp only; omega⟩
    · simp only [c1, if_false]
      exact ⟨_, rfl, skip (fun x y e0 _ _ hx => by
        have hl := (h.hr x hx).lt ha
        exact (c1 ⟨by omega, by omega⟩).elim), by simp only; omega⟩
  · right
    have : i = l.Below.length := by have := h.il; omega
    subst this
    exact ⟨(out, more), by simp [lazarettoref01_Leq_L2], h⟩
theorem passes {l : api_Lattice} {a : Nat} (ha : a < l.Names.length) :
    ∃ out : List Bool, loop (lazarettoref01_Leq_L1 l) ((List.replicate l.Names.length false).set a true, true) = some out ∧ out.length = l.Names.length ∧ ∀ k : Nat, out[k]? = some true ↔ Reach l a k := by
  have hset : ((List.replicate l.Names.length false).set a true)[a]? = some true := List.getElem?_set_self (by simpa using ha)
  have hback : ∀ k : Nat, ((List.replicate l.Names.length false).set a true)[k]? = some true → k = a := fun k hk => by
    by_cases e : a = k
    · exact e.symm
    · rw [List.getElem?_set_ne e] at hk; simp [List.getElem?_replicate] at hk
  obtain ⟨out, e, h1, h2⟩ := loop_inv (f := lazarettoref01_Leq_L1 l)
    (fun s => InvA l a s.1 ∧ (s.2 = false → ∀ (k : Nat) (e : A2 Int) (y : Nat), s.1[k]? = some true → e ∈ l.Below → e.a0 = k → e.a1 = y → y < l.Names.length → s.1[y]? = some true))
    (fun (r : List Bool) => InvA l a r ∧ ∀ (k : Nat) (e : A2 Int) (y : Nat), r[k]? = some true → e ∈ l.Below → e.a0 = k → e.a1 = y → y < l.Names.length → r[y]? = some true)
    (fun s => 2 * s.1.count false + (if s.2 then 1 else 0)) (by
      rintro ⟨out, more⟩ ⟨h1, h2⟩
      dsimp only at h1 h2 ⊢
      cases more with
      | false => right; exact ⟨out, by simp [lazarettoref01_Leq_L1], h1, h2 rfl⟩
      | true =>
        left
        obtain ⟨⟨out', more'⟩, e2, h3⟩ := pass ha h1
        dsimp only at h3
        refine ⟨(out', more'), by simp only [lazarettoref01_Leq_L1, if_true, e2, Option.bind_some], ⟨h3.toInvA, fun hm k e y hk he e0 e1 hy => ?_⟩, ?_⟩
        · obtain ⟨j, hj⟩ := List.getElem?_of_mem he
          exact h3.same hm j e k y (List.getElem?_eq_some_iff.1 hj).1 hj e0 e1 hy hk
        · have := h3.cnt
          cases more' with
          | true => simp only [if_true] at this ⊢; omega
          | false => simp only [Bool.false_eq_true, if_false, if_true] at this ⊢; omega)
    ((List.replicate l.Names.length false).set a true, true) ⟨⟨by simp, hset, fun k hk => by rw [hback k hk]; exact .refl⟩, fun h => by cases h⟩
  exact ⟨out, e, h1.len, marks h1.len h1.ha h1.hr h2⟩
theorem refLeq {l : api_Lattice} (hn : l.Names.length ≤ 1000000) (a b : Int) : lazarettoref01_Leq l a b = some (leqN l a b) := by
  unfold lazarettoref01_Leq leqN
  simp only [refIs, Option.bind_some, decide_eq_true_eq]
  by_cases ha : inN l a
  · by_cases hb : inN l b
    · obtain ⟨x, rfl⟩ : ∃ x : Nat, a = x := ⟨a.toNat, by have := ha.1; omega⟩
      obtain ⟨y, rfl⟩ : ∃ y : Nat, b = y := ⟨b.toNat, by have := hb.1; omega⟩
      have hx : x < l.Names.length := by have := ha.2; omega
      obtain ⟨out, e, hlen, hr⟩ := passes hx
      have hy : y < out.length := by have := hb.2; omega
      simp only [ha, hb, if_true]
      rw [need_of (by omega), idx_nat, List.getElem?_eq_getElem (by simpa using hx), Option.bind_some, Int.toNat_natCast, e]
      simp only [Option.bind_some, idx_nat, List.getElem?_eq_getElem hy, Int.toNat_natCast]
      congr 1
      rw [Bool.eq_iff_iff]
      simp only [decide_eq_true_eq, ha, hb, true_and]
      rw [← hr y, List.getElem?_eq_getElem hy]
      simp
    · simp [ha, hb]
  · simp [ha]
end Go.Lz
