
/- PLat: joins, meets, least and greatest of a lattice in plain words, the program's and the law's. -/
import Derived.Test.YtakkdadfikcpoaaGreatPLeq
namespace Go.Lz
set_option linter.unusedVariables false
set_option linter.unusedSimpArgs false
/-- The first node of which 'o' holds and that stands ahead of all such. -/
def bestN (n : Nat) (o : Nat → Bool) (ah : Nat → Nat → Bool) : Int :=
  ((List.range n).find? fun x => o x && (List.range n).all fun y => !o y || ah x y).elim (-1) fun x => (x : Int)
theorem latBest {l : api_Lattice} {of : Int → Option Bool} {ahead : Int → Int → Option Bool} {o : Nat → Bool} {ah : Nat → Nat → Bool} (ho : ∀ c : Nat, c < l.Names.length → of c = some (o c)) (ha : ∀ c d : Nat, c < l.Names.length → d < l.Names.length → ahead c d = some (ah c d)) :
    lattice_best l of ahead = some (bestN l.Names.length o ah) := by
  have inner : ∀ x : Nat, x < l.Names.length → loop (lattice_best_L2 l of ahead x) 0 = some (if (List.range l.Names.length).all fun y => !o y || ah x y then .inr () else .inl ()) := by
    intro x hx
    have key := loop_first (f := lattice_best_L2 l of ahead x) l.Names.length (fun y => o y && !ah x y) (fun _ => .inl ()) (.inr ()) (by
      intro y hy
      simp only [lattice_best_L2, Int.ofNat_lt, hy, if_true, ho y hy, ha x y hx hy, Option.bind_some]
      cases o y <;> cases ah x y <;> rfl) (by simp [lattice_best_L2])
    rw [key, elim_all (q := fun y => !o y || ah x y) (fun y => by cases o y <;> cases ah x y <;> rfl)]
  have key := loop_first (f := lattice_best_L1 l of ahead) l.Names.length (fun x => o x && (List.range l.Names.length).all fun y => !o y || ah x y) (fun x => .inl (x : Int)) (.inr ()) (by
    intro x hx
    simp only [lattice_best_L1, Int.ofNat_lt, hx, if_true, ho x hx, inner x hx, Option.bind_some]
    cases o x <;> cases (List.range l.Names.length).all (fun y => !o y || ah x y) <;> rfl) (by simp [lattice_best_L1])
  unfold lattice_best
  rw [key, bestN, Option.bind_some]
  cases (List.range l.Names.length).find? fun x => o x && (List.range l.Names.length).all fun y => !o y || ah x y <;> rfl
noncomputable def joinN (l : api_Lattice) (a b : Int) : Int := bestN l.Names.length (fun c => leqN l a c && leqN l b c) (fun c d => leqN l c d)
noncomputable def meetN (l : api_Lattice) (a b : Int) : Int := bestN l.Names.length (fun c => leqN l c a && leqN l c b) (fun c d => leqN l d c)
noncomputable def bottomN (l : api_Lattice) : Int := bestN l.Names.length (fun _ => true) (fun c d => leqN l c d)
noncomputable def topN (l : api_Lattice) : Int := bestN l.Names.length (fun _ => true) (fun c d => leqN l d c)
theorem best_no {n : Nat} {o : Nat → Bool} {ah : Nat → Nat → Bool} (h : ∀ x, x < n → o x = false) : bestN n o ah = -1 := by
  unfold bestN
  rw [List.find?_eq_none.2 fun x hx => by simp [h x (by simpa using hx)]]
  rfl
theorem leq_out {l : api_Lattice} {a b : Int} (h : ¬ inN l a ∨ ¬ inN l b) : leqN l a b = false := by
  unfold leqN
  rw [decide_eq_false_iff_not]
  rintro ⟨h1, h2, _⟩
  exact h.elim (fun h => h h1) (fun h => h h2)
theorem latMeet {l : api_Lattice} (hn : l.Names.length ≤ 1000000) (a b : Int) : lattice_Meet l a b = some (meetN l a b) := by
  unfold lattice_Meet
  simp only [latIs, Option.bind_some, decide_eq_true_eq]
  by_cases ha : inN l a
  · by_cases hb : inN l b
    · simp only [ha, hb, if_true]
      rw [latBest (o := fun c => leqN l c a && leqN l c b) (ah := fun c d => leqN l d c) (fun c hc => ?_) (fun c d hc hd => ?_)]
      · rfl
      · simp only [lattice_Meet_1, latLeq hn, Option.bind_some]
        cases leqN l c a <;> rfl
      · simp only [lattice_Meet_2, latLeq hn, Option.bind_some]
    · simp only [ha, hb, if_true, if_false]
      rw [meetN, best_no fun x _ => by simp [leq_out (l := l) (a := x) (b := b) (.inr hb)]]
  · simp only [ha, if_false]
    rw [meetN, best_no fun x _ => by simp [leq_out (l := l) (a := x) (b := a) (.inr ha)]]
theorem latJoin {l : api_Lattice} (hn : l.Names.length ≤ 1000000) (a b : Int) : lattice_Join l a b = some (joinN l a b) := by
  unfold lattice_Join
  simp only [latIs, Option.bind_some, decide_eq_true_eq]
  by_cases ha : inN l a
  · by_cases hb : inN l b
    · obtain ⟨x, rfl⟩ : ∃ x : Nat, a = x := ⟨a.toNat, by have := ha.1; omega⟩
      obtain ⟨y, rfl⟩ : ∃ y : Nat, b = y := ⟨b.toNat, by have := hb.1; omega⟩
      obtain ⟨o1, e1, l1, r1⟩ := above1 hn (a := x) (by have := ha.2; omega)
      obtain ⟨o2, e2, l2, r2⟩ := above1 hn (a := y) (by have := hb.2; omega)
      have get : ∀ (z : Nat) (out : List Bool), inN l z → out.length = l.Names.length → (∀ k : Nat, out[k]? = some true ↔ Reach l z k) → ∀ c : Nat, c < l.Names.length → idx out (c : Int) = some (leqN l z c) := by
        intro z out hz hl hr c hc
        rw [idx_nat, List.getElem?_eq_getElem (by omega)]
        congr 1
        rw [Bool.eq_iff_iff]
        unfold leqN
        simp only [decide_eq_true_eq, hz, true_and, Int.toNat_natCast, ← hr c, List.getElem?_eq_getElem (show c < out.length by omega)]
        have : inN l c := ⟨by omega, by omega⟩
        simp [this]
      simp only [ha, hb, if_true, e1, e2, Option.bind_some]
      rw [latBest (o := fun c => leqN l x c && leqN l y c) (ah := fun c d => leqN l c d) (fun c hc => ?_) (fun c d hc hd => ?_)]
      · rfl
      · simp only [lattice_Join_1, get x o1 ha l1 r1 c hc, get y o2 hb l2 r2 c hc, Option.bind_some]
        cases leqN l x c <;> rfl
      · simp only [lattice_Join_2, latLeq hn, Option.bind_some]
    · simp only [ha, hb, if_true, if_false]
      rw [joinN, best_no fun x _ => by simp [leq_out (l := l) (a := b) (b := x) (.inl hb)]]
  · simp only [ha, if_false]
    rw [joinN, best_no fun x _ => by simp [leq_out (l := l) (a := a) (b := x) (.inl ha)]]
theorem refJoin {l : api_Lattice} (hn : l.Names.length ≤ 1000000) (a b : Int) : lazarettoref01_Join l a b = some (joinN l a b) := by
  have in2 : ∀ (c : Nat) (ok : Bool), loop (lazarettoref01_Join_L2 l a b c) (ok, 0) = some (ok && (List.range l.Names.length).all fun y => !(leqN l a y && leqN l b y) || leqN l c y) := fun c ok =>
    loop_flag l.Names.length _ (fun d hd => by
      simp only [lazarettoref01_Join_L2, Int.ofNat_lt, hd, if_true, refLeq hn, Option.bind_some]
      cases leqN l a d <;> cases leqN l b d <;> simp) (fun d hd => by simp [lazarettoref01_Join_L2, hd]) (fun b => by simp [lazarettoref01_Join_L2]) ok
  have in3 : ∀ (c : Nat) (ok : Bool), loop (lazarettoref01_Join_L3 l a b c) (ok, 0) = some (ok && (List.range l.Names.length).all fun y => !(leqN l a y && leqN l b y) || leqN l c y) := fun c ok =>
    loop_flag l.Names.length _ (fun d hd => by
      simp only [lazarettoref01_Join_L3, Int.ofNat_lt, hd, if_true, refLeq hn, Option.bind_some]
      cases leqN l a d <;> cases leqN l b d <;> simp) (fun d hd => by simp [lazarettoref01_Join_L3, hd]) (fun b => by simp [lazarettoref01_Join_L3]) ok
  have key := loop_first (f := lazarettoref01_Join_L1 l a b) l.Names.length (fun x => (leqN l a x && leqN l b x) && (List.range l.Names.length).all fun y => !(leqN l a y && leqN l b y) || leqN l x y) (fun x => .inl (x : Int)) (.inr ()) (by
    intro x hx
    simp only [lazarettoref01_Join_L1, Int.ofNat_lt, hx, if_true, refLeq hn, in2, in3, Option.bind_some]
    cases leqN l a x <;> cases leqN l b x <;> cases (List.range l.Names.length).all (fun y => !(leqN l a y && leqN l b y) || leqN l x y) <;> rfl) (by simp [lazarettoref01_Join_L1])
  unfold lazarettoref01_Join
  rw [key, joinN, bestN, Option.bind_some]
  cases (List.range l.Names.length).find? fun (x : Nat) => (leqN l a x && leqN l b x) && (List.range l.Names.length).all fun y => !(leqN l a y && leqN l b y) || leqN l x y <;> rfl
theorem refMeet {l : api_Lattice} (hn : l.Names.length ≤ 1000000) (a b : Int) : lazarettoref01_Meet l a b = some (meetN l a b) := by
  have in2 : ∀ (c : Nat) (ok : Bool), loop (lazarettoref01_Meet_L2 l a b c) (ok, 0) = some (ok && (List.range l.Names.length).all fun y => !(leqN l y a && leqN l y b) || leqN l y c) := fun c ok =>
    loop_flag l.Names.length _ (fun d hd => by
      simp only [lazarettoref01_Meet_L2, Int.ofNat_lt, hd, if_true, refLeq hn, Option.bind_some]
      cases leqN l d a <;> cases leqN l d b <;> simp) (fun d hd => by simp [lazarettoref01_Meet_L2, hd]) (fun b => by simp [lazarettoref01_Meet_L2]) ok
  have in3 : ∀ (c : Nat) (ok : Bool), loop (lazarettoref01_Meet_L3 l a b c) (ok, 0) = some (ok && (List.range l.Names.length).all fun y => !(leqN l y a && leqN l y b) || leqN l y c) := fun c ok =>
    loop_flag l.Names.length _ (fun d hd => by
      simp only [lazarettoref01_Meet_L3, Int.ofNat_lt, hd, if_true, refLeq hn, Option.bind_some]
      cases leqN l d a <;> cases leqN l d b <;> simp) (fun d hd => by simp [lazarettoref01_Meet_L3, hd]) (fun b => by simp [lazarettoref01_Meet_L3]) ok
  have key := loop_first (f := lazarettoref01_Meet_L1 l a b) l.Names.length (fun x => (leqN l x a && leqN l x b) && (List.range l.Names.length).all fun y => !(leqN l y a && leqN l y b) || leqN l y x) (fun x => .inl (x : Int)) (.inr ()) (by
    intro x hx
    simp only [lazarettoref01_Meet_L1, Int.ofNat_lt, hx, if_true, refLeq hn, in2, in3, Option.bind_some]
    cases leqN l x a <;> cases leqN l x b <;> cases (List.range l.Names.length).all (fun y => !(leqN l y a && leqN l y b) || leqN l y x) <;> rfl) (by simp [lazarettoref01_Meet_L1])
  unfold lazarettoref01_Meet
  rw [key, meetN, bestN, Option.bind_some]
  cases (List.range l.Names.length).find? fun (x : Nat) => (leqN l x a && leqN l x b) && (List.range l.Names.length).all fun y => !(leqN l y a && leqN l y b) || leqN l y x <;> rfl
end Go.Lz
