
/- P01c: the laws of the lattice: joins and meets, bounds, the order; in plain words. -/
import Derived.Test.YtefnllpnodnimaaP01b
namespace Go.Lz
set_option linter.unusedVariables false
set_option linter.unusedSimpArgs false
section
variable {l : api_Lattice} (h : Lat l) {a b c d : Nat}
include h
theorem Lat.big : l.Names.length ≤ 1000000 := by have := h.few; omega
theorem Lat.join_eq (ha : a < l.Names.length) (hb : b < l.Names.length) (hc : c < l.Names.length) (h1 : leqN l a c = true) (h2 : leqN l b c = true)
    (h3 : ∀ d : Nat, d < l.Names.length → leqN l a d = true → leqN l b d = true → leqN l c d = true) : joinN l a b = c := by
  obtain ⟨x, e, hx, x1, x2, x3⟩ := h.join_spec ha hb
  rw [e, h.anti x c hx hc (x3 c hc h1 h2) (h3 x hx x1 x2)]
theorem Lat.meet_eq (ha : a < l.Names.length) (hb : b < l.Names.length) (hc : c < l.Names.length) (h1 : leqN l c a = true) (h2 : leqN l c b = true)
    (h3 : ∀ d : Nat, d < l.Names.length → leqN l d a = true → leqN l d b = true → leqN l d c = true) : meetN l a b = c := by
  obtain ⟨x, e, hx, x1, x2, x3⟩ := h.meet_spec ha hb
  rw [e, h.anti x c hx hc (h3 x hx x1 x2) (x3 c hc h1 h2)]
theorem Lat.join_same (ha : a < l.Names.length) : joinN l a a = a := h.join_eq ha ha ha (leq_refl ha) (leq_refl ha) (fun d _ hd _ => hd)
theorem Lat.join_meet (ha : a < l.Names.length) (hb : b < l.Names.length) : joinN l a (meetN l a b) = a := by
  obtain ⟨m, e, hm, m1, m2, m3⟩ := h.meet_spec ha hb
  rw [e]
  exact h.join_eq ha hm ha (leq_refl ha) m1 (fun d _ hd _ => hd)
theorem Lat.meet_join (ha : a < l.Names.length) (hb : b < l.Names.length) : meetN l a (joinN l a b) = a := by
  obtain ⟨m, e, hm, m1, m2, m3⟩ := h.join_spec ha hb
  rw [e]
  exact h.meet_eq ha hm ha (leq_refl ha) m1 (fun d _ hd _ => hd)
theorem Lat.join_assoc (ha : a < l.Names.length) (hb : b < l.Names.length) (hc : c < l.Names.length) : joinN l (joinN l a b) c = joinN l a (joinN l b c) := by
  obtain ⟨x, ex, hx, x1, x2, x3⟩ := h.join_spec ha hb
  obtain ⟨y, ey, hy, y1, y2, y3⟩ := h.join_spec hb hc
  obtain ⟨z, ez, hz, z1, z2, z3⟩ := h.join_spec ha hy
  rw [ex, ey, ez]
  exact h.join_eq hx hc hz (x3 z hz z1 (leq_trans y1 z2)) (leq_trans y2 z2) (fun d hd d1 d2 => z3 d hd (leq_trans x1 d1) (y3 d hd (leq_trans x2 d1) d2))
theorem Lat.meet_assoc (ha : a < l.Names.length) (hb : b < l.Names.length) (hc : c < l.Names.length) : meetN l (meetN l a b) c = meetN l a (meetN l b c) := by
  obtain ⟨x, ex, hx, x1, x2, x3⟩ := h.meet_spec ha hb
  obtain ⟨y, ey, hy, y1, y2, y3⟩ := h.meet_spec hb hc
  obtain ⟨z, ez, hz, z1, z2, z3⟩ := h.meet_spec ha hy
  rw [ex, ey, ez]
  exact h.meet_eq hx hc hz (x3 z hz z1 (leq_trans z2 y1)) (leq_trans z2 y2) (fun d hd d1 d2 => z3 d hd (leq_trans d1 x1) (y3 d hd (leq_trans d1 x2) d2))
theorem Lat.join_le (ha : a < l.Names.length) (hb : b < l.Names.length) : leqN l a b = decide (joinN l a b = b) := by
  obtain ⟨x, ex, hx, x1, x2, x3⟩ := h.join_spec ha hb
  cases hl : leqN l a b with
  | true => exact (decide_eq_true (h.join_eq ha hb hb hl (leq_refl hb) (fun d _ _ hd => hd))).symm
  | false =>
    refine (decide_eq_false fun e => ?_).symm
    rw [ex] at e
    have : x = b := by omega
    subst this
    rw [x1] at hl; cases hl
theorem Lat.meet_le (ha : a < l.Names.length) (hb : b < l.Names.length) : leqN l a b = decide (meetN l a b = a) := by
  obtain ⟨x, ex, hx, x1, x2, x3⟩ := h.meet_spec ha hb
  cases hl : leqN l a b with
  | true => exact (decide_eq_true (h.meet_eq ha hb ha (leq_refl ha) hl (fun d _ hd _ => hd))).symm
  | false =>
    refine (decide_eq_false fun e => ?_).symm
    rw [ex] at e
    have : x = a := by omega
    subst this
    rw [x2] at hl; cases hl
/-- The least label: the meet of all. -/
theorem Lat.least : ∀ k, k ≤ l.Names.length → 0 < k → ∃ c : Nat, c < l.Names.length ∧ ∀ d : Nat, d < k → leqN l c d = true
  | 0, _, hk => by omega
  | 1, h1, _ => ⟨0, h1, fun d hd => by
    have : d = 0 := by omega
    subst this; exact leq_refl h1⟩
  | k + 2, h1, _ => by
    obtain ⟨c, hc, hm⟩ := Lat.least (k + 1) (by omega) (by omega)
    obtain ⟨x, _, hx, x1, x2, _⟩ := h.meet_spec hc (show k + 1 < l.Names.length by omega)
    refine ⟨x, hx, fun d hd => ?_⟩
    by_cases e : d = k + 1
    · subst e; exact x2
    · exact leq_trans x1 (hm d (by omega))
theorem Lat.greatest : ∀ k, k ≤ l.Names.length → 0 < k → ∃ c : Nat, c < l.Names.length ∧ ∀ d : Nat, d < k → leqN l d c = true
  | 0, _, hk => by omega
  | 1, h1, _ => ⟨0, h1, fun d hd => by
    have : d = 0 := by omega
    subst this; exact leq_refl h1⟩
  | k + 2, h1, _ => by
    obtain ⟨c, hc, hm⟩ := Lat.greatest (k + 1) (by omega) (by omega)
    obtain ⟨x, _, hx, x1, x2, _⟩ := h.join_spec hc (show k + 1 < l.Names.length by omega)
    refine ⟨x, hx, fun d hd => ?_⟩
    by_cases e : d = k + 1
    · subst e; exact x2
    · exact leq_trans (hm d (by omega)) x1
theorem Lat.bottom_spec : ∃ c : Nat, bottomN l = c ∧ c < l.Names.length ∧ ∀ d : Nat, d < l.Names.length → leqN l c d = true := by
  obtain ⟨c, hc, hm⟩ := Lat.least h _ (Nat.le_refl _) h.pos
  exact ⟨c, best_of hc rfl (fun y hy _ => hm y hy) (fun x hx u v => h.anti x c hx hc u v), hc, hm⟩
theorem Lat.top_spec : ∃ c : Nat, topN l = c ∧ c < l.Names.length ∧ ∀ d : Nat, d < l.Names.length → leqN l d c = true := by
  obtain ⟨c, hc, hm⟩ := Lat.greatest h _ (Nat.le_refl _) h.pos
  exact ⟨c, best_of hc rfl (fun y hy _ => hm y hy) (fun x hx u v => h.anti x c hx hc v u), hc, hm⟩
end
end Go.Lz
