/- P01b: in a lattice that passes the check, joins and meets are what they should be; the laws of chapter 01. -/
import Derived.Test.YtefnllpnodnimaaP01
namespace Go.Lz
set_option linter.unusedVariables false
set_option linter.unusedSimpArgs false
theorem best_spec {n : Nat} {o : Nat → Bool} {ah : Nat → Nat → Bool} (h : 0 ≤ bestN n o ah) : ∃ c : Nat, bestN n o ah = c ∧ c < n ∧ o c = true ∧ ∀ y, y < n → o y = true → ah c y = true := by
  unfold bestN at h ⊢
  cases hf : (List.range n).find? fun x => o x && (List.range n).all fun y => !o y || ah x y with
  | none => rw [hf] at h; simp at h
  | some c =>
    have hc := List.mem_of_find?_eq_some hf
    have hp := List.find?_some hf
    simp only [Bool.and_eq_true, List.all_eq_true, List.mem_range, Bool.or_eq_true, Bool.not_eq_true'] at hp
    refine ⟨c, rfl, by simpa using hc, hp.1, fun y hy ho => ?_⟩
    rcases hp.2 y hy with h1 | h1
    · rw [h1] at ho; cases ho
    · exact h1
theorem best_of {n : Nat} {o : Nat → Bool} {ah : Nat → Nat → Bool} {c : Nat} (hc : c < n) (ho : o c = true) (ha : ∀ y, y < n → o y = true → ah c y = true) (anti : ∀ x, x < n → ah x c = true → ah c x = true → x = c) : bestN n o ah = c := by
  have h0 : 0 ≤ bestN n o ah := by
    unfold bestN
    cases hf : (List.range n).find? fun x => o x && (List.range n).all fun y => !o y || ah x y with
    | none =>
      have := List.find?_eq_none.1 hf c (by simpa using hc)
      exfalso
      apply this
      simp only [Bool.and_eq_true, List.all_eq_true, List.mem_range, Bool.or_eq_true, Bool.not_eq_true']
      refine ⟨ho, fun y hy => ?_⟩
      cases hoy : o y with
      | false => exact .inl rfl
      | true => exact .inr (ha y hy hoy)
    | some x => simp
  obtain ⟨x, e, hx, hox, hax⟩ := best_spec h0
  rw [e, anti x hx (hax c hc ho) (ha x hx hox)]
structure Lat (l : api_Lattice) : Prop where
  pos : 0 < l.Names.length
  few : l.Names.length ≤ 8
  anti : ∀ a b : Nat, a < l.Names.length → b < l.Names.length → leqN l a b = true → leqN l b a = true → a = b
  join : ∀ a b : Nat, a < l.Names.length → b < l.Names.length → 0 ≤ joinN l a b
  meet : ∀ a b : Nat, a < l.Names.length → b < l.Names.length → 0 ≤ meetN l a b
open Classical in
theorem leq_iff {l : api_Lattice} {a b : Int} : leqN l a b = true ↔ inN l a ∧ inN l b ∧ Reach l a.toNat b.toNat := by
  unfold leqN; rw [decide_eq_true_eq]
theorem leq_refl {l : api_Lattice} {a : Nat} (ha : a < l.Names.length) : leqN l a a = true := leq_iff.2 ⟨⟨by omega, by omega⟩, ⟨by omega, by omega⟩, .refl⟩
theorem leq_trans {l : api_Lattice} {a b c : Int} (h1 : leqN l a b = true) (h2 : leqN l b c = true) : leqN l a c = true :=
  leq_iff.2 ⟨(leq_iff.1 h1).1, (leq_iff.1 h2).2.1, (leq_iff.1 h1).2.2.trans (leq_iff.1 h2).2.2⟩
theorem join_comm {l : api_Lattice} {a b : Int} : joinN l a b = joinN l b a := best_eq (fun x _ => Bool.and_comm _ _) (fun x y _ _ => rfl)
theorem meet_comm {l : api_Lattice} {a b : Int} : meetN l a b = meetN l b a := best_eq (fun x _ => Bool.and_comm _ _) (fun x y _ _ => rfl)
theorem lat_of {l : api_Lattice} (h : checkN l = 0) : Lat l := by
  unfold checkN at h
  split at h
  · omega
  split at h
  · omega
  split at h
  · rename_i h1 h2 h3
    split at h
    · omega
    rename_i h4
    have h5 : ∀ a, a < l.Names.length → nodeBad l a = false := fun a ha => by
      cases hb : nodeBad l a with
      | false => rfl
      | true => exact (h4 (List.any_eq_true.2 ⟨a, by simpa using ha, hb⟩)).elim
    have h6 : ∀ a b, b < a → a < l.Names.length → pairBad l a b = false := fun a b hb ha => by
      have := h5 a ha
      unfold nodeBad at this
      rw [Bool.or_eq_false_iff] at this
      have := List.any_eq_false.1 this.2 b (by simpa using hb)
      simp only [Bool.or_eq_true, not_or, Bool.not_eq_true] at this
      exact this.2
    have h7 : ∀ a b, b < a → a < l.Names.length → ¬(leqN l a b = true ∧ leqN l b a = true) ∧ 0 ≤ joinN l a b ∧ 0 ≤ meetN l a b := fun a b hb ha => by
      have := h6 a b hb ha
      unfold pairBad at this
      simp only [Bool.or_eq_false_iff, Bool.and_eq_false_iff, decide_eq_false_iff_not] at this
      refine ⟨fun ⟨x, y⟩ => ?_, by omega, by omega⟩
      rcases this.1.1 with z | z
      · rw [z] at x; cases x
      · rw [z] at y; cases y
    have anti : ∀ a b : Nat, a < l.Names.length → b < l.Names.length → leqN l a b = true → leqN l b a = true → a = b := by
      intro a b ha hb x y
      rcases Nat.lt_trichotomy a b with hl | hl | hl
      · exact ((h7 b a hl hb).1 ⟨y, x⟩).elim
      · exact hl
      · exact ((h7 a b hl ha).1 ⟨x, y⟩).elim
    refine ⟨by omega, by omega, anti, fun a b ha hb => ?_, fun a b ha hb => ?_⟩
    · rcases Nat.lt_trichotomy a b with hl | hl | hl
      · rw [join_comm]; exact (h7 b a hl hb).2.1
      · subst hl
        rw [show joinN l a a = (a : Int) from best_of ha (by simp [leq_refl ha]) (fun y _ hy => by simpa using hy) (fun x hx u v => anti x a hx ha u v)]
        omega
      · exact (h7 a b hl ha).2.1
    · rcases Nat.lt_trichotomy a b with hl | hl | hl
      · rw [meet_comm]; exact (h7 b a hl hb).2.2
      · subst hl
        rw [show meetN l a a = (a : Int) from best_of ha (by simp [leq_refl ha]) (fun y _ hy => by simpa using hy) (fun x hx u v => anti x a hx ha v u)]
        omega
      · exact (h7 a b hl ha).2.2
  · omega
theorem Lat.join_spec {l : api_Lattice} (h : Lat l) {a b : Nat} (ha : a < l.Names.length) (hb : b < l.Names.length) :
    ∃ c : Nat, joinN l a b = c ∧ c < l.Names.length ∧ leqN l a c = true ∧ leqN l b c = true ∧ ∀ d : Nat, d < l.Names.length → leqN l a d = true → leqN l b d = true → leqN l c d = true := by
  obtain ⟨c, e, hc, ho, hm⟩ := best_spec (h.join a b ha hb)
  rw [Bool.and_eq_true] at ho
  exact ⟨c, e, hc, ho.1, ho.2, fun d hd h1 h2 => hm d hd (by rw [h1, h2]; rfl)⟩
theorem Lat.meet_spec {l : api_Lattice} (h : Lat l) {a b : Nat} (ha : a < l.Names.length) (hb : b < l.Names.length) :
    ∃ c : Nat, meetN l a b = c ∧ c < l.Names.length ∧ leqN l c a = true ∧ leqN l c b = true ∧ ∀ d : Nat, d < l.Names.length → leqN l d a = true → leqN l d b = true → leqN l d c = true := by
  obtain ⟨c, e, hc, ho, hm⟩ := best_spec (h.meet a b ha hb)
  rw [Bool.and_eq_true] at ho
  exact ⟨c, e, hc, ho.1, ho.2, fun d hd h1 h2 => hm d hd (by rw [h1, h2]; rfl)⟩
end Go.Lz
