/- P02d: the example of chapter 02. -/
import Derived.Test.YtefnllpnodnimaaP02c
namespace Go.Lz
set_option linter.unusedVariables false
set_option linter.unusedSimpArgs false
theorem leq_of {l : api_Lattice} {a b : Int} {v : Bool} (hn : l.Names.length ≤ 1000000) (h : lattice_Leq l a b = some v) : leqN l a b = v := by
  rw [latLeq hn] at h
  exact Option.some.inj h
abbrev lat2 : api_Lattice := ⟨[([108, 111, 119] : Str), ([104, 105, 103, 104] : Str)], [(⟨0, 1⟩ : A2 Int)]⟩
theorem leq2 : ∀ a b : Nat, a < 2 → b < 2 → leqN lat2 a b = decide (a ≤ b) := by
  intro a b ha hb
  refine leq_of (by decide) ?_
  obtain rfl | rfl : a = 0 ∨ a = 1 := by omega
  all_goals obtain rfl | rfl : b = 0 ∨ b = 1 := by omega
  all_goals simp [lat2, lattice_Leq, lattice_is, lattice_above, lattice_above_L1, lattice_above_L2, loop_eq, need, idx]
theorem l00 : leqN lat2 0 0 = true := leq2 0 0 (by decide) (by decide)
theorem l01 : leqN lat2 0 1 = true := leq2 0 1 (by decide) (by decide)
theorem l10 : leqN lat2 1 0 = false := leq2 1 0 (by decide) (by decide)
theorem l11 : leqN lat2 1 1 = true := leq2 1 1 (by decide) (by decide)
theorem join2 (a b : Nat) (ha : a < 2) (hb : b < 2) : joinN lat2 a b = bestN 2 (fun c => decide (a ≤ c) && decide (b ≤ c)) (fun c d => decide (c ≤ d)) := best_eq (fun x hx => by rw [leq2 a x ha hx, leq2 b x hb hx]) (fun x y hx hy => leq2 x y hx hy)
theorem j00 : joinN lat2 0 0 = 0 := (join2 0 0 (by decide) (by decide)).trans (by decide)
theorem j01 : joinN lat2 0 1 = 1 := (join2 0 1 (by decide) (by decide)).trans (by decide)
theorem j10 : joinN lat2 1 0 = 1 := (join2 1 0 (by decide) (by decide)).trans (by decide)
theorem b2 : bottomN lat2 = 0 := (best_eq (o' := fun _ => true) (fun x _ => rfl) (fun x y hx hy => leq2 x y hx hy)).trans (by decide)
theorem awake02 : lazarettolaw02_awake = some true := by
  have hn : lat2.Names.length ≤ 1000000 := by decide
  have e1 : solve_Least lat2 [1, (-1), (-1)] [(⟨0, 1⟩ : A2 Int), (⟨1, 2⟩ : A2 Int)] = some ([1, 1, 1], true) := by
    simp [solve_Least, latBottom hn, latJoin hn, latLeq hn, b2, need, solve_Least_L1, solve_Least_L2, solve_Least_L3, solve_Least_L4, loop_eq, idx, solve_row_int_at, solve_Holds, solve_Holds_L1, l00, l01, l10, l11, j00, j01, j10]
  have e2 : solve_Least lat2 [1, 0] [(⟨0, 1⟩ : A2 Int)] = some ([], false) := by
    simp [solve_Least, latBottom hn, latJoin hn, latLeq hn, b2, need, solve_Least_L1, solve_Least_L2, solve_Least_L3, solve_Least_L4, loop_eq, idx, solve_row_int_at, solve_Holds, solve_Holds_L1, l00, l01, l10, l11, j00, j01, j10]
  have e3 : solve_All lat2 [0, 1] = some 1 := by
    simp [solve_All, latBottom hn, latJoin hn, b2, solve_All_L1, loop_eq, j00, j01]
  have e4 : solve_All lat2 [] = some 0 := by
    simp [solve_All, latBottom hn, latJoin hn, b2, solve_All_L1, loop_eq, j00, j01]
  have e5 : solve_Up lat2 0 = some [0, 1] := by
    simp [solve_Up, solve_keep, solve_keep_L1, solve_Up_1, latLeq hn, loop_eq, l00, l01, l10, l11, need]
  have e6 : solve_Down lat2 0 = some [0] := by
    simp [solve_Down, solve_keep, solve_keep_L1, solve_Down_1, latLeq hn, loop_eq, l00, l01, l10, l11, need]
  have e7 : solve_Holds lat2 [1, 1, 1] [(⟨0, 1⟩ : A2 Int)] = some true := by
    simp [solve_Holds, solve_Holds_L1, loop_eq, solve_row_int_at, latLeq hn, l11, idx]
  have e8 : lazarettoref02_Ints [1, 1, 1] [1, 1, 1] = some true := ints02 _ _ rfl
  unfold lazarettolaw02_awake
  rw [e1, e2, e3, e4, e5, e6]
  simp [e7, e8]
end Go.Lz
