/- A law of the checked array. Over the model of the program as it was translated; no condition. -/
import Derived.Test.YtefnllpnodnimaaP04
import Derived.Test.YtefnllpnodnimaaST
import Derived.Test.YtefnllpnodnimaaRows
namespace Go.Proofs.Ytefnllpnodnimaa
set_option linter.unusedVariables false
set_option linter.unusedSimpArgs false
open Go.Lz Go.ChangeShapes Go.WideShapes Go.ChangeAt Go.RowKit

theorem ownK : ownKnob Try.prog.godebug = none := by kernel_rfl
theorem laidOutP : laidOutB Try.prog = true := by kernel_rfl

set_option maxRecDepth 100000 in
theorem cellsAll_lifted (os : Os) (started : os.Started) (H : Type) (enc : TypeId × Value → H) :
    ReturnsInHanded {} Try.checked os 7 .any (Rows.cellsAllSpec.pre6 enc Try.prog Try.f7 Rows.cellsAllRow.domain false) (Rows.cellsAllSpec.post enc Try.prog Try.f7 false true false false) := by
  refine lifted_of_pu (C := Try.checked) (S := [23, 3]) (b := 4) ownK started (by kernel_rfl) Try.func7
    (ChangeSpec.witness6 (enc := enc) (C := Try.checked) false ⟨#[], #[.agg #[.int .i64 0, .int .i64 0, .int .i64 0], .int .i64 0], []⟩ 8 (by kernel_rfl) (by kernel_rfl) (by kernel_rfl) (by kernel_rfl))
    (by kernel_rfl) (by kernel_rfl) laidOutP rfl rfl Try.underlying4 ?_ ?_ rfl
  · intro ds hl
    match ds, hl with
    | [d0, d1], _ => rfl
  · intro Xs hT _
    obtain ⟨x0, xs, rfl, hx0, hT⟩ := TysV.cons_inv (P := Try.prog) (t := 23) (ts := [3]) hT
    obtain ⟨x1, xs, rfl, hx1, hT⟩ := TysV.cons_inv hT
    obtain rfl := TysV.nil_inv hT
    obtain ⟨t, rfl, o_t⟩ := tv_23 hx0
    obtain ⟨i, rfl, o_i⟩ := tv_3 hx1
    exact lazarettolaw04_CellsAll_ok (allLaw t i)

theorem cellsAll_holds : Rows.CellsAllSaid :=
  OpenClaim.holds_of_wide 7 Try.f7 rfl rfl rfl rfl rfl rfl rfl ⟨rfl, rfl, rfl, rfl, rfl⟩ rfl rfl rfl rfl rfl (by kernel_rfl) Try.func7 (by kernel_rfl)
    (of_decide_eq_true (by kernel_rfl)) (by unfold Func.isWrapper; first | (rw [if_pos (by decide +kernel)]; kernel_rfl) | (rw [if_neg (by decide +kernel)]; exact ⟨rfl, rfl⟩))
    (fun os started H enc _ => cellsAll_lifted os started H enc)

#print axioms cellsAll_holds
end Go.Proofs.Ytefnllpnodnimaa
