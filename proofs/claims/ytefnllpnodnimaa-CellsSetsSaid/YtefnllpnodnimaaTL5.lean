/- A law of the checked array. Over the model of the program as it was translated; no condition. -/
import Derived.Test.YtefnllpnodnimaaP04
import Derived.Test.YtefnllpnodnimaaST
import Derived.Test.YtefnllpnodnimaaRows
namespace Go.Proofs.Ytefnllpnodnimaa
set_option linter.unusedVariables false
set_option linter.unusedSimpArgs false
open Go.Lz Go.ChangeShapes Go.WideShapes Go.ChangeAt Go.RowKit

theorem ownK : ownKnob Try.prog.godebug = none := by kernel_rfl
theorem laidOutP : laidOutB Try.prog = true := by kernel_rfl

set_option maxRecDepth 100000 in
theorem cellsSets_lifted (os : Os) (started : os.Started) (H : Type) (enc : TypeId × Value → H) :
    ReturnsInHanded {} Try.checked os 5 .any (Rows.cellsSetsSpec.pre6 enc Try.prog Try.f5 Rows.cellsSetsRow.domain false) (Rows.cellsSetsSpec.post enc Try.prog Try.f5 false true false false) := by
  refine lifted_of_pu (C := Try.checked) (S := [23, 3, 28, 35]) (b := 4) ownK started (by kernel_rfl) Try.func5
    (ChangeSpec.witness6 (enc := enc) (C := Try.checked) false ⟨#[], #[.agg #[.int .i64 0, .int .i64 0, .int .i64 0], .slice none 0 0, .agg #[.int .i64 0, .int .i64 0]], []⟩ 8 (by kernel_rfl) (by kernel_rfl) (by kernel_rfl) (by kernel_rfl))
    (by kernel_rfl) (by kernel_rfl) laidOutP rfl rfl Try.underlying4 ?_ ?_ rfl
  · intro ds hl
    match ds, hl with
    | [d0, d1, d2], _ => rfl
  · intro Xs hT _
    obtain ⟨x0, xs, rfl, hx0, hT⟩ := TysV.cons_inv (P := Try.prog) (t := 23) (ts := [28, 35]) hT
    obtain ⟨x1, xs, rfl, hx1, hT⟩ := TysV.cons_inv hT
    obtain ⟨x2, xs, rfl, hx2, hT⟩ := TysV.cons_inv hT
    obtain rfl := TysV.nil_inv hT
    obtain ⟨t, rfl, o_t⟩ := tv_23 hx0
    obtain ⟨l, rfl, o_l⟩ := tv_28 hx1
    obtain ⟨n, rfl, o_n⟩ := tv_35 hx2
    exact lazarettolaw04_CellsSets_ok (setsLaw t l n)

theorem cellsSets_holds : Rows.CellsSetsSaid :=
  OpenClaim.holds_of_wide 5 Try.f5 rfl rfl rfl rfl rfl rfl rfl ⟨rfl, rfl, rfl, rfl, rfl⟩ rfl rfl rfl rfl rfl (by kernel_rfl) Try.func5 (by kernel_rfl)
    (of_decide_eq_true (by kernel_rfl)) (by unfold Func.isWrapper; first | (rw [if_pos (by decide +kernel)]; kernel_rfl) | (rw [if_neg (by decide +kernel)]; exact ⟨rfl, rfl⟩))
    (fun os started H enc _ => cellsSets_lifted os started H enc)

#print axioms cellsSets_holds
end Go.Proofs.Ytefnllpnodnimaa
