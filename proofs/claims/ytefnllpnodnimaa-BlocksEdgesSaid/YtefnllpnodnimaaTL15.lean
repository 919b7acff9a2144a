/- A law of the blocks. Over the model of the program as it was translated; no condition. -/
import Derived.Test.YtefnllpnodnimaaP11b
import Derived.Test.YtefnllpnodnimaaST
import Derived.Test.YtefnllpnodnimaaRows
namespace Go.Proofs.Ytefnllpnodnimaa
set_option linter.unusedVariables false
set_option linter.unusedSimpArgs false
open Go.Lz Go.ChangeShapes Go.WideShapes Go.ChangeAt Go.RowKit

theorem ownK : ownKnob Try.prog.godebug = none := by kernel_rfl
theorem laidOutP : laidOutB Try.prog = true := by kernel_rfl

set_option maxRecDepth 100000 in
theorem blocksEdges_lifted (os : Os) (started : os.Started) (H : Type) (enc : TypeId × Value → H) :
    ReturnsInHanded {} Try.checked os 15 .any (Rows.blocksEdgesSpec.pre6 enc Try.prog Try.f15 Rows.blocksEdgesRow.domain false) (Rows.blocksEdgesSpec.post enc Try.prog Try.f15 false true false false) := by
  refine lifted_of_pu (C := Try.checked) (S := [60, 71, 3, 69]) (b := 4) ownK started (by kernel_rfl) Try.func15
    (ChangeSpec.witness6 (enc := enc) (C := Try.checked) false ⟨#[], #[.slice none 0 0], []⟩ 8 (by kernel_rfl) (by kernel_rfl) (by kernel_rfl) (by kernel_rfl))
    (by kernel_rfl) (by kernel_rfl) laidOutP rfl rfl Try.underlying4 ?_ ?_ rfl
  · intro ds hl
    match ds, hl with
    | [d0], _ => rfl
  · intro Xs hT _
    obtain ⟨x0, xs, rfl, hx0, hT⟩ := TysV.cons_inv (P := Try.prog) (t := 60) (ts := []) hT
    obtain rfl := TysV.nil_inv hT
    obtain ⟨l, rfl, o_l⟩ := tv_60 hx0
    exact lazarettolaw11_BlocksEdges_ok (edgesLaw l)

theorem blocksEdges_holds : Rows.BlocksEdgesSaid :=
  OpenClaim.holds_of_wide 15 Try.f15 rfl rfl rfl rfl rfl rfl rfl ⟨rfl, rfl, rfl, rfl, rfl⟩ rfl rfl rfl rfl rfl (by kernel_rfl) Try.func15 (by kernel_rfl)
    (of_decide_eq_true (by kernel_rfl)) (by unfold Func.isWrapper; first | (rw [if_pos (by decide +kernel)]; kernel_rfl) | (rw [if_neg (by decide +kernel)]; exact ⟨rfl, rfl⟩))
    (fun os started H enc _ => blocksEdges_lifted os started H enc)

#print axioms blocksEdges_holds
end Go.Proofs.Ytefnllpnodnimaa
