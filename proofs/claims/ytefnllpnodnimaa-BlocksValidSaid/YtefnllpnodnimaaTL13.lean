/- A law of the blocks. Over the model of the program as it was translated; no condition. -/
import Derived.Test.YtefnllpnodnimaaP11b
import Derived.Test.YtefnllpnodnimaaST
import Derived.Test.YtefnllpnodnimaaRows
namespace Go.Proofs.Ytefnllpnodnimaa
set_option linter.unusedVariables false
set_option linter.unusedSimpArgs false
open Go.Lz Go.ChangeShapes Go.WideShapes Go.ChangeAt Go.RowKit

theorem ownK : ownKnob Try.prog.godebug = none := by kernel_rfl
theorem laidOutP : laidOutB Try.prog = true := by kernel_rfl

set_option maxRecDepth 100000 in
theorem blocksValid_lifted (os : Os) (started : os.Started) (H : Type) (enc : TypeId × Value → H) :
    ReturnsInHanded {} Try.checked os 13 .any (Rows.blocksValidSpec.pre6 enc Try.prog Try.f13 Rows.blocksValidRow.domain false) (Rows.blocksValidSpec.post enc Try.prog Try.f13 false true false false) := by
  refine lifted_of_pu (C := Try.checked) (S := [9, 60, 71, 3, 69]) (b := 4) ownK started (by kernel_rfl) Try.func13
    (ChangeSpec.witness6 (enc := enc) (C := Try.checked) false ⟨#[], #[.string ⟨#[]⟩, .slice none 0 0], []⟩ 8 (by kernel_rfl) (by kernel_rfl) (by kernel_rfl) (by kernel_rfl))
    (by kernel_rfl) (by kernel_rfl) laidOutP rfl rfl Try.underlying4 ?_ ?_ rfl
  · intro ds hl
    match ds, hl with
    | [d0, d1], _ => rfl
  · intro Xs hT _
    obtain ⟨x0, xs, rfl, hx0, hT⟩ := TysV.cons_inv (P := Try.prog) (t := 9) (ts := [60]) hT
    obtain ⟨x1, xs, rfl, hx1, hT⟩ := TysV.cons_inv hT
    obtain rfl := TysV.nil_inv hT
    obtain ⟨kind, rfl, o_kind⟩ := tv_9 hx0
    obtain ⟨l, rfl, o_l⟩ := tv_60 hx1
    exact lazarettolaw11_BlocksValid_ok (validLaw kind l)

theorem blocksValid_holds : Rows.BlocksValidSaid :=
  OpenClaim.holds_of_wide 13 Try.f13 rfl rfl rfl rfl rfl rfl rfl ⟨rfl, rfl, rfl, rfl, rfl⟩ rfl rfl rfl rfl rfl (by kernel_rfl) Try.func13 (by kernel_rfl)
    (of_decide_eq_true (by kernel_rfl)) (by unfold Func.isWrapper; first | (rw [if_pos (by decide +kernel)]; kernel_rfl) | (rw [if_neg (by decide +kernel)]; exact ⟨rfl, rfl⟩))
    (fun os started H enc _ => blocksValid_lifted os started H enc)

#print axioms blocksValid_holds
end Go.Proofs.Ytefnllpnodnimaa
