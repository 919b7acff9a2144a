/- The image of any bytes, or the error. Over the model of the program as it was translated; no condition. -/
import Derived.Test.YtakkdadfikcpoaaGreatP18h
import Derived.Test.YtakkdadfikcpoaaGreatST
import Derived.Test.YtakkdadfikcpoaaGreatRows
namespace Go.Proofs.YtakkdadfikcpoaaGreat
set_option linter.unusedVariables false
set_option linter.unusedSimpArgs false
open Go.Lz Go.ChangeShapes Go.WideShapes Go.ChangeAt Go.RowKit

theorem ownK : ownKnob Tryz.prog.godebug = none := by kernel_rfl
theorem laidOutP : laidOutB Tryz.prog = true := by kernel_rfl

set_option maxRecDepth 100000 in
theorem imageDecodes_lifted (os : Os) (started : os.Started) (H : Type) (enc : TypeId × Value → H) :
    ReturnsInHanded {} Tryz.checked os 4 .any (Rows.imageDecodesSpec.pre6 enc Tryz.prog Tryz.f4 Rows.imageDecodesRow.domain false) (Rows.imageDecodesSpec.post enc Tryz.prog Tryz.f4 false true false false) := by
  refine lifted_of_pu (C := Tryz.checked) (S := [9]) (b := 4) ownK started (by kernel_rfl) Tryz.func4
    (ChangeSpec.witness6 (enc := enc) (C := Tryz.checked) false ⟨#[], #[.string ⟨#[]⟩], []⟩ 8 (by kernel_rfl) (by kernel_rfl) (by kernel_rfl) (by kernel_rfl))
    (by kernel_rfl) (by kernel_rfl) laidOutP rfl rfl Tryz.underlying4 ?_ ?_ rfl
  · intro ds hl
    match ds, hl with
    | [d0], _ => rfl
  · intro Xs hT _
    obtain ⟨x0, xs, rfl, hx0, hT⟩ := TysV.cons_inv (P := Tryz.prog) (t := 9) (ts := []) hT
    obtain rfl := TysV.nil_inv hT
    obtain ⟨s, rfl, o_s⟩ := tv_9 hx0
    exact lazarettolaw18_ImageDecodes_ok (decodesLaw18 s)

theorem imageDecodes_holds : Rows.ImageDecodesSaid :=
  OpenClaim.holds_of_wide 4 Tryz.f4 rfl rfl rfl rfl rfl rfl rfl ⟨rfl, rfl, rfl, rfl, rfl⟩ rfl rfl rfl rfl rfl (by kernel_rfl) Tryz.func4 (by kernel_rfl)
    (of_decide_eq_true (by kernel_rfl)) (by unfold Func.isWrapper; first | (rw [if_pos (by decide +kernel)]; kernel_rfl) | (rw [if_neg (by decide +kernel)]; exact ⟨rfl, rfl⟩))
    (fun os started H enc _ => imageDecodes_lifted os started H enc)

#print axioms imageDecodes_holds
end Go.Proofs.YtakkdadfikcpoaaGreat
