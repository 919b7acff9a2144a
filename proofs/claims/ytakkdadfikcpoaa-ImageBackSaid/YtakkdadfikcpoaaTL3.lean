/- An image is read as it was written. Over the model of the program as it was translated; no condition. Over the model of the program as it was translated; no condition. -/
import Derived.Test.YtakkdadfikcpoaaP18e
import Derived.Test.YtakkdadfikcpoaaV18d
import Derived.Test.YtakkdadfikcpoaaST
import Derived.Test.YtakkdadfikcpoaaRows
import Derived.Test.YtakkdadfikcpoaaST
import Derived.Test.YtakkdadfikcpoaaRows
namespace Go.Proofs.Ytakkdadfikcpoaa
set_option linter.unusedVariables false
set_option linter.unusedSimpArgs false
open Go.Lz Go.ChangeShapes Go.WideShapes Go.ChangeAt Go.RowKit

theorem ownK : ownKnob Try.prog.godebug = none := by kernel_rfl
theorem laidOutP : laidOutB Try.prog = true := by kernel_rfl

set_option maxRecDepth 100000 in
theorem imageBack_lifted (os : Os) (started : os.Started) (H : Type) (enc : TypeId × Value → H) :
    ReturnsInHanded {} Try.checked os 3 .any (Rows.imageBackSpec.pre6 enc Try.prog Try.f3 Rows.imageBackRow.domain false) (Rows.imageBackSpec.post enc Try.prog Try.f3 false true false false) := by
  refine lifted_of_pu (C := Try.checked) (S := [32, 25, 22, 9, 23, 55, 3, 26, 57, 27, 61, 59, 28, 63, 29, 46, 43, 44, 146, 144, 142, 30, 47, 82]) (b := 4) ownK started (by kernel_rfl) Try.func3
    (ChangeSpec.witness6 (enc := enc) (C := Try.checked) false ⟨#[], #[.agg #[.slice none 0 0, .slice none 0 0, .slice none 0 0, .slice none 0 0, .slice none 0 0, .slice none 0 0, .slice none 0 0]], []⟩ 8 (by kernel_rfl) (by kernel_rfl) (by kernel_rfl) (by kernel_rfl))
    (by kernel_rfl) (by kernel_rfl) laidOutP rfl rfl Try.underlying4 ?_ ?_ rfl
  · intro ds hl
    match ds, hl with
    | [d0], _ => rfl
  · intro Xs hT _
    obtain ⟨x0, xs, rfl, hx0, hT⟩ := TysV.cons_inv (P := Try.prog) (t := 32) (ts := []) hT
    obtain rfl := TysV.nil_inv hT
    obtain ⟨m, rfl, o_m⟩ := tv_32 hx0
    exact lazarettolaw18_ImageBack_ok ((backLaw m))

theorem imageBack_holds : Rows.ImageBackSaid :=
  OpenClaim.holds_of_wide 3 Try.f3 rfl rfl rfl rfl rfl rfl rfl ⟨rfl, rfl, rfl, rfl, rfl⟩ rfl rfl rfl rfl rfl (by kernel_rfl) Try.func3 (by kernel_rfl)
    (of_decide_eq_true (by kernel_rfl)) (by unfold Func.isWrapper; first | (rw [if_pos (by decide +kernel)]; kernel_rfl) | (rw [if_neg (by decide +kernel)]; exact ⟨rfl, rfl⟩))
    (fun os started H enc _ => imageBack_lifted os started H enc)

#print axioms imageBack_holds
end Go.Proofs.Ytakkdadfikcpoaa
