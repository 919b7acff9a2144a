/- Bytes that are read as an image are the ones that are written. Over the model of the program as it was translated; no condition. Over the model of the program as it was translated; no condition. -/
import Derived.Test.YtakkdadfikcpoaaP18e
import Derived.Test.YtakkdadfikcpoaaV18d
import Derived.Test.YtakkdadfikcpoaaST
import Derived.Test.YtakkdadfikcpoaaRows
import Derived.Test.YtakkdadfikcpoaaST
import Derived.Test.YtakkdadfikcpoaaRows
namespace Go.Proofs.Ytakkdadfikcpoaa
set_option linter.unusedVariables false
set_option linter.unusedSimpArgs false
open Go.Lz Go.ChangeShapes Go.WideShapes Go.ChangeAt Go.RowKit

theorem ownK : ownKnob Try.prog.godebug = none := by kernel_rfl
theorem laidOutP : laidOutB Try.prog = true := by kernel_rfl

set_option maxRecDepth 100000 in
theorem imageOnly_lifted (os : Os) (started : os.Started) (H : Type) (enc : TypeId × Value → H) :
    ReturnsInHanded {} Try.checked os 4 .any (Rows.imageOnlySpec.pre6 enc Try.prog Try.f4 Rows.imageOnlyRow.domain false) (Rows.imageOnlySpec.post enc Try.prog Try.f4 false true false false) := by
  refine lifted_of_pu (C := Try.checked) (S := [9]) (b := 4) ownK started (by kernel_rfl) Try.func4
    (ChangeSpec.witness6 (enc := enc) (C := Try.checked) false ⟨#[], #[.string ⟨#[]⟩], []⟩ 8 (by kernel_rfl) (by kernel_rfl) (by kernel_rfl) (by kernel_rfl))
    (by kernel_rfl) (by kernel_rfl) laidOutP rfl rfl Try.underlying4 ?_ ?_ rfl
  · intro ds hl
    match ds, hl with
    | [d0], _ => rfl
  · intro Xs hT _
    obtain ⟨x0, xs, rfl, hx0, hT⟩ := TysV.cons_inv (P := Try.prog) (t := 9) (ts := []) hT
    obtain rfl := TysV.nil_inv hT
    obtain ⟨s, rfl, o_s⟩ := tv_9 hx0
    exact lazarettolaw18_ImageOnly_ok ((onlyLaw s))

theorem imageOnly_holds : Rows.ImageOnlySaid :=
  OpenClaim.holds_of_wide 4 Try.f4 rfl rfl rfl rfl rfl rfl rfl ⟨rfl, rfl, rfl, rfl, rfl⟩ rfl rfl rfl rfl rfl (by kernel_rfl) Try.func4 (by kernel_rfl)
    (of_decide_eq_true (by kernel_rfl)) (by unfold Func.isWrapper; first | (rw [if_pos (by decide +kernel)]; kernel_rfl) | (rw [if_neg (by decide +kernel)]; exact ⟨rfl, rfl⟩))
    (fun os started H enc _ => imageOnly_lifted os started H enc)

#print axioms imageOnly_holds
end Go.Proofs.Ytakkdadfikcpoaa
