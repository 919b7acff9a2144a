/- Whether any image may be, and its bytes or the error. Over the model of the program as it was translated; no condition. -/
import Derived.Test.YtakkdadfikcpoaaGreatP18h
import Derived.Test.YtakkdadfikcpoaaGreatST
import Derived.Test.YtakkdadfikcpoaaGreatRows
namespace Go.Proofs.YtakkdadfikcpoaaGreat
set_option linter.unusedVariables false
set_option linter.unusedSimpArgs false
open Go.Lz Go.ChangeShapes Go.WideShapes Go.ChangeAt Go.RowKit

theorem ownK : ownKnob Tryz.prog.godebug = none := by kernel_rfl
theorem laidOutP : laidOutB Tryz.prog = true := by kernel_rfl

set_option maxRecDepth 100000 in
theorem imageChecks_lifted (os : Os) (started : os.Started) (H : Type) (enc : TypeId × Value → H) :
    ReturnsInHanded {} Tryz.checked os 3 .any (Rows.imageChecksSpec.pre6 enc Tryz.prog Tryz.f3 Rows.imageChecksRow.domain false) (Rows.imageChecksSpec.post enc Tryz.prog Tryz.f3 false true false false) := by
  refine lifted_of_pu (C := Tryz.checked) (S := [32, 25, 22, 9, 23, 59, 3, 26, 61, 27, 65, 63, 28, 67, 29, 51, 48, 49, 165, 163, 161, 30, 52, 91]) (b := 4) ownK started (by kernel_rfl) Tryz.func3
    (ChangeSpec.witness6 (enc := enc) (C := Tryz.checked) false ⟨#[], #[.agg #[.slice none 0 0, .slice none 0 0, .slice none 0 0, .slice none 0 0, .slice none 0 0, .slice none 0 0, .slice none 0 0]], []⟩ 8 (by kernel_rfl) (by kernel_rfl) (by kernel_rfl) (by kernel_rfl))
    (by kernel_rfl) (by kernel_rfl) laidOutP rfl rfl Tryz.underlying4 ?_ ?_ rfl
  · intro ds hl
    match ds, hl with
    | [d0], _ => rfl
  · intro Xs hT _
    obtain ⟨x0, xs, rfl, hx0, hT⟩ := TysV.cons_inv (P := Tryz.prog) (t := 32) (ts := []) hT
    obtain rfl := TysV.nil_inv hT
    obtain ⟨m, rfl, o_m⟩ := tv_32 hx0
    exact lazarettolaw18_ImageChecks_ok (checksLaw18 m)

theorem imageChecks_holds : Rows.ImageChecksSaid :=
  OpenClaim.holds_of_wide 3 Tryz.f3 rfl rfl rfl rfl rfl rfl rfl ⟨rfl, rfl, rfl, rfl, rfl⟩ rfl rfl rfl rfl rfl (by kernel_rfl) Tryz.func3 (by kernel_rfl)
    (of_decide_eq_true (by kernel_rfl)) (by unfold Func.isWrapper; first | (rw [if_pos (by decide +kernel)]; kernel_rfl) | (rw [if_neg (by decide +kernel)]; exact ⟨rfl, rfl⟩))
    (fun os started H enc _ => imageChecks_lifted os started H enc)

#print axioms imageChecks_holds
end Go.Proofs.YtakkdadfikcpoaaGreat
