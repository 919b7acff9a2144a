/- A law of the kinds of statements. Over the model of the program as it was translated; no condition. -/
import Derived.Test.YtmgedefdjobgdaaGreatP12b
import Derived.Test.YtmgedefdjobgdaaGreatV12b
import Derived.Test.YtmgedefdjobgdaaGreatST
import Derived.Test.YtmgedefdjobgdaaGreatRows
namespace Go.Proofs.YtmgedefdjobgdaaGreat
set_option linter.unusedVariables false
set_option linter.unusedSimpArgs false
open Go.Lz Go.ChangeShapes Go.WideShapes Go.ChangeAt Go.RowKit

theorem ownK : ownKnob Tryz.prog.godebug = none := by kernel_rfl
theorem laidOutP : laidOutB Tryz.prog = true := by kernel_rfl

set_option maxRecDepth 100000 in
theorem typingEach_lifted (os : Os) (started : os.Started) (H : Type) (enc : TypeId × Value → H) :
    ReturnsInHanded {} Tryz.checked os 6 .any (Rows.typingEachSpec.pre6 enc Tryz.prog Tryz.f6 Rows.typingEachRow.domain false) (Rows.typingEachSpec.post enc Tryz.prog Tryz.f6 false true false false) := by
  refine lifted_of_pu (C := Tryz.checked) (S := [31, 25, 22, 9, 23, 108, 3, 26, 79, 27, 56, 54, 28, 62, 29, 40, 37, 38, 70, 44, 42]) (b := 4) ownK started (by kernel_rfl) Tryz.func6
    (ChangeSpec.witness6 (enc := enc) (C := Tryz.checked) false ⟨#[], #[.agg #[.slice none 0 0, .slice none 0 0, .slice none 0 0, .slice none 0 0, .slice none 0 0, .slice none 0 0]], []⟩ 8 (by kernel_rfl) (by kernel_rfl) (by kernel_rfl) (by kernel_rfl))
    (by kernel_rfl) (by kernel_rfl) laidOutP rfl rfl Tryz.underlying4 ?_ ?_ rfl
  · intro ds hl
    match ds, hl with
    | [d0], _ => rfl
  · intro Xs hT _
    obtain ⟨x0, xs, rfl, hx0, hT⟩ := TysV.cons_inv (P := Tryz.prog) (t := 31) (ts := []) hT
    obtain rfl := TysV.nil_inv hT
    obtain ⟨p, rfl, o_p⟩ := tv_31 hx0
    exact lazarettolaw12_TypingEach_ok (eachLaw awake12 p)

theorem typingEach_holds : Rows.TypingEachSaid :=
  OpenClaim.holds_of_wide 6 Tryz.f6 rfl rfl rfl rfl rfl rfl rfl ⟨rfl, rfl, rfl, rfl, rfl⟩ rfl rfl rfl rfl rfl (by kernel_rfl) Tryz.func6 (by kernel_rfl)
    (of_decide_eq_true (by kernel_rfl)) (by unfold Func.isWrapper; first | (rw [if_pos (by decide +kernel)]; kernel_rfl) | (rw [if_neg (by decide +kernel)]; exact ⟨rfl, rfl⟩))
    (fun os started H enc _ => typingEach_lifted os started H enc)

#print axioms typingEach_holds
end Go.Proofs.YtmgedefdjobgdaaGreat
