/- The law of the outputs of any image that may be, any memory, any latches: whatever the input, true. Over the model of the program as it was translated; no condition. -/
import Derived.Test.YtbcpfhnlidpcbaaP23b
import Derived.Test.YtbcpfhnlidpcbaaST
import Derived.Test.YtbcpfhnlidpcbaaRows
namespace Go.Proofs.Ytbcpfhnlidpcbaa
set_option linter.unusedVariables false
set_option linter.unusedSimpArgs false
open Go.Lz Go.ChangeShapes Go.WideShapes Go.ChangeAt Go.RowKit

theorem ownK : ownKnob Try.prog.godebug = none := by kernel_rfl
theorem laidOutP : laidOutB Try.prog = true := by kernel_rfl

set_option maxRecDepth 100000 in
theorem latchesOutputs_lifted (os : Os) (started : os.Started) (H : Type) (enc : TypeId × Value → H) :
    ReturnsInHanded {} Try.checked os 3 .any (Rows.latchesOutputsSpec.pre6 enc Try.prog Try.f3 Rows.latchesOutputsRow.domain false) (Rows.latchesOutputsSpec.post enc Try.prog Try.f3 false true false false) := by
  refine lifted_of_pu (C := Try.checked) (S := [32, 25, 22, 9, 23, 71, 3, 26, 85, 27, 48, 46, 28, 81, 29, 68, 37, 66, 104, 102, 100, 30, 69, 118, 36, 33, 34, 142]) (b := 4) ownK started (by kernel_rfl) Try.func3
    (ChangeSpec.witness6 (enc := enc) (C := Try.checked) false ⟨#[], #[.agg #[.slice none 0 0, .slice none 0 0, .slice none 0 0, .slice none 0 0, .slice none 0 0, .slice none 0 0, .slice none 0 0], .agg #[.slice none 0 0, .slice none 0 0], .slice none 0 0], []⟩ 8 (by kernel_rfl) (by kernel_rfl) (by kernel_rfl) (by kernel_rfl))
    (by kernel_rfl) (by kernel_rfl) laidOutP rfl rfl Try.underlying4 ?_ ?_ rfl
  · intro ds hl
    match ds, hl with
    | [d0, d1, d2], _ => rfl
  · intro Xs hT _
    obtain ⟨x0, xs, rfl, hx0, hT⟩ := TysV.cons_inv (P := Try.prog) (t := 32) (ts := [36, 37]) hT
    obtain ⟨x1, xs, rfl, hx1, hT⟩ := TysV.cons_inv hT
    obtain ⟨x2, xs, rfl, hx2, hT⟩ := TysV.cons_inv hT
    obtain rfl := TysV.nil_inv hT
    obtain ⟨m, rfl, o_m⟩ := tv_32 hx0
    obtain ⟨mem, rfl, o_mem⟩ := tv_36 hx1
    obtain ⟨x, rfl, o_x⟩ := tv_37 hx2
    exact lazarettolaw23_LatchesOutputs_ok (outputsLaw awake23 m mem x)

theorem latchesOutputs_holds : Rows.LatchesOutputsSaid :=
  OpenClaim.holds_of_wide 3 Try.f3 rfl rfl rfl rfl rfl rfl rfl ⟨rfl, rfl, rfl, rfl, rfl⟩ rfl rfl rfl rfl rfl (by kernel_rfl) Try.func3 (by kernel_rfl)
    (of_decide_eq_true (by kernel_rfl)) (by unfold Func.isWrapper; first | (rw [if_pos (by decide +kernel)]; kernel_rfl) | (rw [if_neg (by decide +kernel)]; exact ⟨rfl, rfl⟩))
    (fun os started H enc _ => latchesOutputs_lifted os started H enc)

#print axioms latchesOutputs_holds
end Go.Proofs.Ytbcpfhnlidpcbaa
