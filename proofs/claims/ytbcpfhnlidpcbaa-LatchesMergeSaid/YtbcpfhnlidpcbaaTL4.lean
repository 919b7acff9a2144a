/- The law of merging latches: whatever the input, true. Over the model of the program as it was translated; no condition. -/
import Derived.Test.YtbcpfhnlidpcbaaP23
import Derived.Test.YtbcpfhnlidpcbaaST
import Derived.Test.YtbcpfhnlidpcbaaRows
namespace Go.Proofs.Ytbcpfhnlidpcbaa
set_option linter.unusedVariables false
set_option linter.unusedSimpArgs false
open Go.Lz Go.ChangeShapes Go.WideShapes Go.ChangeAt Go.RowKit

theorem ownK : ownKnob Try.prog.godebug = none := by kernel_rfl
theorem laidOutP : laidOutB Try.prog = true := by kernel_rfl

set_option maxRecDepth 100000 in
theorem latchesMerge_lifted (os : Os) (started : os.Started) (H : Type) (enc : TypeId × Value → H) :
    ReturnsInHanded {} Try.checked os 4 .any (Rows.latchesMergeSpec.pre6 enc Try.prog Try.f4 Rows.latchesMergeRow.domain false) (Rows.latchesMergeSpec.post enc Try.prog Try.f4 false true false false) := by
  refine lifted_of_pu (C := Try.checked) (S := [3, 37]) (b := 4) ownK started (by kernel_rfl) Try.func4
    (ChangeSpec.witness6 (enc := enc) (C := Try.checked) false ⟨#[], #[.slice none 0 0, .slice none 0 0, .slice none 0 0], []⟩ 8 (by kernel_rfl) (by kernel_rfl) (by kernel_rfl) (by kernel_rfl))
    (by kernel_rfl) (by kernel_rfl) laidOutP rfl rfl Try.underlying4 ?_ ?_ rfl
  · intro ds hl
    match ds, hl with
    | [d1, d2, d3], _ => rfl
  · intro Xs hT _
    obtain ⟨x, xs, rfl, hx, hT⟩ := TysV.cons_inv (P := Try.prog) (t := 37) (ts := [37, 37]) hT
    obtain ⟨y, ys, rfl, hy, hT⟩ := TysV.cons_inv hT
    obtain ⟨z, zs, rfl, hz, hT⟩ := TysV.cons_inv hT
    obtain rfl := TysV.nil_inv hT
    obtain ⟨a, rfl, _⟩ := tv_37 hx
    obtain ⟨b, rfl, _⟩ := tv_37 hy
    obtain ⟨c, rfl, _⟩ := tv_37 hz
    exact lazarettolaw23_LatchesMerge_ok (mergeLaw awake23 a b c)

theorem latchesMerge_holds : Rows.LatchesMergeSaid :=
  OpenClaim.holds_of_wide 4 Try.f4 rfl rfl rfl rfl rfl rfl rfl ⟨rfl, rfl, rfl, rfl, rfl⟩ rfl rfl rfl rfl rfl (by kernel_rfl) Try.func4 (by kernel_rfl)
    (of_decide_eq_true (by kernel_rfl)) (by unfold Func.isWrapper; first | (rw [if_pos (by decide +kernel)]; kernel_rfl) | (rw [if_neg (by decide +kernel)]; exact ⟨rfl, rfl⟩))
    (fun os started H enc _ => latchesMerge_lifted os started H enc)

#print axioms latchesMerge_holds
end Go.Proofs.Ytbcpfhnlidpcbaa
