/- The law of the order of a lattice: whatever the input, true. Over the model of the program as it was translated; no condition. -/
import Derived.Test.YtbcpfhnlidpcbaaP01
import Derived.Test.YtbcpfhnlidpcbaaST
import Derived.Test.YtbcpfhnlidpcbaaRows
namespace Go.Proofs.Ytbcpfhnlidpcbaa
set_option linter.unusedVariables false
set_option linter.unusedSimpArgs false
open Go.Lz Go.ChangeShapes Go.WideShapes Go.ChangeAt Go.RowKit

theorem ownK : ownKnob Try.prog.godebug = none := by kernel_rfl
theorem laidOutP : laidOutB Try.prog = true := by kernel_rfl

set_option maxRecDepth 100000 in
theorem latticeChecks_lifted (os : Os) (started : os.Started) (H : Type) (enc : TypeId × Value → H) :
    ReturnsInHanded {} Try.checked os 10 .any (Rows.latticeChecksSpec.pre6 enc Try.prog Try.f10 Rows.latticeChecksRow.domain false) (Rows.latticeChecksSpec.post enc Try.prog Try.f10 false true false false) := by
  refine lifted_of_pu (C := Try.checked) (S := [3, 9, 22, 71, 23, 25]) (b := 4) ownK started (by kernel_rfl) Try.func10
    (ChangeSpec.witness6 (enc := enc) (C := Try.checked) false ⟨#[], #[.agg #[.slice none 0 0, .slice none 0 0]], []⟩ 8 (by kernel_rfl) (by kernel_rfl) (by kernel_rfl) (by kernel_rfl))
    (by kernel_rfl) (by kernel_rfl) laidOutP rfl rfl Try.underlying4 ?_ ?_ rfl
  · intro ds hl
    match ds, hl with
    | [d1], _ => rfl
  · intro Xs hT _
    obtain ⟨x, xs, rfl, hx, hT⟩ := TysV.cons_inv (P := Try.prog) (t := 25) (ts := []) hT
    obtain rfl := TysV.nil_inv hT
    obtain ⟨l, rfl, _⟩ := tv_25 hx
    exact lazarettolaw01_LatticeChecks_ok (checksLaw awake01 l)

theorem latticeChecks_holds : Rows.LatticeChecksSaid :=
  OpenClaim.holds_of_wide 10 Try.f10 rfl rfl rfl rfl rfl rfl rfl ⟨rfl, rfl, rfl, rfl, rfl⟩ rfl rfl rfl rfl rfl (by kernel_rfl) Try.func10 (by kernel_rfl)
    (of_decide_eq_true (by kernel_rfl)) (by unfold Func.isWrapper; first | (rw [if_pos (by decide +kernel)]; kernel_rfl) | (rw [if_neg (by decide +kernel)]; exact ⟨rfl, rfl⟩))
    (fun os started H enc _ => latticeChecks_lifted os started H enc)

#print axioms latticeChecks_holds
end Go.Proofs.Ytbcpfhnlidpcbaa
