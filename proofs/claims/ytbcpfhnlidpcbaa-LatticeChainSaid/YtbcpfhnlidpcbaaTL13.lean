/- The law that at or below goes on, and two that are so both ways are one: whatever the input, true. Over the model of the program as it was translated; no condition. -/
import Derived.Test.YtbcpfhnlidpcbaaP01c
import Derived.Test.YtbcpfhnlidpcbaaST
import Derived.Test.YtbcpfhnlidpcbaaRows
namespace Go.Proofs.Ytbcpfhnlidpcbaa
set_option linter.unusedVariables false
set_option linter.unusedSimpArgs false
open Go.Lz Go.ChangeShapes Go.WideShapes Go.ChangeAt Go.RowKit

theorem ownK : ownKnob Try.prog.godebug = none := by kernel_rfl
theorem laidOutP : laidOutB Try.prog = true := by kernel_rfl

set_option maxRecDepth 100000 in
theorem latticeChain_lifted (os : Os) (started : os.Started) (H : Type) (enc : TypeId × Value → H) :
    ReturnsInHanded {} Try.checked os 13 .any (Rows.latticeChainSpec.pre6 enc Try.prog Try.f13 Rows.latticeChainRow.domain false) (Rows.latticeChainSpec.post enc Try.prog Try.f13 false true false false) := by
  refine lifted_of_pu (C := Try.checked) (S := [25, 22, 9, 23, 71, 3, 62]) (b := 4) ownK started (by kernel_rfl) Try.func13
    (ChangeSpec.witness6 (enc := enc) (C := Try.checked) false ⟨#[], #[.agg #[.slice none 0 0, .slice none 0 0], .agg #[.int .i64 0, .int .i64 0, .int .i64 0]], []⟩ 8 (by kernel_rfl) (by kernel_rfl) (by kernel_rfl) (by kernel_rfl))
    (by kernel_rfl) (by kernel_rfl) laidOutP rfl rfl Try.underlying4 ?_ ?_ rfl
  · intro ds hl
    match ds, hl with
    | [d0, d1], _ => rfl
  · intro Xs hT _
    obtain ⟨x0, xs, rfl, hx0, hT⟩ := TysV.cons_inv (P := Try.prog) (t := 25) (ts := [62]) hT
    obtain ⟨x1, xs, rfl, hx1, hT⟩ := TysV.cons_inv hT
    obtain rfl := TysV.nil_inv hT
    obtain ⟨l, rfl, o_l⟩ := tv_25 hx0
    obtain ⟨n, rfl, o_n⟩ := tv_62 hx1
    exact lazarettolaw01_LatticeChain_ok (chainLaw awake01 l n)

theorem latticeChain_holds : Rows.LatticeChainSaid :=
  OpenClaim.holds_of_wide 13 Try.f13 rfl rfl rfl rfl rfl rfl rfl ⟨rfl, rfl, rfl, rfl, rfl⟩ rfl rfl rfl rfl rfl (by kernel_rfl) Try.func13 (by kernel_rfl)
    (of_decide_eq_true (by kernel_rfl)) (by unfold Func.isWrapper; first | (rw [if_pos (by decide +kernel)]; kernel_rfl) | (rw [if_neg (by decide +kernel)]; exact ⟨rfl, rfl⟩))
    (fun os started H enc _ => latticeChain_lifted os started H enc)

#print axioms latticeChain_holds
end Go.Proofs.Ytbcpfhnlidpcbaa
