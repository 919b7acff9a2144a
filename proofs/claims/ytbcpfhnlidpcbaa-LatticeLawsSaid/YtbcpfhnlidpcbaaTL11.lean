/- The law that joins and meets go both ways alike, in whatever order, and absorb each other: whatever the input, true. Over the model of the program as it was translated; no condition. -/
import Derived.Test.YtbcpfhnlidpcbaaP01c
import Derived.Test.YtbcpfhnlidpcbaaST
import Derived.Test.YtbcpfhnlidpcbaaRows
namespace Go.Proofs.Ytbcpfhnlidpcbaa
set_option linter.unusedVariables false
set_option linter.unusedSimpArgs false
open Go.Lz Go.ChangeShapes Go.WideShapes Go.ChangeAt Go.RowKit

theorem ownK : ownKnob Try.prog.godebug = none := by kernel_rfl
theorem laidOutP : laidOutB Try.prog = true := by kernel_rfl

set_option maxRecDepth 100000 in
theorem latticeLaws_lifted (os : Os) (started : os.Started) (H : Type) (enc : TypeId × Value → H) :
    ReturnsInHanded {} Try.checked os 11 .any (Rows.latticeLawsSpec.pre6 enc Try.prog Try.f11 Rows.latticeLawsRow.domain false) (Rows.latticeLawsSpec.post enc Try.prog Try.f11 false true false false) := by
  refine lifted_of_pu (C := Try.checked) (S := [25, 22, 9, 23, 71, 3, 62]) (b := 4) ownK started (by kernel_rfl) Try.func11
    (ChangeSpec.witness6 (enc := enc) (C := Try.checked) false ⟨#[], #[.agg #[.slice none 0 0, .slice none 0 0], .agg #[.int .i64 0, .int .i64 0, .int .i64 0]], []⟩ 8 (by kernel_rfl) (by kernel_rfl) (by kernel_rfl) (by kernel_rfl))
    (by kernel_rfl) (by kernel_rfl) laidOutP rfl rfl Try.underlying4 ?_ ?_ rfl
  · intro ds hl
    match ds, hl with
    | [d0, d1], _ => rfl
  · intro Xs hT _
    obtain ⟨x0, xs, rfl, hx0, hT⟩ := TysV.cons_inv (P := Try.prog) (t := 25) (ts := [62]) hT
    obtain ⟨x1, xs, rfl, hx1, hT⟩ := TysV.cons_inv hT
    obtain rfl := TysV.nil_inv hT
    obtain ⟨l, rfl, o_l⟩ := tv_25 hx0
    obtain ⟨n, rfl, o_n⟩ := tv_62 hx1
    exact lazarettolaw01_LatticeLaws_ok (lawsLaw awake01 l n)

theorem latticeLaws_holds : Rows.LatticeLawsSaid :=
  OpenClaim.holds_of_wide 11 Try.f11 rfl rfl rfl rfl rfl rfl rfl ⟨rfl, rfl, rfl, rfl, rfl⟩ rfl rfl rfl rfl rfl (by kernel_rfl) Try.func11 (by kernel_rfl)
    (of_decide_eq_true (by kernel_rfl)) (by unfold Func.isWrapper; first | (rw [if_pos (by decide +kernel)]; kernel_rfl) | (rw [if_neg (by decide +kernel)]; exact ⟨rfl, rfl⟩))
    (fun os started H enc _ => latticeLaws_lifted os started H enc)

#print axioms latticeLaws_holds
end Go.Proofs.Ytbcpfhnlidpcbaa
