/- For whatever kind of whole numbers and two numbers: just one of less, equal, greater is true, and the others go with it. Over the model of the program as it was translated; no condition. -/
import Derived.Test.YtghgpbhibanlcaaT03i
import Derived.Test.YtghgpbhibanlcaaRows
namespace Go.Proofs.Ytghgpbhibanlcaa
set_option linter.unusedVariables false
set_option linter.unusedSimpArgs false
open Go.Lz Go.ChangeShapes Go.WideShapes Go.ChangeAt Go.RowKit

theorem ownK : ownKnob Try.prog.godebug = none := by kernel_rfl
theorem laidOutP : laidOutB Try.prog = true := by kernel_rfl

set_option maxRecDepth 100000 in
theorem intsOrder_lifted (os : Os) (started : os.Started) (H : Type) (enc : TypeId × Value → H) :
    ReturnsInHanded {} Try.checked os 12 .any (Rows.intsOrderSpec.pre6 enc Try.prog Try.f12 Rows.intsOrderRow.domain false) (Rows.intsOrderSpec.post enc Try.prog Try.f12 false true false false) := by
  refine lifted_of_pu (C := Try.checked) (S := [3]) (b := 4) ownK started (by kernel_rfl) Try.func12
    (ChangeSpec.witness6 (enc := enc) (C := Try.checked) false ⟨#[], #[.int .i64 0, .int .i64 0, .int .i64 0], []⟩ 8 (by kernel_rfl) (by kernel_rfl) (by kernel_rfl) (by kernel_rfl))
    (by kernel_rfl) (by kernel_rfl) laidOutP rfl rfl Try.underlying4 ?_ ?_ rfl
  · intro ds hl
    match ds, hl with
    | [d1, d2, d3], _ => rfl
  · intro Xs hT _
    obtain ⟨x, xs, rfl, hx, hT⟩ := TysV.cons_inv (P := Try.prog) (t := 3) (ts := [3, 3]) hT
    obtain ⟨y, ys, rfl, hy, hT⟩ := TysV.cons_inv hT
    obtain ⟨z, zs, rfl, hz, hT⟩ := TysV.cons_inv hT
    obtain rfl := TysV.nil_inv hT
    obtain ⟨a, rfl, _⟩ := TyV.int_inv Try.underlying3 hz
    obtain ⟨k, rfl, _⟩ := TyV.int_inv Try.underlying3 hx
    obtain ⟨n, rfl, _⟩ := TyV.int_inv Try.underlying3 hy
    exact order12 k n a

theorem intsOrder_holds : Rows.IntsOrderSaid :=
  OpenClaim.holds_of_wide 12 Try.f12 rfl rfl rfl rfl rfl rfl rfl ⟨rfl, rfl, rfl, rfl, rfl⟩ rfl rfl rfl rfl rfl (by kernel_rfl) Try.func12 (by kernel_rfl)
    (of_decide_eq_true (by kernel_rfl)) (by unfold Func.isWrapper; first | (rw [if_pos (by decide +kernel)]; kernel_rfl) | (rw [if_neg (by decide +kernel)]; exact ⟨rfl, rfl⟩))
    (fun os started H enc _ => intsOrder_lifted os started H enc)

#print axioms intsOrder_holds
end Go.Proofs.Ytghgpbhibanlcaa
