/- For whatever operation, kind and numbers: what comes out is valid of the result's kind. Over the model of the program as it was translated; no condition. -/
import Derived.Test.YtghgpbhibanlcaaT03f
import Derived.Test.YtghgpbhibanlcaaRows
namespace Go.Proofs.Ytghgpbhibanlcaa
set_option linter.unusedVariables false
set_option linter.unusedSimpArgs false
open Go.Lz Go.ChangeShapes Go.WideShapes Go.ChangeAt Go.RowKit

theorem ownK : ownKnob Try.prog.godebug = none := by kernel_rfl
theorem laidOutP : laidOutB Try.prog = true := by kernel_rfl

theorem pair_inv {cs : List C} (h : Ty Try.prog 35 cs) : ∃ a b, cs = [.int .i64 a, .int .i64 b] := by
  obtain ⟨hl, hf⟩ := h.array_inv Try.underlying35
  have e1 : Try.prog.cellsOf 35 = 2 := by kernel_rfl
  have e2 : Try.prog.cellsOf 3 = 1 := by kernel_rfl
  rw [e1] at hl
  obtain ⟨x, y, rfl⟩ : ∃ x y, cs = [x, y] := by
    match cs, hl with
    | [x, y], _ => exact ⟨x, y, rfl⟩
  have h0 := hf 0 (by decide)
  have h1 := hf 1 (by decide)
  rw [e2] at h0 h1
  obtain ⟨a, ea, _⟩ := h0.int_inv Try.underlying3
  obtain ⟨b, eb, _⟩ := h1.int_inv Try.underlying3
  simp at ea eb
  exact ⟨a, b, by rw [ea, eb]⟩

set_option maxRecDepth 100000 in
theorem intsValid_lifted (os : Os) (started : os.Started) (H : Type) (enc : TypeId × Value → H) :
    ReturnsInHanded {} Try.checked os 10 .any (Rows.intsValidSpec.pre6 enc Try.prog Try.f10 Rows.intsValidRow.domain false) (Rows.intsValidSpec.post enc Try.prog Try.f10 false true false false) := by
  refine lifted_of_pu (C := Try.checked) (S := [3, 35]) (b := 4) ownK started (by kernel_rfl) Try.func10
    (ChangeSpec.witness6 (enc := enc) (C := Try.checked) false ⟨#[], #[.int .i64 0, .int .i64 0, .agg #[.int .i64 0, .int .i64 0]], []⟩ 8 (by kernel_rfl) (by kernel_rfl) (by kernel_rfl) (by kernel_rfl))
    (by kernel_rfl) (by kernel_rfl) laidOutP rfl rfl Try.underlying4 ?_ ?_ rfl
  · intro ds hl
    match ds, hl with
    | [d1, d2, d3], _ => rfl
  · intro Xs hT _
    obtain ⟨x, xs, rfl, hx, hT⟩ := TysV.cons_inv (P := Try.prog) (t := 3) (ts := [3, 35]) hT
    obtain ⟨y, ys, rfl, hy, hT⟩ := TysV.cons_inv hT
    obtain ⟨z, zs, rfl, hz, hT⟩ := TysV.cons_inv hT
    obtain rfl := TysV.nil_inv hT
    obtain ⟨cs, rfl, hcs⟩ := hz.agg_inv (by kernel_rfl)
    obtain ⟨a, b, rfl⟩ := pair_inv hcs
    obtain ⟨k, rfl, _⟩ := TyV.int_inv Try.underlying3 hx
    obtain ⟨n, rfl, _⟩ := TyV.int_inv Try.underlying3 hy
    exact valid10 k n a b

theorem intsValid_holds : Rows.IntsValidSaid :=
  OpenClaim.holds_of_wide 10 Try.f10 rfl rfl rfl rfl rfl rfl rfl ⟨rfl, rfl, rfl, rfl, rfl⟩ rfl rfl rfl rfl rfl (by kernel_rfl) Try.func10 (by kernel_rfl)
    (of_decide_eq_true (by kernel_rfl)) (by unfold Func.isWrapper; first | (rw [if_pos (by decide +kernel)]; kernel_rfl) | (rw [if_neg (by decide +kernel)]; exact ⟨rfl, rfl⟩))
    (fun os started H enc _ => intsValid_lifted os started H enc)

#print axioms intsValid_holds
end Go.Proofs.Ytghgpbhibanlcaa
