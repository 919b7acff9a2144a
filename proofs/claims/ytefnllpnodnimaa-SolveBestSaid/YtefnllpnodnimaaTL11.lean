/- A law of the constraints. Over the model of the program as it was translated; no condition. -/
import Derived.Test.YtefnllpnodnimaaP02d
import Derived.Test.YtefnllpnodnimaaST
import Derived.Test.YtefnllpnodnimaaRows
namespace Go.Proofs.Ytefnllpnodnimaa
set_option linter.unusedVariables false
set_option linter.unusedSimpArgs false
open Go.Lz Go.ChangeShapes Go.WideShapes Go.ChangeAt Go.RowKit

theorem ownK : ownKnob Try.prog.godebug = none := by kernel_rfl
theorem laidOutP : laidOutB Try.prog = true := by kernel_rfl

set_option maxRecDepth 100000 in
theorem solveBest_lifted (os : Os) (started : os.Started) (H : Type) (enc : TypeId × Value → H) :
    ReturnsInHanded {} Try.checked os 11 .any (Rows.solveBestSpec.pre6 enc Try.prog Try.f11 Rows.solveBestRow.domain false) (Rows.solveBestSpec.post enc Try.prog Try.f11 false true false false) := by
  refine lifted_of_pu (C := Try.checked) (S := [45, 42, 9, 43, 35, 3, 28]) (b := 4) ownK started (by kernel_rfl) Try.func11
    (ChangeSpec.witness6 (enc := enc) (C := Try.checked) false ⟨#[], #[.agg #[.slice none 0 0, .slice none 0 0], .slice none 0 0, .slice none 0 0], []⟩ 8 (by kernel_rfl) (by kernel_rfl) (by kernel_rfl) (by kernel_rfl))
    (by kernel_rfl) (by kernel_rfl) laidOutP rfl rfl Try.underlying4 ?_ ?_ rfl
  · intro ds hl
    match ds, hl with
    | [d0, d1, d2], _ => rfl
  · intro Xs hT _
    obtain ⟨x0, xs, rfl, hx0, hT⟩ := TysV.cons_inv (P := Try.prog) (t := 45) (ts := [28, 43]) hT
    obtain ⟨x1, xs, rfl, hx1, hT⟩ := TysV.cons_inv hT
    obtain ⟨x2, xs, rfl, hx2, hT⟩ := TysV.cons_inv hT
    obtain rfl := TysV.nil_inv hT
    obtain ⟨l, rfl, o_l⟩ := tv_45 hx0
    obtain ⟨labels, rfl, o_labels⟩ := tv_28 hx1
    obtain ⟨rules, rfl, o_rules⟩ := tv_43 hx2
    exact lazarettolaw02_SolveBest_ok (bestLaw awake02 l labels rules)

theorem solveBest_holds : Rows.SolveBestSaid :=
  OpenClaim.holds_of_wide 11 Try.f11 rfl rfl rfl rfl rfl rfl rfl ⟨rfl, rfl, rfl, rfl, rfl⟩ rfl rfl rfl rfl rfl (by kernel_rfl) Try.func11 (by kernel_rfl)
    (of_decide_eq_true (by kernel_rfl)) (by unfold Func.isWrapper; first | (rw [if_pos (by decide +kernel)]; kernel_rfl) | (rw [if_neg (by decide +kernel)]; exact ⟨rfl, rfl⟩))
    (fun os started H enc _ => solveBest_lifted os started H enc)

#print axioms solveBest_holds
end Go.Proofs.Ytefnllpnodnimaa
