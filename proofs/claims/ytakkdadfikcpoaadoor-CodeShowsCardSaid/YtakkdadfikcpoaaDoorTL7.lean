/- Any instruction's text. Over the model of the program as it was translated; no condition. -/
import Derived.Test.YtakkdadfikcpoaaDoorP17d
import Derived.Test.YtakkdadfikcpoaaDoorLzC
import Derived.Test.YtakkdadfikcpoaaDoorST
import Derived.Test.YtakkdadfikcpoaaDoorRows
import Derived.Test.YtakkdadfikcpoaaDoorCards
import Derived.Test.YtakkdadfikcpoaaDoorTie
import Derived.SevenTiedAt
namespace Go.Proofs.YtakkdadfikcpoaaDoor
set_option linter.unusedVariables false
set_option linter.unusedSimpArgs false
open Go.Lz Go.ChangeShapes Go.WideShapes Go.ChangeAt Go.RowKit

theorem ownK : ownKnob Tryd.prog.godebug = none := by kernel_rfl
theorem laidOutP : laidOutB Tryd.prog = true := by kernel_rfl

set_option maxRecDepth 100000 in
theorem codeShows_lifted (os : Os) (started : os.Started) (H : Type) (enc : TypeId × Value → H) :
    ReturnsInHanded {} Tryd.checked os 7 .any (fun w args => (Rows.codeShowsSpec.pre enc Tryd.prog Tryd.f7 Rows.codeShowsRow.domain false w args ∧ laidMetH Tryd.prog laidL w) ∧ sizedMet enc Tryd.prog Tryd.f7 (OpenSpec.ofChange Rows.codeShowsSpec) false w args) (Rows.codeShowsSpec.post enc Tryd.prog Tryd.f7 false true false false) := by
  refine lifted_of_pu_laid (C := Tryd.checked) (S := [36, 3]) (b := 4) ownK started (by kernel_rfl) Tryd.func7
    (ChangeSpec.witness_shaped (enc := enc) (C := Tryd.checked) (os := os) (X := fun w _ => laidMetH Tryd.prog laidL w) false (World.doorLaid Tryd.prog 33 os) #[.agg #[.int .i64 0, .int .i64 0, .int .i64 0, .int .i64 0]] 8 rfl (World.shaped_of_RefB (by kernel_rfl) (by kernel_rfl)) (by kernel_rfl) (by kernel_rfl) (by kernel_rfl) (door_met os _))
    (by kernel_rfl) (by kernel_rfl) laidOutP rfl rfl Tryd.underlying4 ?_ (fun _ => gl_of_laid) ?_ rfl
  · intro ds hl
    match ds, hl with
    | [d0], _ => rfl
  · intro Xs hT _
    obtain ⟨x0, xs, rfl, hx0, hT⟩ := TysV.cons_inv (P := Tryd.prog) (t := 36) (ts := []) hT
    obtain rfl := TysV.nil_inv hT
    obtain ⟨i, rfl, o_i⟩ := tv_36 hx0
    exact lazarettolaw17_CodeShows_ok (showsLaw17 i ⟨o_i.2.1, o_i.2.2.1, o_i.2.2.2⟩)

theorem codeShows_holds : Rows.CodeShowsSaid :=
  OpenClaim.holds_of_wide 7 Tryd.f7 rfl rfl rfl rfl rfl rfl rfl ⟨rfl, rfl, rfl, rfl, rfl⟩ rfl rfl rfl rfl rfl (by kernel_rfl) Tryd.func7 (by kernel_rfl)
    (of_decide_eq_true (by kernel_rfl)) (by unfold Func.isWrapper; first | (rw [if_pos (by decide +kernel)]; kernel_rfl) | (rw [if_neg (by decide +kernel)]; exact ⟨rfl, rfl⟩))
    (fun os started H enc _ => codeShows_lifted os started H enc)

theorem codeShows_card : Rows.CodeShowsCardSaid :=
  Claim7.holds_tied_plain_at .later [] [.listed, .data] true (true, "9e5457b9615328e2c2d024daaa879843875580426faf8b6a0ec3bff868f32d59") false
    codeShows_holds (fun _ h => by cases h) (by kernel_rfl) (fun _ h => by cases h) codeShows_row_tie rfl ⟨rfl, rfl⟩ (by kernel_rfl) rfl
    (fun f fn hf hfn => by
      obtain rfl : f = 7 := Option.some.inj ((show Tryd.prog.funcNamed "lazaretto/lazarettolaw17.CodeShows" = some 7 by kernel_rfl).symm.trans hf) |>.symm
      obtain rfl : fn = Tryd.f7 := (Option.some.inj (Tryd.func7.symm.trans hfn)).symm
      exact ⟨by kernel_rfl, fun j t ht => by
        rw [Tryd.params7] at ht
        have hm : t ∈ [36] := by simpa using Array.mem_of_getElem? ht
        have hall : ([36].all fun u => !Tryd.prog.wantsStandIn u) = true := by kernel_rfl
        exact (show Tryd.prog.wantsStandIn t = false by simpa using List.all_eq_true.1 hall t hm)⟩)
    (by kernel_rfl)
#print axioms codeShows_card
end Go.Proofs.YtakkdadfikcpoaaDoor
