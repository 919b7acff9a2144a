/- LzC: laws whose rows list tables that start-up lays; the tied card. -/
import Derived.Test.YtakkdadfikcpoaaDoorLzE
import Derived.Test.YtakkdadfikcpoaaDoorRows
import Derived.Test.YtakkdadfikcpoaaDoorChecked
import Derived.Test.YtakkdadfikcpoaaDoorSD
import Derived.ProofKit
import Derived.LaidMore
import Derived.Lib.LaidTab
import Derived.Stop.LaidErr
import Derived.Stop.Joined
import Derived.KernelRfl
namespace Go.Lz
set_option linter.unusedVariables false
set_option linter.unusedSimpArgs false
open Go.Proofs Go.ChangeShapes Go.WideShapes Go.ChangeAt Go.RowKit
set_option maxRecDepth 100000
abbrev laidL {H : Type} : List (String × DataW H) := [("unicode.White_Space", Go.Proofs.YtakkdadfikcpoaaDoor.Rows.laid_unicode_White_Space), ("strings.asciiSpace", Go.Proofs.YtakkdadfikcpoaaDoor.Rows.laid_strings_asciiSpace)]
theorem spaceD {H : Type} : (Go.Proofs.YtakkdadfikcpoaaDoor.Rows.laid_strings_asciiSpace : DataW H) = Lib.tabData .u8 Lib.asciiSpaceTab := by rfl
theorem gl_of_laid {W : World} (h : laidMetH Tryd.prog laidL W) : Env.gl ⟨W, fun _ => False, fun _ => ⟨0, 0, 0⟩, []⟩ := by
  rw [MakeChecks.laidMetH_plain _ _ _ (by kernel_rfl)] at h
  have h2 := laidMet.tail h
  rw [spaceD] at h2
  have tab : Lib.TabIs Tryd.prog W "strings.asciiSpace" .u8 Lib.asciiSpaceTab := Lib.tabIs_of_head (g := 0) (t := 59) (e := 5) (n := 256) (by kernel_rfl) (by kernel_rfl) Tryd.underlying59 Tryd.underlying5 (by kernel_rfl) (by kernel_rfl) h2
  intro p hp
  obtain rfl := List.mem_singleton.1 hp
  have cell : ∀ c : Nat, c < 256 → W.cell? ⟨0, c, none⟩ = some (.int .u8 (if Lib.isSp (UInt8.ofNat c) then 1 else 0)) := fun c hc => by
    rw [tab.cell (g := 0) (by kernel_rfl) c (by rw [Lib.asciiSpaceTab_length]; exact hc), Lib.asciiSpaceTab_at c hc]
  refine ⟨⟨World.block_lt_of_cell? _ _ (cell 0 (by decide)), fun h => h, by rintro ⟨id, o, ho, _⟩; simp at ho⟩, fun j v hj => ?_⟩
  have hj' : spaceTab[j]? = some v := hj
  unfold spaceTab at hj'
  rw [List.getElem?_map] at hj'
  by_cases hl : j < 256
  · rw [List.getElem?_range hl] at hj'
    show W.cell? _ = _
    rw [cell j hl]
    exact hj'
  · rw [List.getElem?_eq_none (by simp; omega)] at hj'
    cases hj'
theorem door_met (os : Os) (args : Array Value) : laidMetH Tryd.prog laidL ((World.doorLaid Tryd.prog 33 os).forCall (fun _ _ => 0) ⟨#[], args, []⟩).memory :=
  laidMetH_of_parts3 (fuel := 8) (laidMet_of_run' 8 (by kernel_rfl) (by kernel_rfl)) (by kernel_rfl) (by kernel_rfl)
theorem lifted_of_pu_laid {C : Checked} {os : Os} {f : FuncId} {fn : Func} {s : ChangeSpec} {conds : List PathCond} {H : Type} {enc : TypeId × Value → H} {b : TypeId} {S : List TypeId} {l : List (String × DataW Unit)}
    (own : ownKnob C.prog.godebug = none) (started : os.Started) (noInit : C.prog.inits.idxOf? f = none) (hfn : C.prog.funcs[f]? = some fn)
    (witness : ∃ (w : World) (tape : Tape) (i : Input), w.os = os ∧ (w.forCall tape i).Shaped C.prog ∧ i.vars = [] ∧ Input.okWide C.prog (w.forCall tape i) .any w.heap.size f i ∧
      ((s.pre enc C.prog fn conds false (w.forCall tape i).memory i.args ∧ laidMetH C.prog l (w.forCall tape i).memory) ∧ sizedMet enc C.prog fn (OpenSpec.ofChange s) false (w.forCall tape i).memory i.args) ∧ ({} : Assume).holds C.prog (lone (Frame.enter C.prog f i.args .normal) [] (w.forCall tape i)))
    (hp : plainB C.prog S = true) (hpar : fn.params.toList.all (fun t => S.contains t && C.prog.readableRec t && decide (t < C.prog.types.size)) = true) (hlaid : laidOutB C.prog = true)
    (hvars : s.vars = []) (hres : fn.resultTypes = #[b]) (hb : C.prog.underlying b = some .bool)
    (hspec : ∀ (ds : List (DataW H)), ds.length = fn.params.toList.length → s.fn H ds = { results := [.lit (.bool true)], args := ds })
    (hgl : ∀ W, laidMetH C.prog l W → Env.gl ⟨W, fun _ => False, fun _ => ⟨0, 0, 0⟩, []⟩)
    (hpu : ∀ Xs, TysV C.prog fn.params.toList Xs → conds = [] → Pu C.prog f Xs (.one (.bool true))) (hcond : conds = []) :
    ReturnsInHanded {} C os f .any (fun w args => (s.pre enc C.prog fn conds false w args ∧ laidMetH C.prog l w) ∧ sizedMet enc C.prog fn (OpenSpec.ofChange s) false w args) (s.post enc C.prog fn false true false false) := by
  refine returnsInHanded_of_change_and (X := fun w _ => laidMetH C.prog l w) (fun _ _ _ hh h => laidMetH.of_heap hh h) own started noInit hfn witness ?_
  intro W base args ds gs before hval hW hcnd hsz hL _
  have hW' := hW
  obtain ⟨p, q, hA, hV, rfl, hfz, hnd⟩ := hW
  have hV' := hV
  rw [hvars] at hV'
  obtain ⟨rfl, rfl⟩ := trodVars_none hV'
  simp only [List.all_eq_true, Bool.and_eq_true, List.contains_eq_mem, decide_eq_true_eq] at hpar
  have hw : ∀ m ∈ DataW.weightsEach C.prog fn.params.toList ds, m ≤ reachBytes := by
    intro m hm
    have : m ∈ DataW.weightsEach C.prog (fn.params.toList ++ s.plain.varTypes C.prog) (ds ++ []) := by
      rw [List.append_nil]
      clear hsz hA hW' hval hcnd
      revert hm
      generalize fn.params.toList = ts
      induction ts generalizing ds with
      | nil => intro hm; simp [DataW.weightsEach] at hm
      | cons t ts ih =>
        cases ds with
        | nil => intro hm; simp [DataW.weightsEach] at hm
        | cons d ds =>
          intro hm
          simp only [DataW.weightsEach, List.cons_append, List.mem_append] at hm ⊢
          exact hm.imp id (ih ds)
    simpa using List.all_eq_true.1 hsz m this
  obtain ⟨Xs, hT, hl, hdl, hX⟩ := enter_all (E := ⟨W, fun _ => False, fun _ => ⟨0, 0, 0⟩, []⟩) rfl (fun _ h => h) hp fn.params.toList args.toList ds p (fun t ht => (hpar t ht).1.1)
    (fun j t v h1 h2 => hval j t v (by simpa using h1) (by simpa using h2)) hA hw
  refine Calls.mono ((hpu Xs hT hcond).2 ⟨W, fun _ => False, fun _ => ⟨0, 0, 0⟩, []⟩ args ⟨by simp, by simp, by simp, fun _ h => h.elim, hgl W hL⟩ rfl (by simpa using hl) (fun j x hj => ?_)) ?_
  · obtain ⟨v, hv, hr⟩ := hX j x hj
    have : args[j]? = some v := by simpa using hv
    rw [Array.getD_eq_getD_getElem?, this]
    exact hr
  · rintro e W' ⟨v, y, E', rfl, rfl, ⟨rfl, hH'⟩, hv, hh, tr⟩
    have bel := tr.below rfl
    obtain rfl : v = .bool true := by
      cases hv with
      | one h => cases h; rfl
    refine ⟨_, rfl, ds, [], p ++ [], [], p, [], hW', ?_, ?_, ?_, bel.frame _, fun h => by cases h⟩
    · rw [List.append_nil, hspec ds (by simpa using hdl), hres]
      exact trodAll_mk1 (shut_bool hb _)
    · rw [List.append_nil, hspec ds (by simpa using hdl)]
      refine trodAll_map _ _ _ _ ?_ hA
      intro t ht v d pp h
      exact Below.trod hlaid (hpar t ht).1.2 (hpar t ht).2 h bel (by obtain ⟨m, hm⟩ := h; exact DataW.trod_lt m _ _ _ hm)
    · rw [List.append_nil, hspec ds (by simpa using hdl), hvars]
      rfl
end Go.Lz
