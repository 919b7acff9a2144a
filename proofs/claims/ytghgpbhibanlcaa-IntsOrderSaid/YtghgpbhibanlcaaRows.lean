/-
  No cell of these rows narrows 'for every input' (looked for: loops, veiled, ifaces, maps, wideKeys, modest, calm, conditions, laid).
  DERIVED. THE GIVEN ROWS OF THIS SEAT. 10 by the template 'for every input the law returns true; each argument reads behind the call as it read before'; 0 by the template 'total and deterministic' (their statements: YtghgpbhibanlcaaTotals.lean).
  GIVEN WITH THE SEED: the statements are not yours to turn. If you find one false, say at which input.
  Laid BY PROGRAM, IN A SANDBOX (cutbox-rows.mjs): the forced cells as the released guide's own fill.sh prints them over the translation 4771d03805d09104… (all of the seat's roots in one cut). By AI agents, Wed Nov 11 2026. No macro, syntax, notation, axiom, sorry.
-/
import Derived.Test.YtghgpbhibanlcaaChecked
import GoSem.Claim
import GoSem.ClaimJoined
import GoSem.ClaimMapViews
import Derived.JoinedTies
import Derived.KernelRfl
namespace Go.Proofs.Ytghgpbhibanlcaa
/- THE CELL 'sum', in the pinned program and in every row, IS THE sha256 OF THE DUMP (.gsa) THAT YtghgpbhibanlcaaProg.lean LOADS. Nothing in Lean hashes anything: it is a label: what it is worth is what the hold of that sum in a sandbox is worth. -/
noncomputable def Try.pinned : Pinned := { name := "ytghgpbhibanlcaa", sum := "4771d03805d09104ec8de798a0e1f75bf1df50ec464da29ccd9455bf7070d6ac", checked := Try.checked }
namespace Rows
def none {H : Type} : Left H := { results := [], args := [] }

/-- 'lazarettolaw04.CellsTypes': WHATEVER THE INPUT: true; the input reads as it did. -/
def cellsTypesSpec : ChangeSpec := { name := "cellsTypes", fn := fun _ => fun
  | [d] => { results := [.lit (.bool true)], args := [d] }
  | _ => none }
def cellsTypesRow : OpenClaim := { program := "ytghgpbhibanlcaa", sum := "4771d03805d09104ec8de798a0e1f75bf1df50ec464da29ccd9455bf7070d6ac", func := "lazaretto/lazarettolaw04.CellsTypes", spec := "cellsTypes", apart := false }
def CellsTypesSaid : Prop := cellsTypesRow.holds Try.pinned (OpenSpec.ofChange cellsTypesSpec)

/-- ITS FALSE NEIGHBOUR: 'it returns false'. Refute it at one input. -/
def cellsTypesWrong : ChangeSpec := { name := "cellsTypes", fn := fun _ => fun
  | [d] => { results := [.lit (.bool false)], args := [d] }
  | _ => none }
def CellsTypesWrongFalsely : Prop := cellsTypesRow.holds Try.pinned (OpenSpec.ofChange cellsTypesWrong)

/-- 'lazarettolaw04.CellsGets': WHATEVER THE INPUT: true; the input reads as it did. -/
def cellsGetsSpec : ChangeSpec := { name := "cellsGets", fn := fun _ => fun
  | [d1, d2, d3] => { results := [.lit (.bool true)], args := [d1, d2, d3] }
  | _ => none }
def cellsGetsRow : OpenClaim := { program := "ytghgpbhibanlcaa", sum := "4771d03805d09104ec8de798a0e1f75bf1df50ec464da29ccd9455bf7070d6ac", func := "lazaretto/lazarettolaw04.CellsGets", spec := "cellsGets", apart := false }
def CellsGetsSaid : Prop := cellsGetsRow.holds Try.pinned (OpenSpec.ofChange cellsGetsSpec)

/-- ITS FALSE NEIGHBOUR: 'it returns false'. Refute it at one input. -/
def cellsGetsWrong : ChangeSpec := { name := "cellsGets", fn := fun _ => fun
  | [d1, d2, d3] => { results := [.lit (.bool false)], args := [d1, d2, d3] }
  | _ => none }
def CellsGetsWrongFalsely : Prop := cellsGetsRow.holds Try.pinned (OpenSpec.ofChange cellsGetsWrong)

/-- 'lazarettolaw04.CellsSets': WHATEVER THE INPUT: true; the input reads as it did. -/
def cellsSetsSpec : ChangeSpec := { name := "cellsSets", fn := fun _ => fun
  | [d1, d2, d3] => { results := [.lit (.bool true)], args := [d1, d2, d3] }
  | _ => none }
def cellsSetsRow : OpenClaim := { program := "ytghgpbhibanlcaa", sum := "4771d03805d09104ec8de798a0e1f75bf1df50ec464da29ccd9455bf7070d6ac", func := "lazaretto/lazarettolaw04.CellsSets", spec := "cellsSets", apart := false }
def CellsSetsSaid : Prop := cellsSetsRow.holds Try.pinned (OpenSpec.ofChange cellsSetsSpec)

/-- ITS FALSE NEIGHBOUR: 'it returns false'. Refute it at one input. -/
def cellsSetsWrong : ChangeSpec := { name := "cellsSets", fn := fun _ => fun
  | [d1, d2, d3] => { results := [.lit (.bool false)], args := [d1, d2, d3] }
  | _ => none }
def CellsSetsWrongFalsely : Prop := cellsSetsRow.holds Try.pinned (OpenSpec.ofChange cellsSetsWrong)

/-- 'lazarettolaw04.CellsBack': WHATEVER THE INPUT: true; the input reads as it did. -/
def cellsBackSpec : ChangeSpec := { name := "cellsBack", fn := fun _ => fun
  | [d1, d2] => { results := [.lit (.bool true)], args := [d1, d2] }
  | _ => none }
def cellsBackRow : OpenClaim := { program := "ytghgpbhibanlcaa", sum := "4771d03805d09104ec8de798a0e1f75bf1df50ec464da29ccd9455bf7070d6ac", func := "lazaretto/lazarettolaw04.CellsBack", spec := "cellsBack", apart := false }
def CellsBackSaid : Prop := cellsBackRow.holds Try.pinned (OpenSpec.ofChange cellsBackSpec)

/-- ITS FALSE NEIGHBOUR: 'it returns false'. Refute it at one input. -/
def cellsBackWrong : ChangeSpec := { name := "cellsBack", fn := fun _ => fun
  | [d1, d2] => { results := [.lit (.bool false)], args := [d1, d2] }
  | _ => none }
def CellsBackWrongFalsely : Prop := cellsBackRow.holds Try.pinned (OpenSpec.ofChange cellsBackWrong)

/-- 'lazarettolaw04.CellsAll': WHATEVER THE INPUT: true; the input reads as it did. -/
def cellsAllSpec : ChangeSpec := { name := "cellsAll", fn := fun _ => fun
  | [d1, d2] => { results := [.lit (.bool true)], args := [d1, d2] }
  | _ => none }
def cellsAllRow : OpenClaim := { program := "ytghgpbhibanlcaa", sum := "4771d03805d09104ec8de798a0e1f75bf1df50ec464da29ccd9455bf7070d6ac", func := "lazaretto/lazarettolaw04.CellsAll", spec := "cellsAll", apart := false }
def CellsAllSaid : Prop := cellsAllRow.holds Try.pinned (OpenSpec.ofChange cellsAllSpec)

/-- ITS FALSE NEIGHBOUR: 'it returns false'. Refute it at one input. -/
def cellsAllWrong : ChangeSpec := { name := "cellsAll", fn := fun _ => fun
  | [d1, d2] => { results := [.lit (.bool false)], args := [d1, d2] }
  | _ => none }
def CellsAllWrongFalsely : Prop := cellsAllRow.holds Try.pinned (OpenSpec.ofChange cellsAllWrong)

/-- 'lazarettolaw03.IntsWraps': WHATEVER THE INPUT: true; the input reads as it did. -/
def intsWrapsSpec : ChangeSpec := { name := "intsWraps", fn := fun _ => fun
  | [d1, d2] => { results := [.lit (.bool true)], args := [d1, d2] }
  | _ => none }
def intsWrapsRow : OpenClaim := { program := "ytghgpbhibanlcaa", sum := "4771d03805d09104ec8de798a0e1f75bf1df50ec464da29ccd9455bf7070d6ac", func := "lazaretto/lazarettolaw03.IntsWraps", spec := "intsWraps", apart := false }
def IntsWrapsSaid : Prop := intsWrapsRow.holds Try.pinned (OpenSpec.ofChange intsWrapsSpec)

/-- ITS FALSE NEIGHBOUR: 'it returns false'. Refute it at one input. -/
def intsWrapsWrong : ChangeSpec := { name := "intsWraps", fn := fun _ => fun
  | [d1, d2] => { results := [.lit (.bool false)], args := [d1, d2] }
  | _ => none }
def IntsWrapsWrongFalsely : Prop := intsWrapsRow.holds Try.pinned (OpenSpec.ofChange intsWrapsWrong)

/-- 'lazarettolaw03.IntsUnary': WHATEVER THE INPUT: true; the input reads as it did. -/
def intsUnarySpec : ChangeSpec := { name := "intsUnary", fn := fun _ => fun
  | [d1, d2, d3] => { results := [.lit (.bool true)], args := [d1, d2, d3] }
  | _ => none }
def intsUnaryRow : OpenClaim := { program := "ytghgpbhibanlcaa", sum := "4771d03805d09104ec8de798a0e1f75bf1df50ec464da29ccd9455bf7070d6ac", func := "lazaretto/lazarettolaw03.IntsUnary", spec := "intsUnary", apart := false }
def IntsUnarySaid : Prop := intsUnaryRow.holds Try.pinned (OpenSpec.ofChange intsUnarySpec)

/-- ITS FALSE NEIGHBOUR: 'it returns false'. Refute it at one input. -/
def intsUnaryWrong : ChangeSpec := { name := "intsUnary", fn := fun _ => fun
  | [d1, d2, d3] => { results := [.lit (.bool false)], args := [d1, d2, d3] }
  | _ => none }
def IntsUnaryWrongFalsely : Prop := intsUnaryRow.holds Try.pinned (OpenSpec.ofChange intsUnaryWrong)

/-- 'lazarettolaw03.IntsValid': WHATEVER THE INPUT: true; the input reads as it did. -/
def intsValidSpec : ChangeSpec := { name := "intsValid", fn := fun _ => fun
  | [d1, d2, d3] => { results := [.lit (.bool true)], args := [d1, d2, d3] }
  | _ => none }
def intsValidRow : OpenClaim := { program := "ytghgpbhibanlcaa", sum := "4771d03805d09104ec8de798a0e1f75bf1df50ec464da29ccd9455bf7070d6ac", func := "lazaretto/lazarettolaw03.IntsValid", spec := "intsValid", apart := false }
def IntsValidSaid : Prop := intsValidRow.holds Try.pinned (OpenSpec.ofChange intsValidSpec)

/-- ITS FALSE NEIGHBOUR: 'it returns false'. Refute it at one input. -/
def intsValidWrong : ChangeSpec := { name := "intsValid", fn := fun _ => fun
  | [d1, d2, d3] => { results := [.lit (.bool false)], args := [d1, d2, d3] }
  | _ => none }
def IntsValidWrongFalsely : Prop := intsValidRow.holds Try.pinned (OpenSpec.ofChange intsValidWrong)

/-- 'lazarettolaw03.IntsRing': WHATEVER THE INPUT: true; the input reads as it did. -/
def intsRingSpec : ChangeSpec := { name := "intsRing", fn := fun _ => fun
  | [d1, d2, d3] => { results := [.lit (.bool true)], args := [d1, d2, d3] }
  | _ => none }
def intsRingRow : OpenClaim := { program := "ytghgpbhibanlcaa", sum := "4771d03805d09104ec8de798a0e1f75bf1df50ec464da29ccd9455bf7070d6ac", func := "lazaretto/lazarettolaw03.IntsRing", spec := "intsRing", apart := false }
def IntsRingSaid : Prop := intsRingRow.holds Try.pinned (OpenSpec.ofChange intsRingSpec)

/-- ITS FALSE NEIGHBOUR: 'it returns false'. Refute it at one input. -/
def intsRingWrong : ChangeSpec := { name := "intsRing", fn := fun _ => fun
  | [d1, d2, d3] => { results := [.lit (.bool false)], args := [d1, d2, d3] }
  | _ => none }
def IntsRingWrongFalsely : Prop := intsRingRow.holds Try.pinned (OpenSpec.ofChange intsRingWrong)

/-- 'lazarettolaw03.IntsOrder': WHATEVER THE INPUT: true; the input reads as it did. -/
def intsOrderSpec : ChangeSpec := { name := "intsOrder", fn := fun _ => fun
  | [d1, d2, d3] => { results := [.lit (.bool true)], args := [d1, d2, d3] }
  | _ => none }
def intsOrderRow : OpenClaim := { program := "ytghgpbhibanlcaa", sum := "4771d03805d09104ec8de798a0e1f75bf1df50ec464da29ccd9455bf7070d6ac", func := "lazaretto/lazarettolaw03.IntsOrder", spec := "intsOrder", apart := false }
def IntsOrderSaid : Prop := intsOrderRow.holds Try.pinned (OpenSpec.ofChange intsOrderSpec)

/-- ITS FALSE NEIGHBOUR: 'it returns false'. Refute it at one input. -/
def intsOrderWrong : ChangeSpec := { name := "intsOrder", fn := fun _ => fun
  | [d1, d2, d3] => { results := [.lit (.bool false)], args := [d1, d2, d3] }
  | _ => none }
def IntsOrderWrongFalsely : Prop := intsOrderRow.holds Try.pinned (OpenSpec.ofChange intsOrderWrong)

/- THE SECOND FORM. 'bulk': how many values and letters a reading holds, each counted each time it is reached (what is shared counts as often as it is met; a slice's spare places count too). A statement '..UptoSaid' is the law's where the arguments, and the package variables that the reading takes, are together of bulk at most 1048576: NARROWER than '..Said'. Prove '..Said' where nothing that the law and all that it calls make is longer than what came in: it says more and counts as full. Else prove '..UptoSaid'. A law counts once. -/
mutual
def uptoBulk {H : Type} : DataW H → Nat
  | .lit (.string bytes) => bytes.length + 1
  | .lit _ => 1
  | .nil => 1
  | .ptr d => uptoBulk d + 1
  | .slice elems spare => uptoBulkAll elems + uptoBulkAll spare + 1
  | .agg parts => uptoBulkAll parts + 1
  | .iface _ d => uptoBulk d + 1
  | .map entries => uptoBulkEntries entries + 1
  | .held _ => 1
def uptoBulkAll {H : Type} : List (DataW H) → Nat
  | [] => 0
  | d :: r => uptoBulk d + uptoBulkAll r
def uptoBulkEntries {H : Type} : List (Lit × DataW H) → Nat
  | [] => 0
  | x :: r => uptoBulkEntry x + uptoBulkEntries r
def uptoBulkEntry {H : Type} : Lit × DataW H → Nat
  | (.string bytes, d) => bytes.length + uptoBulk d + 1
  | (_, d) => uptoBulk d + 1
 end
def uptoSmall : (H : Type) → List (DataW H) → Bool := fun _ ds => decide (uptoBulkAll ds ≤ 1048576)
def OpenSpec.upto (s : _root_.Go.ChangeSpec) : _root_.Go.OpenSpec := { _root_.Go.OpenSpec.ofChange s with cond := some uptoSmall }

/-- 'lazarettolaw04.CellsTypes', WHERE WHAT IT READS IS OF BULK AT MOST 1048576: true; the input reads as it did. -/
def cellsTypesUptoRow : OpenClaim := { program := "ytghgpbhibanlcaa", sum := "4771d03805d09104ec8de798a0e1f75bf1df50ec464da29ccd9455bf7070d6ac", func := "lazaretto/lazarettolaw04.CellsTypes", spec := "cellsTypes", apart := false, narrowed := true }
def CellsTypesUptoSaid : Prop := cellsTypesUptoRow.holds Try.pinned (OpenSpec.upto cellsTypesSpec)

/-- 'lazarettolaw04.CellsGets', WHERE WHAT IT READS IS OF BULK AT MOST 1048576: true; the input reads as it did. -/
def cellsGetsUptoRow : OpenClaim := { program := "ytghgpbhibanlcaa", sum := "4771d03805d09104ec8de798a0e1f75bf1df50ec464da29ccd9455bf7070d6ac", func := "lazaretto/lazarettolaw04.CellsGets", spec := "cellsGets", apart := false, narrowed := true }
def CellsGetsUptoSaid : Prop := cellsGetsUptoRow.holds Try.pinned (OpenSpec.upto cellsGetsSpec)

/-- 'lazarettolaw04.CellsSets', WHERE WHAT IT READS IS OF BULK AT MOST 1048576: true; the input reads as it did. -/
def cellsSetsUptoRow : OpenClaim := { program := "ytghgpbhibanlcaa", sum := "4771d03805d09104ec8de798a0e1f75bf1df50ec464da29ccd9455bf7070d6ac", func := "lazaretto/lazarettolaw04.CellsSets", spec := "cellsSets", apart := false, narrowed := true }
def CellsSetsUptoSaid : Prop := cellsSetsUptoRow.holds Try.pinned (OpenSpec.upto cellsSetsSpec)

/-- 'lazarettolaw04.CellsBack', WHERE WHAT IT READS IS OF BULK AT MOST 1048576: true; the input reads as it did. -/
def cellsBackUptoRow : OpenClaim := { program := "ytghgpbhibanlcaa", sum := "4771d03805d09104ec8de798a0e1f75bf1df50ec464da29ccd9455bf7070d6ac", func := "lazaretto/lazarettolaw04.CellsBack", spec := "cellsBack", apart := false, narrowed := true }
def CellsBackUptoSaid : Prop := cellsBackUptoRow.holds Try.pinned (OpenSpec.upto cellsBackSpec)

/-- 'lazarettolaw04.CellsAll', WHERE WHAT IT READS IS OF BULK AT MOST 1048576: true; the input reads as it did. -/
def cellsAllUptoRow : OpenClaim := { program := "ytghgpbhibanlcaa", sum := "4771d03805d09104ec8de798a0e1f75bf1df50ec464da29ccd9455bf7070d6ac", func := "lazaretto/lazarettolaw04.CellsAll", spec := "cellsAll", apart := false, narrowed := true }
def CellsAllUptoSaid : Prop := cellsAllUptoRow.holds Try.pinned (OpenSpec.upto cellsAllSpec)

/-- 'lazarettolaw03.IntsWraps', WHERE WHAT IT READS IS OF BULK AT MOST 1048576: true; the input reads as it did. -/
def intsWrapsUptoRow : OpenClaim := { program := "ytghgpbhibanlcaa", sum := "4771d03805d09104ec8de798a0e1f75bf1df50ec464da29ccd9455bf7070d6ac", func := "lazaretto/lazarettolaw03.IntsWraps", spec := "intsWraps", apart := false, narrowed := true }
def IntsWrapsUptoSaid : Prop := intsWrapsUptoRow.holds Try.pinned (OpenSpec.upto intsWrapsSpec)

/-- 'lazarettolaw03.IntsUnary', WHERE WHAT IT READS IS OF BULK AT MOST 1048576: true; the input reads as it did. -/
def intsUnaryUptoRow : OpenClaim := { program := "ytghgpbhibanlcaa", sum := "4771d03805d09104ec8de798a0e1f75bf1df50ec464da29ccd9455bf7070d6ac", func := "lazaretto/lazarettolaw03.IntsUnary", spec := "intsUnary", apart := false, narrowed := true }
def IntsUnaryUptoSaid : Prop := intsUnaryUptoRow.holds Try.pinned (OpenSpec.upto intsUnarySpec)

/-- 'lazarettolaw03.IntsValid', WHERE WHAT IT READS IS OF BULK AT MOST 1048576: true; the input reads as it did. -/
def intsValidUptoRow : OpenClaim := { program := "ytghgpbhibanlcaa", sum := "4771d03805d09104ec8de798a0e1f75bf1df50ec464da29ccd9455bf7070d6ac", func := "lazaretto/lazarettolaw03.IntsValid", spec := "intsValid", apart := false, narrowed := true }
def IntsValidUptoSaid : Prop := intsValidUptoRow.holds Try.pinned (OpenSpec.upto intsValidSpec)

/-- 'lazarettolaw03.IntsRing', WHERE WHAT IT READS IS OF BULK AT MOST 1048576: true; the input reads as it did. -/
def intsRingUptoRow : OpenClaim := { program := "ytghgpbhibanlcaa", sum := "4771d03805d09104ec8de798a0e1f75bf1df50ec464da29ccd9455bf7070d6ac", func := "lazaretto/lazarettolaw03.IntsRing", spec := "intsRing", apart := false, narrowed := true }
def IntsRingUptoSaid : Prop := intsRingUptoRow.holds Try.pinned (OpenSpec.upto intsRingSpec)

/-- 'lazarettolaw03.IntsOrder', WHERE WHAT IT READS IS OF BULK AT MOST 1048576: true; the input reads as it did. -/
def intsOrderUptoRow : OpenClaim := { program := "ytghgpbhibanlcaa", sum := "4771d03805d09104ec8de798a0e1f75bf1df50ec464da29ccd9455bf7070d6ac", func := "lazaretto/lazarettolaw03.IntsOrder", spec := "intsOrder", apart := false, narrowed := true }
def IntsOrderUptoSaid : Prop := intsOrderUptoRow.holds Try.pinned (OpenSpec.upto intsOrderSpec)

end Rows
end Go.Proofs.Ytghgpbhibanlcaa
