/-
  NARROWER THAN 'FOR EVERY INPUT', by the rows' own cells (each row's printed sentence says how): LatchesOutputs: loops · LatchesJust: loops · NamesFinds: loops · NamesOne: loops · NamesMore: loops.
  DERIVED. THE GIVEN ROWS OF THIS SEAT. 11 by the template 'for every input the law returns true; each argument reads behind the call as it read before'; 0 by the template 'total and deterministic' (their statements: YtbcpfhnlidpcbaaTotals.lean).
  GIVEN WITH THE SEED: the statements are not yours to turn. If you find one false, say at which input.
  Laid BY PROGRAM, IN A SANDBOX (cutbox-rows.mjs): the forced cells as the released guide's own fill.sh prints them over the translation 1ac0bbb766db34f5… (all of the seat's roots in one cut). By AI agents, Wed Nov 11 2026. No macro, syntax, notation, axiom, sorry.
-/
import Derived.Test.YtbcpfhnlidpcbaaChecked
import GoSem.Claim
import GoSem.ClaimJoined
import GoSem.ClaimMapViews
import Derived.JoinedTies
import Derived.KernelRfl
namespace Go.Proofs.Ytbcpfhnlidpcbaa
/- THE CELL 'sum', in the pinned program and in every row, IS THE sha256 OF THE DUMP (.gsa) THAT YtbcpfhnlidpcbaaProg.lean LOADS. Nothing in Lean hashes anything: it is a label: what it is worth is what the hold of that sum in a sandbox is worth. -/
noncomputable def Try.pinned : Pinned := { name := "ytbcpfhnlidpcbaa", sum := "1ac0bbb766db34f581334f19e96919b1d2c6641a635f9c52f648400b3081d95d", checked := Try.checked }
namespace Rows
def none {H : Type} : Left H := { results := [], args := [] }

/-- 'lazarettolaw23.LatchesOutputs': WHATEVER THE INPUT: true; the input reads as it did. -/
def latchesOutputsSpec : ChangeSpec := { name := "latchesOutputs", fn := fun _ => fun
  | [d1, d2, d3] => { results := [.lit (.bool true)], args := [d1, d2, d3] }
  | _ => none }
def latchesOutputsRow : OpenClaim := { program := "ytbcpfhnlidpcbaa", sum := "1ac0bbb766db34f581334f19e96919b1d2c6641a635f9c52f648400b3081d95d", func := "lazaretto/lazarettolaw23.LatchesOutputs", spec := "latchesOutputs", loops := true, apart := false }
def LatchesOutputsSaid : Prop := latchesOutputsRow.holds Try.pinned (OpenSpec.ofChange latchesOutputsSpec)

/-- ITS FALSE NEIGHBOUR: 'it returns false'. Refute it at one input. -/
def latchesOutputsWrong : ChangeSpec := { name := "latchesOutputs", fn := fun _ => fun
  | [d1, d2, d3] => { results := [.lit (.bool false)], args := [d1, d2, d3] }
  | _ => none }
def LatchesOutputsWrongFalsely : Prop := latchesOutputsRow.holds Try.pinned (OpenSpec.ofChange latchesOutputsWrong)

/-- 'lazarettolaw23.LatchesMerge': WHATEVER THE INPUT: true; the input reads as it did. -/
def latchesMergeSpec : ChangeSpec := { name := "latchesMerge", fn := fun _ => fun
  | [d1, d2, d3] => { results := [.lit (.bool true)], args := [d1, d2, d3] }
  | _ => none }
def latchesMergeRow : OpenClaim := { program := "ytbcpfhnlidpcbaa", sum := "1ac0bbb766db34f581334f19e96919b1d2c6641a635f9c52f648400b3081d95d", func := "lazaretto/lazarettolaw23.LatchesMerge", spec := "latchesMerge", apart := false }
def LatchesMergeSaid : Prop := latchesMergeRow.holds Try.pinned (OpenSpec.ofChange latchesMergeSpec)

/-- ITS FALSE NEIGHBOUR: 'it returns false'. Refute it at one input. -/
def latchesMergeWrong : ChangeSpec := { name := "latchesMerge", fn := fun _ => fun
  | [d1, d2, d3] => { results := [.lit (.bool false)], args := [d1, d2, d3] }
  | _ => none }
def LatchesMergeWrongFalsely : Prop := latchesMergeRow.holds Try.pinned (OpenSpec.ofChange latchesMergeWrong)

/-- 'lazarettolaw23.LatchesJust': WHATEVER THE INPUT: true; the input reads as it did. -/
def latchesJustSpec : ChangeSpec := { name := "latchesJust", fn := fun _ => fun
  | [d1, d2, d3] => { results := [.lit (.bool true)], args := [d1, d2, d3] }
  | _ => none }
def latchesJustRow : OpenClaim := { program := "ytbcpfhnlidpcbaa", sum := "1ac0bbb766db34f581334f19e96919b1d2c6641a635f9c52f648400b3081d95d", func := "lazaretto/lazarettolaw23.LatchesJust", spec := "latchesJust", loops := true, apart := false }
def LatchesJustSaid : Prop := latchesJustRow.holds Try.pinned (OpenSpec.ofChange latchesJustSpec)

/-- ITS FALSE NEIGHBOUR: 'it returns false'. Refute it at one input. -/
def latchesJustWrong : ChangeSpec := { name := "latchesJust", fn := fun _ => fun
  | [d1, d2, d3] => { results := [.lit (.bool false)], args := [d1, d2, d3] }
  | _ => none }
def LatchesJustWrongFalsely : Prop := latchesJustRow.holds Try.pinned (OpenSpec.ofChange latchesJustWrong)

/-- 'lazarettolaw10.NamesFinds': WHATEVER THE INPUT: true; the input reads as it did. -/
def namesFindsSpec : ChangeSpec := { name := "namesFinds", fn := fun _ => fun
  | [d1, d2] => { results := [.lit (.bool true)], args := [d1, d2] }
  | _ => none }
def namesFindsRow : OpenClaim := { program := "ytbcpfhnlidpcbaa", sum := "1ac0bbb766db34f581334f19e96919b1d2c6641a635f9c52f648400b3081d95d", func := "lazaretto/lazarettolaw10.NamesFinds", spec := "namesFinds", unfollowed := true, recurses := true, loops := true, apart := false }
def NamesFindsSaid : Prop := namesFindsRow.holds Try.pinned (OpenSpec.ofChange namesFindsSpec)

/-- ITS FALSE NEIGHBOUR: 'it returns false'. Refute it at one input. -/
def namesFindsWrong : ChangeSpec := { name := "namesFinds", fn := fun _ => fun
  | [d1, d2] => { results := [.lit (.bool false)], args := [d1, d2] }
  | _ => none }
def NamesFindsWrongFalsely : Prop := namesFindsRow.holds Try.pinned (OpenSpec.ofChange namesFindsWrong)

/-- 'lazarettolaw10.NamesOne': WHATEVER THE INPUT: true; the input reads as it did. -/
def namesOneSpec : ChangeSpec := { name := "namesOne", fn := fun _ => fun
  | [d1, d2] => { results := [.lit (.bool true)], args := [d1, d2] }
  | _ => none }
def namesOneRow : OpenClaim := { program := "ytbcpfhnlidpcbaa", sum := "1ac0bbb766db34f581334f19e96919b1d2c6641a635f9c52f648400b3081d95d", func := "lazaretto/lazarettolaw10.NamesOne", spec := "namesOne", unfollowed := true, recurses := true, loops := true, apart := false }
def NamesOneSaid : Prop := namesOneRow.holds Try.pinned (OpenSpec.ofChange namesOneSpec)

/-- ITS FALSE NEIGHBOUR: 'it returns false'. Refute it at one input. -/
def namesOneWrong : ChangeSpec := { name := "namesOne", fn := fun _ => fun
  | [d1, d2] => { results := [.lit (.bool false)], args := [d1, d2] }
  | _ => none }
def NamesOneWrongFalsely : Prop := namesOneRow.holds Try.pinned (OpenSpec.ofChange namesOneWrong)

/-- 'lazarettolaw10.NamesMore': WHATEVER THE INPUT: true; the input reads as it did. -/
def namesMoreSpec : ChangeSpec := { name := "namesMore", fn := fun _ => fun
  | [d1, d2] => { results := [.lit (.bool true)], args := [d1, d2] }
  | _ => none }
def namesMoreRow : OpenClaim := { program := "ytbcpfhnlidpcbaa", sum := "1ac0bbb766db34f581334f19e96919b1d2c6641a635f9c52f648400b3081d95d", func := "lazaretto/lazarettolaw10.NamesMore", spec := "namesMore", unfollowed := true, recurses := true, loops := true, apart := false }
def NamesMoreSaid : Prop := namesMoreRow.holds Try.pinned (OpenSpec.ofChange namesMoreSpec)

/-- ITS FALSE NEIGHBOUR: 'it returns false'. Refute it at one input. -/
def namesMoreWrong : ChangeSpec := { name := "namesMore", fn := fun _ => fun
  | [d1, d2] => { results := [.lit (.bool false)], args := [d1, d2] }
  | _ => none }
def NamesMoreWrongFalsely : Prop := namesMoreRow.holds Try.pinned (OpenSpec.ofChange namesMoreWrong)

/-- 'lazarettolaw01.LatticeOrders': WHATEVER THE INPUT: true; the input reads as it did. -/
def latticeOrdersSpec : ChangeSpec := { name := "latticeOrders", fn := fun _ => fun
  | [d1, d2, d3] => { results := [.lit (.bool true)], args := [d1, d2, d3] }
  | _ => none }
def latticeOrdersRow : OpenClaim := { program := "ytbcpfhnlidpcbaa", sum := "1ac0bbb766db34f581334f19e96919b1d2c6641a635f9c52f648400b3081d95d", func := "lazaretto/lazarettolaw01.LatticeOrders", spec := "latticeOrders", unfollowed := true, recurses := true, apart := false }
def LatticeOrdersSaid : Prop := latticeOrdersRow.holds Try.pinned (OpenSpec.ofChange latticeOrdersSpec)

/-- ITS FALSE NEIGHBOUR: 'it returns false'. Refute it at one input. -/
def latticeOrdersWrong : ChangeSpec := { name := "latticeOrders", fn := fun _ => fun
  | [d1, d2, d3] => { results := [.lit (.bool false)], args := [d1, d2, d3] }
  | _ => none }
def LatticeOrdersWrongFalsely : Prop := latticeOrdersRow.holds Try.pinned (OpenSpec.ofChange latticeOrdersWrong)

/-- 'lazarettolaw01.LatticeChecks': WHATEVER THE INPUT: true; the input reads as it did. -/
def latticeChecksSpec : ChangeSpec := { name := "latticeChecks", fn := fun _ => fun
  | [d] => { results := [.lit (.bool true)], args := [d] }
  | _ => none }
def latticeChecksRow : OpenClaim := { program := "ytbcpfhnlidpcbaa", sum := "1ac0bbb766db34f581334f19e96919b1d2c6641a635f9c52f648400b3081d95d", func := "lazaretto/lazarettolaw01.LatticeChecks", spec := "latticeChecks", unfollowed := true, recurses := true, apart := false }
def LatticeChecksSaid : Prop := latticeChecksRow.holds Try.pinned (OpenSpec.ofChange latticeChecksSpec)

/-- ITS FALSE NEIGHBOUR: 'it returns false'. Refute it at one input. -/
def latticeChecksWrong : ChangeSpec := { name := "latticeChecks", fn := fun _ => fun
  | [d] => { results := [.lit (.bool false)], args := [d] }
  | _ => none }
def LatticeChecksWrongFalsely : Prop := latticeChecksRow.holds Try.pinned (OpenSpec.ofChange latticeChecksWrong)

/-- 'lazarettolaw01.LatticeLaws': WHATEVER THE INPUT: true; the input reads as it did. -/
def latticeLawsSpec : ChangeSpec := { name := "latticeLaws", fn := fun _ => fun
  | [d1, d2] => { results := [.lit (.bool true)], args := [d1, d2] }
  | _ => none }
def latticeLawsRow : OpenClaim := { program := "ytbcpfhnlidpcbaa", sum := "1ac0bbb766db34f581334f19e96919b1d2c6641a635f9c52f648400b3081d95d", func := "lazaretto/lazarettolaw01.LatticeLaws", spec := "latticeLaws", unfollowed := true, recurses := true, apart := false }
def LatticeLawsSaid : Prop := latticeLawsRow.holds Try.pinned (OpenSpec.ofChange latticeLawsSpec)

/-- ITS FALSE NEIGHBOUR: 'it returns false'. Refute it at one input. -/
def latticeLawsWrong : ChangeSpec := { name := "latticeLaws", fn := fun _ => fun
  | [d1, d2] => { results := [.lit (.bool false)], args := [d1, d2] }
  | _ => none }
def LatticeLawsWrongFalsely : Prop := latticeLawsRow.holds Try.pinned (OpenSpec.ofChange latticeLawsWrong)

/-- 'lazarettolaw01.LatticeBounds': WHATEVER THE INPUT: true; the input reads as it did. -/
def latticeBoundsSpec : ChangeSpec := { name := "latticeBounds", fn := fun _ => fun
  | [d1, d2] => { results := [.lit (.bool true)], args := [d1, d2] }
  | _ => none }
def latticeBoundsRow : OpenClaim := { program := "ytbcpfhnlidpcbaa", sum := "1ac0bbb766db34f581334f19e96919b1d2c6641a635f9c52f648400b3081d95d", func := "lazaretto/lazarettolaw01.LatticeBounds", spec := "latticeBounds", unfollowed := true, recurses := true, apart := false }
def LatticeBoundsSaid : Prop := latticeBoundsRow.holds Try.pinned (OpenSpec.ofChange latticeBoundsSpec)

/-- ITS FALSE NEIGHBOUR: 'it returns false'. Refute it at one input. -/
def latticeBoundsWrong : ChangeSpec := { name := "latticeBounds", fn := fun _ => fun
  | [d1, d2] => { results := [.lit (.bool false)], args := [d1, d2] }
  | _ => none }
def LatticeBoundsWrongFalsely : Prop := latticeBoundsRow.holds Try.pinned (OpenSpec.ofChange latticeBoundsWrong)

/-- 'lazarettolaw01.LatticeChain': WHATEVER THE INPUT: true; the input reads as it did. -/
def latticeChainSpec : ChangeSpec := { name := "latticeChain", fn := fun _ => fun
  | [d1, d2] => { results := [.lit (.bool true)], args := [d1, d2] }
  | _ => none }
def latticeChainRow : OpenClaim := { program := "ytbcpfhnlidpcbaa", sum := "1ac0bbb766db34f581334f19e96919b1d2c6641a635f9c52f648400b3081d95d", func := "lazaretto/lazarettolaw01.LatticeChain", spec := "latticeChain", unfollowed := true, recurses := true, apart := false }
def LatticeChainSaid : Prop := latticeChainRow.holds Try.pinned (OpenSpec.ofChange latticeChainSpec)

/-- ITS FALSE NEIGHBOUR: 'it returns false'. Refute it at one input. -/
def latticeChainWrong : ChangeSpec := { name := "latticeChain", fn := fun _ => fun
  | [d1, d2] => { results := [.lit (.bool false)], args := [d1, d2] }
  | _ => none }
def LatticeChainWrongFalsely : Prop := latticeChainRow.holds Try.pinned (OpenSpec.ofChange latticeChainWrong)

/- THE SECOND FORM. 'bulk': how many values and letters a reading holds, each counted each time it is reached (what is shared counts as often as it is met; a slice's spare places count too). A statement '..UptoSaid' is the law's where the arguments, and the package variables that the reading takes, are together of bulk at most 1048576: NARROWER than '..Said'. Prove '..Said' where nothing that the law and all that it calls make is longer than what came in: it says more and counts as full. Else prove '..UptoSaid'. A law counts once. -/
mutual
def uptoBulk {H : Type} : DataW H → Nat
  | .lit (.string bytes) => bytes.length + 1
  | .lit _ => 1
  | .nil => 1
  | .ptr d => uptoBulk d + 1
  | .slice elems spare => uptoBulkAll elems + uptoBulkAll spare + 1
  | .agg parts => uptoBulkAll parts + 1
  | .iface _ d => uptoBulk d + 1
  | .map entries => uptoBulkEntries entries + 1
  | .held _ => 1
def uptoBulkAll {H : Type} : List (DataW H) → Nat
  | [] => 0
  | d :: r => uptoBulk d + uptoBulkAll r
def uptoBulkEntries {H : Type} : List (Lit × DataW H) → Nat
  | [] => 0
  | x :: r => uptoBulkEntry x + uptoBulkEntries r
def uptoBulkEntry {H : Type} : Lit × DataW H → Nat
  | (.string bytes, d) => bytes.length + uptoBulk d + 1
  | (_, d) => uptoBulk d + 1
 end
def uptoSmall : (H : Type) → List (DataW H) → Bool := fun _ ds => decide (uptoBulkAll ds ≤ 1048576)
def OpenSpec.upto (s : _root_.Go.ChangeSpec) : _root_.Go.OpenSpec := { _root_.Go.OpenSpec.ofChange s with cond := some uptoSmall }

/-- 'lazarettolaw23.LatchesOutputs', WHERE WHAT IT READS IS OF BULK AT MOST 1048576: true; the input reads as it did. -/
def latchesOutputsUptoRow : OpenClaim := { program := "ytbcpfhnlidpcbaa", sum := "1ac0bbb766db34f581334f19e96919b1d2c6641a635f9c52f648400b3081d95d", func := "lazaretto/lazarettolaw23.LatchesOutputs", spec := "latchesOutputs", loops := true, apart := false, narrowed := true }
def LatchesOutputsUptoSaid : Prop := latchesOutputsUptoRow.holds Try.pinned (OpenSpec.upto latchesOutputsSpec)

/-- 'lazarettolaw23.LatchesMerge', WHERE WHAT IT READS IS OF BULK AT MOST 1048576: true; the input reads as it did. -/
def latchesMergeUptoRow : OpenClaim := { program := "ytbcpfhnlidpcbaa", sum := "1ac0bbb766db34f581334f19e96919b1d2c6641a635f9c52f648400b3081d95d", func := "lazaretto/lazarettolaw23.LatchesMerge", spec := "latchesMerge", apart := false, narrowed := true }
def LatchesMergeUptoSaid : Prop := latchesMergeUptoRow.holds Try.pinned (OpenSpec.upto latchesMergeSpec)

/-- 'lazarettolaw23.LatchesJust', WHERE WHAT IT READS IS OF BULK AT MOST 1048576: true; the input reads as it did. -/
def latchesJustUptoRow : OpenClaim := { program := "ytbcpfhnlidpcbaa", sum := "1ac0bbb766db34f581334f19e96919b1d2c6641a635f9c52f648400b3081d95d", func := "lazaretto/lazarettolaw23.LatchesJust", spec := "latchesJust", loops := true, apart := false, narrowed := true }
def LatchesJustUptoSaid : Prop := latchesJustUptoRow.holds Try.pinned (OpenSpec.upto latchesJustSpec)

/-- 'lazarettolaw10.NamesFinds', WHERE WHAT IT READS IS OF BULK AT MOST 1048576: true; the input reads as it did. -/
def namesFindsUptoRow : OpenClaim := { program := "ytbcpfhnlidpcbaa", sum := "1ac0bbb766db34f581334f19e96919b1d2c6641a635f9c52f648400b3081d95d", func := "lazaretto/lazarettolaw10.NamesFinds", spec := "namesFinds", unfollowed := true, recurses := true, loops := true, apart := false, narrowed := true }
def NamesFindsUptoSaid : Prop := namesFindsUptoRow.holds Try.pinned (OpenSpec.upto namesFindsSpec)

/-- 'lazarettolaw10.NamesOne', WHERE WHAT IT READS IS OF BULK AT MOST 1048576: true; the input reads as it did. -/
def namesOneUptoRow : OpenClaim := { program := "ytbcpfhnlidpcbaa", sum := "1ac0bbb766db34f581334f19e96919b1d2c6641a635f9c52f648400b3081d95d", func := "lazaretto/lazarettolaw10.NamesOne", spec := "namesOne", unfollowed := true, recurses := true, loops := true, apart := false, narrowed := true }
def NamesOneUptoSaid : Prop := namesOneUptoRow.holds Try.pinned (OpenSpec.upto namesOneSpec)

/-- 'lazarettolaw10.NamesMore', WHERE WHAT IT READS IS OF BULK AT MOST 1048576: true; the input reads as it did. -/
def namesMoreUptoRow : OpenClaim := { program := "ytbcpfhnlidpcbaa", sum := "1ac0bbb766db34f581334f19e96919b1d2c6641a635f9c52f648400b3081d95d", func := "lazaretto/lazarettolaw10.NamesMore", spec := "namesMore", unfollowed := true, recurses := true, loops := true, apart := false, narrowed := true }
def NamesMoreUptoSaid : Prop := namesMoreUptoRow.holds Try.pinned (OpenSpec.upto namesMoreSpec)

/-- 'lazarettolaw01.LatticeOrders', WHERE WHAT IT READS IS OF BULK AT MOST 1048576: true; the input reads as it did. -/
def latticeOrdersUptoRow : OpenClaim := { program := "ytbcpfhnlidpcbaa", sum := "1ac0bbb766db34f581334f19e96919b1d2c6641a635f9c52f648400b3081d95d", func := "lazaretto/lazarettolaw01.LatticeOrders", spec := "latticeOrders", unfollowed := true, recurses := true, apart := false, narrowed := true }
def LatticeOrdersUptoSaid : Prop := latticeOrdersUptoRow.holds Try.pinned (OpenSpec.upto latticeOrdersSpec)

/-- 'lazarettolaw01.LatticeChecks', WHERE WHAT IT READS IS OF BULK AT MOST 1048576: true; the input reads as it did. -/
def latticeChecksUptoRow : OpenClaim := { program := "ytbcpfhnlidpcbaa", sum := "1ac0bbb766db34f581334f19e96919b1d2c6641a635f9c52f648400b3081d95d", func := "lazaretto/lazarettolaw01.LatticeChecks", spec := "latticeChecks", unfollowed := true, recurses := true, apart := false, narrowed := true }
def LatticeChecksUptoSaid : Prop := latticeChecksUptoRow.holds Try.pinned (OpenSpec.upto latticeChecksSpec)

/-- 'lazarettolaw01.LatticeLaws', WHERE WHAT IT READS IS OF BULK AT MOST 1048576: true; the input reads as it did. -/
def latticeLawsUptoRow : OpenClaim := { program := "ytbcpfhnlidpcbaa", sum := "1ac0bbb766db34f581334f19e96919b1d2c6641a635f9c52f648400b3081d95d", func := "lazaretto/lazarettolaw01.LatticeLaws", spec := "latticeLaws", unfollowed := true, recurses := true, apart := false, narrowed := true }
def LatticeLawsUptoSaid : Prop := latticeLawsUptoRow.holds Try.pinned (OpenSpec.upto latticeLawsSpec)

/-- 'lazarettolaw01.LatticeBounds', WHERE WHAT IT READS IS OF BULK AT MOST 1048576: true; the input reads as it did. -/
def latticeBoundsUptoRow : OpenClaim := { program := "ytbcpfhnlidpcbaa", sum := "1ac0bbb766db34f581334f19e96919b1d2c6641a635f9c52f648400b3081d95d", func := "lazaretto/lazarettolaw01.LatticeBounds", spec := "latticeBounds", unfollowed := true, recurses := true, apart := false, narrowed := true }
def LatticeBoundsUptoSaid : Prop := latticeBoundsUptoRow.holds Try.pinned (OpenSpec.upto latticeBoundsSpec)

/-- 'lazarettolaw01.LatticeChain', WHERE WHAT IT READS IS OF BULK AT MOST 1048576: true; the input reads as it did. -/
def latticeChainUptoRow : OpenClaim := { program := "ytbcpfhnlidpcbaa", sum := "1ac0bbb766db34f581334f19e96919b1d2c6641a635f9c52f648400b3081d95d", func := "lazaretto/lazarettolaw01.LatticeChain", spec := "latticeChain", unfollowed := true, recurses := true, apart := false, narrowed := true }
def LatticeChainUptoSaid : Prop := latticeChainUptoRow.holds Try.pinned (OpenSpec.upto latticeChainSpec)

end Rows
end Go.Proofs.Ytbcpfhnlidpcbaa
