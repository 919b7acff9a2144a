/-
  NARROWER THAN 'FOR EVERY INPUT', by the rows' own cells (each row's printed sentence says how): ImageBack: loops.
  DERIVED. THE GIVEN ROWS OF THIS SEAT. 16 by the template 'for every input the law returns true; each argument reads behind the call as it read before'; 0 by the template 'total and deterministic' (their statements: YtefnllpnodnimaaTotals.lean).
  GIVEN WITH THE SEED: the statements are not yours to turn. If you find one false, say at which input.
  Laid BY PROGRAM, IN A SANDBOX (cutbox-rows.mjs): the forced cells as the released guide's own fill.sh prints them over the translation 9af30423d562d132… (all of the seat's roots in one cut). By AI agents, Wed Nov 11 2026. No macro, syntax, notation, axiom, sorry.
-/
import Derived.Test.YtefnllpnodnimaaChecked
import GoSem.Claim
import GoSem.ClaimJoined
import GoSem.ClaimMapViews
import Derived.JoinedTies
import Derived.KernelRfl
namespace Go.Proofs.Ytefnllpnodnimaa
/- THE CELL 'sum', in the pinned program and in every row, IS THE sha256 OF THE DUMP (.gsa) THAT YtefnllpnodnimaaProg.lean LOADS. Nothing in Lean hashes anything: it is a label: what it is worth is what the hold of that sum in a sandbox is worth. -/
noncomputable def Try.pinned : Pinned := { name := "ytefnllpnodnimaa", sum := "9af30423d562d132a3a2de2f9c3b67eea676baaa40e1d988887bf679097ed092", checked := Try.checked }
namespace Rows
def none {H : Type} : Left H := { results := [], args := [] }

/-- 'lazarettolaw04.CellsTypes': WHATEVER THE INPUT: true; the input reads as it did. -/
def cellsTypesSpec : ChangeSpec := { name := "cellsTypes", fn := fun _ => fun
  | [d] => { results := [.lit (.bool true)], args := [d] }
  | _ => none }
def cellsTypesRow : OpenClaim := { program := "ytefnllpnodnimaa", sum := "9af30423d562d132a3a2de2f9c3b67eea676baaa40e1d988887bf679097ed092", func := "lazaretto/lazarettolaw04.CellsTypes", spec := "cellsTypes", apart := false }
def CellsTypesSaid : Prop := cellsTypesRow.holds Try.pinned (OpenSpec.ofChange cellsTypesSpec)

/-- ITS FALSE NEIGHBOUR: 'it returns false'. Refute it at one input. -/
def cellsTypesWrong : ChangeSpec := { name := "cellsTypes", fn := fun _ => fun
  | [d] => { results := [.lit (.bool false)], args := [d] }
  | _ => none }
def CellsTypesWrongFalsely : Prop := cellsTypesRow.holds Try.pinned (OpenSpec.ofChange cellsTypesWrong)

/-- 'lazarettolaw04.CellsGets': WHATEVER THE INPUT: true; the input reads as it did. -/
def cellsGetsSpec : ChangeSpec := { name := "cellsGets", fn := fun _ => fun
  | [d1, d2, d3] => { results := [.lit (.bool true)], args := [d1, d2, d3] }
  | _ => none }
def cellsGetsRow : OpenClaim := { program := "ytefnllpnodnimaa", sum := "9af30423d562d132a3a2de2f9c3b67eea676baaa40e1d988887bf679097ed092", func := "lazaretto/lazarettolaw04.CellsGets", spec := "cellsGets", apart := false }
def CellsGetsSaid : Prop := cellsGetsRow.holds Try.pinned (OpenSpec.ofChange cellsGetsSpec)

/-- ITS FALSE NEIGHBOUR: 'it returns false'. Refute it at one input. -/
def cellsGetsWrong : ChangeSpec := { name := "cellsGets", fn := fun _ => fun
  | [d1, d2, d3] => { results := [.lit (.bool false)], args := [d1, d2, d3] }
  | _ => none }
def CellsGetsWrongFalsely : Prop := cellsGetsRow.holds Try.pinned (OpenSpec.ofChange cellsGetsWrong)

/-- 'lazarettolaw04.CellsSets': WHATEVER THE INPUT: true; the input reads as it did. -/
def cellsSetsSpec : ChangeSpec := { name := "cellsSets", fn := fun _ => fun
  | [d1, d2, d3] => { results := [.lit (.bool true)], args := [d1, d2, d3] }
  | _ => none }
def cellsSetsRow : OpenClaim := { program := "ytefnllpnodnimaa", sum := "9af30423d562d132a3a2de2f9c3b67eea676baaa40e1d988887bf679097ed092", func := "lazaretto/lazarettolaw04.CellsSets", spec := "cellsSets", apart := false }
def CellsSetsSaid : Prop := cellsSetsRow.holds Try.pinned (OpenSpec.ofChange cellsSetsSpec)

/-- ITS FALSE NEIGHBOUR: 'it returns false'. Refute it at one input. -/
def cellsSetsWrong : ChangeSpec := { name := "cellsSets", fn := fun _ => fun
  | [d1, d2, d3] => { results := [.lit (.bool false)], args := [d1, d2, d3] }
  | _ => none }
def CellsSetsWrongFalsely : Prop := cellsSetsRow.holds Try.pinned (OpenSpec.ofChange cellsSetsWrong)

/-- 'lazarettolaw04.CellsBack': WHATEVER THE INPUT: true; the input reads as it did. -/
def cellsBackSpec : ChangeSpec := { name := "cellsBack", fn := fun _ => fun
  | [d1, d2] => { results := [.lit (.bool true)], args := [d1, d2] }
  | _ => none }
def cellsBackRow : OpenClaim := { program := "ytefnllpnodnimaa", sum := "9af30423d562d132a3a2de2f9c3b67eea676baaa40e1d988887bf679097ed092", func := "lazaretto/lazarettolaw04.CellsBack", spec := "cellsBack", apart := false }
def CellsBackSaid : Prop := cellsBackRow.holds Try.pinned (OpenSpec.ofChange cellsBackSpec)

/-- ITS FALSE NEIGHBOUR: 'it returns false'. Refute it at one input. -/
def cellsBackWrong : ChangeSpec := { name := "cellsBack", fn := fun _ => fun
  | [d1, d2] => { results := [.lit (.bool false)], args := [d1, d2] }
  | _ => none }
def CellsBackWrongFalsely : Prop := cellsBackRow.holds Try.pinned (OpenSpec.ofChange cellsBackWrong)

/-- 'lazarettolaw04.CellsAll': WHATEVER THE INPUT: true; the input reads as it did. -/
def cellsAllSpec : ChangeSpec := { name := "cellsAll", fn := fun _ => fun
  | [d1, d2] => { results := [.lit (.bool true)], args := [d1, d2] }
  | _ => none }
def cellsAllRow : OpenClaim := { program := "ytefnllpnodnimaa", sum := "9af30423d562d132a3a2de2f9c3b67eea676baaa40e1d988887bf679097ed092", func := "lazaretto/lazarettolaw04.CellsAll", spec := "cellsAll", apart := false }
def CellsAllSaid : Prop := cellsAllRow.holds Try.pinned (OpenSpec.ofChange cellsAllSpec)

/-- ITS FALSE NEIGHBOUR: 'it returns false'. Refute it at one input. -/
def cellsAllWrong : ChangeSpec := { name := "cellsAll", fn := fun _ => fun
  | [d1, d2] => { results := [.lit (.bool false)], args := [d1, d2] }
  | _ => none }
def CellsAllWrongFalsely : Prop := cellsAllRow.holds Try.pinned (OpenSpec.ofChange cellsAllWrong)

/-- 'lazarettolaw02.SolveSets': WHATEVER THE INPUT: true; the input reads as it did. -/
def solveSetsSpec : ChangeSpec := { name := "solveSets", fn := fun _ => fun
  | [d1, d2, d3] => { results := [.lit (.bool true)], args := [d1, d2, d3] }
  | _ => none }
def solveSetsRow : OpenClaim := { program := "ytefnllpnodnimaa", sum := "9af30423d562d132a3a2de2f9c3b67eea676baaa40e1d988887bf679097ed092", func := "lazaretto/lazarettolaw02.SolveSets", spec := "solveSets", unfollowed := true, recurses := true, apart := false }
def SolveSetsSaid : Prop := solveSetsRow.holds Try.pinned (OpenSpec.ofChange solveSetsSpec)

/-- ITS FALSE NEIGHBOUR: 'it returns false'. Refute it at one input. -/
def solveSetsWrong : ChangeSpec := { name := "solveSets", fn := fun _ => fun
  | [d1, d2, d3] => { results := [.lit (.bool false)], args := [d1, d2, d3] }
  | _ => none }
def SolveSetsWrongFalsely : Prop := solveSetsRow.holds Try.pinned (OpenSpec.ofChange solveSetsWrong)

/-- 'lazarettolaw02.SolveLeast': WHATEVER THE INPUT: true; the input reads as it did. -/
def solveLeastSpec : ChangeSpec := { name := "solveLeast", fn := fun _ => fun
  | [d1, d2, d3] => { results := [.lit (.bool true)], args := [d1, d2, d3] }
  | _ => none }
def solveLeastRow : OpenClaim := { program := "ytefnllpnodnimaa", sum := "9af30423d562d132a3a2de2f9c3b67eea676baaa40e1d988887bf679097ed092", func := "lazaretto/lazarettolaw02.SolveLeast", spec := "solveLeast", unfollowed := true, recurses := true, apart := false }
def SolveLeastSaid : Prop := solveLeastRow.holds Try.pinned (OpenSpec.ofChange solveLeastSpec)

/-- ITS FALSE NEIGHBOUR: 'it returns false'. Refute it at one input. -/
def solveLeastWrong : ChangeSpec := { name := "solveLeast", fn := fun _ => fun
  | [d1, d2, d3] => { results := [.lit (.bool false)], args := [d1, d2, d3] }
  | _ => none }
def SolveLeastWrongFalsely : Prop := solveLeastRow.holds Try.pinned (OpenSpec.ofChange solveLeastWrong)

/-- 'lazarettolaw02.SolveIs': WHATEVER THE INPUT: true; the input reads as it did. -/
def solveIsSpec : ChangeSpec := { name := "solveIs", fn := fun _ => fun
  | [d1, d2, d3] => { results := [.lit (.bool true)], args := [d1, d2, d3] }
  | _ => none }
def solveIsRow : OpenClaim := { program := "ytefnllpnodnimaa", sum := "9af30423d562d132a3a2de2f9c3b67eea676baaa40e1d988887bf679097ed092", func := "lazaretto/lazarettolaw02.SolveIs", spec := "solveIs", unfollowed := true, recurses := true, apart := false }
def SolveIsSaid : Prop := solveIsRow.holds Try.pinned (OpenSpec.ofChange solveIsSpec)

/-- ITS FALSE NEIGHBOUR: 'it returns false'. Refute it at one input. -/
def solveIsWrong : ChangeSpec := { name := "solveIs", fn := fun _ => fun
  | [d1, d2, d3] => { results := [.lit (.bool false)], args := [d1, d2, d3] }
  | _ => none }
def SolveIsWrongFalsely : Prop := solveIsRow.holds Try.pinned (OpenSpec.ofChange solveIsWrong)

/-- 'lazarettolaw02.SolveBest': WHATEVER THE INPUT: true; the input reads as it did. -/
def solveBestSpec : ChangeSpec := { name := "solveBest", fn := fun _ => fun
  | [d1, d2, d3] => { results := [.lit (.bool true)], args := [d1, d2, d3] }
  | _ => none }
def solveBestRow : OpenClaim := { program := "ytefnllpnodnimaa", sum := "9af30423d562d132a3a2de2f9c3b67eea676baaa40e1d988887bf679097ed092", func := "lazaretto/lazarettolaw02.SolveBest", spec := "solveBest", unfollowed := true, recurses := true, apart := false }
def SolveBestSaid : Prop := solveBestRow.holds Try.pinned (OpenSpec.ofChange solveBestSpec)

/-- ITS FALSE NEIGHBOUR: 'it returns false'. Refute it at one input. -/
def solveBestWrong : ChangeSpec := { name := "solveBest", fn := fun _ => fun
  | [d1, d2, d3] => { results := [.lit (.bool false)], args := [d1, d2, d3] }
  | _ => none }
def SolveBestWrongFalsely : Prop := solveBestRow.holds Try.pinned (OpenSpec.ofChange solveBestWrong)

/-- 'lazarettolaw11.BlocksKinds': WHATEVER THE INPUT: true; the input reads as it did. -/
def blocksKindsSpec : ChangeSpec := { name := "blocksKinds", fn := fun _ => fun
  | [d] => { results := [.lit (.bool true)], args := [d] }
  | _ => none }
def blocksKindsRow : OpenClaim := { program := "ytefnllpnodnimaa", sum := "9af30423d562d132a3a2de2f9c3b67eea676baaa40e1d988887bf679097ed092", func := "lazaretto/lazarettolaw11.BlocksKinds", spec := "blocksKinds", unfollowed := true, recurses := true, apart := false }
def BlocksKindsSaid : Prop := blocksKindsRow.holds Try.pinned (OpenSpec.ofChange blocksKindsSpec)

/-- ITS FALSE NEIGHBOUR: 'it returns false'. Refute it at one input. -/
def blocksKindsWrong : ChangeSpec := { name := "blocksKinds", fn := fun _ => fun
  | [d] => { results := [.lit (.bool false)], args := [d] }
  | _ => none }
def BlocksKindsWrongFalsely : Prop := blocksKindsRow.holds Try.pinned (OpenSpec.ofChange blocksKindsWrong)

/-- 'lazarettolaw11.BlocksValid': WHATEVER THE INPUT: true; the input reads as it did. -/
def blocksValidSpec : ChangeSpec := { name := "blocksValid", fn := fun _ => fun
  | [d1, d2] => { results := [.lit (.bool true)], args := [d1, d2] }
  | _ => none }
def blocksValidRow : OpenClaim := { program := "ytefnllpnodnimaa", sum := "9af30423d562d132a3a2de2f9c3b67eea676baaa40e1d988887bf679097ed092", func := "lazaretto/lazarettolaw11.BlocksValid", spec := "blocksValid", unfollowed := true, recurses := true, apart := false }
def BlocksValidSaid : Prop := blocksValidRow.holds Try.pinned (OpenSpec.ofChange blocksValidSpec)

/-- ITS FALSE NEIGHBOUR: 'it returns false'. Refute it at one input. -/
def blocksValidWrong : ChangeSpec := { name := "blocksValid", fn := fun _ => fun
  | [d1, d2] => { results := [.lit (.bool false)], args := [d1, d2] }
  | _ => none }
def BlocksValidWrongFalsely : Prop := blocksValidRow.holds Try.pinned (OpenSpec.ofChange blocksValidWrong)

/-- 'lazarettolaw11.BlocksTimers': WHATEVER THE INPUT: true; the input reads as it did. -/
def blocksTimersSpec : ChangeSpec := { name := "blocksTimers", fn := fun _ => fun
  | [d1, d2] => { results := [.lit (.bool true)], args := [d1, d2] }
  | _ => none }
def blocksTimersRow : OpenClaim := { program := "ytefnllpnodnimaa", sum := "9af30423d562d132a3a2de2f9c3b67eea676baaa40e1d988887bf679097ed092", func := "lazaretto/lazarettolaw11.BlocksTimers", spec := "blocksTimers", unfollowed := true, recurses := true, apart := false }
def BlocksTimersSaid : Prop := blocksTimersRow.holds Try.pinned (OpenSpec.ofChange blocksTimersSpec)

/-- ITS FALSE NEIGHBOUR: 'it returns false'. Refute it at one input. -/
def blocksTimersWrong : ChangeSpec := { name := "blocksTimers", fn := fun _ => fun
  | [d1, d2] => { results := [.lit (.bool false)], args := [d1, d2] }
  | _ => none }
def BlocksTimersWrongFalsely : Prop := blocksTimersRow.holds Try.pinned (OpenSpec.ofChange blocksTimersWrong)

/-- 'lazarettolaw11.BlocksEdges': WHATEVER THE INPUT: true; the input reads as it did. -/
def blocksEdgesSpec : ChangeSpec := { name := "blocksEdges", fn := fun _ => fun
  | [d] => { results := [.lit (.bool true)], args := [d] }
  | _ => none }
def blocksEdgesRow : OpenClaim := { program := "ytefnllpnodnimaa", sum := "9af30423d562d132a3a2de2f9c3b67eea676baaa40e1d988887bf679097ed092", func := "lazaretto/lazarettolaw11.BlocksEdges", spec := "blocksEdges", unfollowed := true, recurses := true, apart := false }
def BlocksEdgesSaid : Prop := blocksEdgesRow.holds Try.pinned (OpenSpec.ofChange blocksEdgesSpec)

/-- ITS FALSE NEIGHBOUR: 'it returns false'. Refute it at one input. -/
def blocksEdgesWrong : ChangeSpec := { name := "blocksEdges", fn := fun _ => fun
  | [d] => { results := [.lit (.bool false)], args := [d] }
  | _ => none }
def BlocksEdgesWrongFalsely : Prop := blocksEdgesRow.holds Try.pinned (OpenSpec.ofChange blocksEdgesWrong)

/-- 'lazarettolaw11.BlocksCounts': WHATEVER THE INPUT: true; the input reads as it did. -/
def blocksCountsSpec : ChangeSpec := { name := "blocksCounts", fn := fun _ => fun
  | [d1, d2] => { results := [.lit (.bool true)], args := [d1, d2] }
  | _ => none }
def blocksCountsRow : OpenClaim := { program := "ytefnllpnodnimaa", sum := "9af30423d562d132a3a2de2f9c3b67eea676baaa40e1d988887bf679097ed092", func := "lazaretto/lazarettolaw11.BlocksCounts", spec := "blocksCounts", unfollowed := true, recurses := true, apart := false }
def BlocksCountsSaid : Prop := blocksCountsRow.holds Try.pinned (OpenSpec.ofChange blocksCountsSpec)

/-- ITS FALSE NEIGHBOUR: 'it returns false'. Refute it at one input. -/
def blocksCountsWrong : ChangeSpec := { name := "blocksCounts", fn := fun _ => fun
  | [d1, d2] => { results := [.lit (.bool false)], args := [d1, d2] }
  | _ => none }
def BlocksCountsWrongFalsely : Prop := blocksCountsRow.holds Try.pinned (OpenSpec.ofChange blocksCountsWrong)

/-- 'lazarettolaw18.ImageBack': WHATEVER THE INPUT: true; the input reads as it did. -/
def imageBackSpec : ChangeSpec := { name := "imageBack", fn := fun _ => fun
  | [d] => { results := [.lit (.bool true)], args := [d] }
  | _ => none }
def imageBackRow : OpenClaim := { program := "ytefnllpnodnimaa", sum := "9af30423d562d132a3a2de2f9c3b67eea676baaa40e1d988887bf679097ed092", func := "lazaretto/lazarettolaw18.ImageBack", spec := "imageBack", unfollowed := true, recurses := true, loops := true, apart := false }
def ImageBackSaid : Prop := imageBackRow.holds Try.pinned (OpenSpec.ofChange imageBackSpec)

/-- ITS FALSE NEIGHBOUR: 'it returns false'. Refute it at one input. -/
def imageBackWrong : ChangeSpec := { name := "imageBack", fn := fun _ => fun
  | [d] => { results := [.lit (.bool false)], args := [d] }
  | _ => none }
def ImageBackWrongFalsely : Prop := imageBackRow.holds Try.pinned (OpenSpec.ofChange imageBackWrong)

/-- 'lazarettolaw18.ImageOnly': WHATEVER THE INPUT: true; the input reads as it did. -/
def imageOnlySpec : ChangeSpec := { name := "imageOnly", fn := fun _ => fun
  | [d] => { results := [.lit (.bool true)], args := [d] }
  | _ => none }
def imageOnlyRow : OpenClaim := { program := "ytefnllpnodnimaa", sum := "9af30423d562d132a3a2de2f9c3b67eea676baaa40e1d988887bf679097ed092", func := "lazaretto/lazarettolaw18.ImageOnly", spec := "imageOnly", unfollowed := true, recurses := true, apart := false }
def ImageOnlySaid : Prop := imageOnlyRow.holds Try.pinned (OpenSpec.ofChange imageOnlySpec)

/-- ITS FALSE NEIGHBOUR: 'it returns false'. Refute it at one input. -/
def imageOnlyWrong : ChangeSpec := { name := "imageOnly", fn := fun _ => fun
  | [d] => { results := [.lit (.bool false)], args := [d] }
  | _ => none }
def ImageOnlyWrongFalsely : Prop := imageOnlyRow.holds Try.pinned (OpenSpec.ofChange imageOnlyWrong)

/- THE SECOND FORM. 'bulk': how many values and letters a reading holds, each counted each time it is reached (what is shared counts as often as it is met; a slice's spare places count too). A statement '..UptoSaid' is the law's where the arguments, and the package variables that the reading takes, are together of bulk at most 1048576: NARROWER than '..Said'. Prove '..Said' where nothing that the law and all that it calls make is longer than what came in: it says more and counts as full. Else prove '..UptoSaid'. A law counts once. -/
mutual
def uptoBulk {H : Type} : DataW H → Nat
  | .lit (.string bytes) => bytes.length + 1
  | .lit _ => 1
  | .nil => 1
  | .ptr d => uptoBulk d + 1
  | .slice elems spare => uptoBulkAll elems + uptoBulkAll spare + 1
  | .agg parts => uptoBulkAll parts + 1
  | .iface _ d => uptoBulk d + 1
  | .map entries => uptoBulkEntries entries + 1
  | .held _ => 1
def uptoBulkAll {H : Type} : List (DataW H) → Nat
  | [] => 0
  | d :: r => uptoBulk d + uptoBulkAll r
def uptoBulkEntries {H : Type} : List (Lit × DataW H) → Nat
  | [] => 0
  | x :: r => uptoBulkEntry x + uptoBulkEntries r
def uptoBulkEntry {H : Type} : Lit × DataW H → Nat
  | (.string bytes, d) => bytes.length + uptoBulk d + 1
  | (_, d) => uptoBulk d + 1
 end
def uptoSmall : (H : Type) → List (DataW H) → Bool := fun _ ds => decide (uptoBulkAll ds ≤ 1048576)
def OpenSpec.upto (s : _root_.Go.ChangeSpec) : _root_.Go.OpenSpec := { _root_.Go.OpenSpec.ofChange s with cond := some uptoSmall }

/-- 'lazarettolaw04.CellsTypes', WHERE WHAT IT READS IS OF BULK AT MOST 1048576: true; the input reads as it did. -/
def cellsTypesUptoRow : OpenClaim := { program := "ytefnllpnodnimaa", sum := "9af30423d562d132a3a2de2f9c3b67eea676baaa40e1d988887bf679097ed092", func := "lazaretto/lazarettolaw04.CellsTypes", spec := "cellsTypes", apart := false, narrowed := true }
def CellsTypesUptoSaid : Prop := cellsTypesUptoRow.holds Try.pinned (OpenSpec.upto cellsTypesSpec)

/-- 'lazarettolaw04.CellsGets', WHERE WHAT IT READS IS OF BULK AT MOST 1048576: true; the input reads as it did. -/
def cellsGetsUptoRow : OpenClaim := { program := "ytefnllpnodnimaa", sum := "9af30423d562d132a3a2de2f9c3b67eea676baaa40e1d988887bf679097ed092", func := "lazaretto/lazarettolaw04.CellsGets", spec := "cellsGets", apart := false, narrowed := true }
def CellsGetsUptoSaid : Prop := cellsGetsUptoRow.holds Try.pinned (OpenSpec.upto cellsGetsSpec)

/-- 'lazarettolaw04.CellsSets', WHERE WHAT IT READS IS OF BULK AT MOST 1048576: true; the input reads as it did. -/
def cellsSetsUptoRow : OpenClaim := { program := "ytefnllpnodnimaa", sum := "9af30423d562d132a3a2de2f9c3b67eea676baaa40e1d988887bf679097ed092", func := "lazaretto/lazarettolaw04.CellsSets", spec := "cellsSets", apart := false, narrowed := true }
def CellsSetsUptoSaid : Prop := cellsSetsUptoRow.holds Try.pinned (OpenSpec.upto cellsSetsSpec)

/-- 'lazarettolaw04.CellsBack', WHERE WHAT IT READS IS OF BULK AT MOST 1048576: true; the input reads as it did. -/
def cellsBackUptoRow : OpenClaim := { program := "ytefnllpnodnimaa", sum := "9af30423d562d132a3a2de2f9c3b67eea676baaa40e1d988887bf679097ed092", func := "lazaretto/lazarettolaw04.CellsBack", spec := "cellsBack", apart := false, narrowed := true }
def CellsBackUptoSaid : Prop := cellsBackUptoRow.holds Try.pinned (OpenSpec.upto cellsBackSpec)

/-- 'lazarettolaw04.CellsAll', WHERE WHAT IT READS IS OF BULK AT MOST 1048576: true; the input reads as it did. -/
def cellsAllUptoRow : OpenClaim := { program := "ytefnllpnodnimaa", sum := "9af30423d562d132a3a2de2f9c3b67eea676baaa40e1d988887bf679097ed092", func := "lazaretto/lazarettolaw04.CellsAll", spec := "cellsAll", apart := false, narrowed := true }
def CellsAllUptoSaid : Prop := cellsAllUptoRow.holds Try.pinned (OpenSpec.upto cellsAllSpec)

/-- 'lazarettolaw02.SolveSets', WHERE WHAT IT READS IS OF BULK AT MOST 1048576: true; the input reads as it did. -/
def solveSetsUptoRow : OpenClaim := { program := "ytefnllpnodnimaa", sum := "9af30423d562d132a3a2de2f9c3b67eea676baaa40e1d988887bf679097ed092", func := "lazaretto/lazarettolaw02.SolveSets", spec := "solveSets", unfollowed := true, recurses := true, apart := false, narrowed := true }
def SolveSetsUptoSaid : Prop := solveSetsUptoRow.holds Try.pinned (OpenSpec.upto solveSetsSpec)

/-- 'lazarettolaw02.SolveLeast', WHERE WHAT IT READS IS OF BULK AT MOST 1048576: true; the input reads as it did. -/
def solveLeastUptoRow : OpenClaim := { program := "ytefnllpnodnimaa", sum := "9af30423d562d132a3a2de2f9c3b67eea676baaa40e1d988887bf679097ed092", func := "lazaretto/lazarettolaw02.SolveLeast", spec := "solveLeast", unfollowed := true, recurses := true, apart := false, narrowed := true }
def SolveLeastUptoSaid : Prop := solveLeastUptoRow.holds Try.pinned (OpenSpec.upto solveLeastSpec)

/-- 'lazarettolaw02.SolveIs', WHERE WHAT IT READS IS OF BULK AT MOST 1048576: true; the input reads as it did. -/
def solveIsUptoRow : OpenClaim := { program := "ytefnllpnodnimaa", sum := "9af30423d562d132a3a2de2f9c3b67eea676baaa40e1d988887bf679097ed092", func := "lazaretto/lazarettolaw02.SolveIs", spec := "solveIs", unfollowed := true, recurses := true, apart := false, narrowed := true }
def SolveIsUptoSaid : Prop := solveIsUptoRow.holds Try.pinned (OpenSpec.upto solveIsSpec)

/-- 'lazarettolaw02.SolveBest', WHERE WHAT IT READS IS OF BULK AT MOST 1048576: true; the input reads as it did. -/
def solveBestUptoRow : OpenClaim := { program := "ytefnllpnodnimaa", sum := "9af30423d562d132a3a2de2f9c3b67eea676baaa40e1d988887bf679097ed092", func := "lazaretto/lazarettolaw02.SolveBest", spec := "solveBest", unfollowed := true, recurses := true, apart := false, narrowed := true }
def SolveBestUptoSaid : Prop := solveBestUptoRow.holds Try.pinned (OpenSpec.upto solveBestSpec)

/-- 'lazarettolaw11.BlocksKinds', WHERE WHAT IT READS IS OF BULK AT MOST 1048576: true; the input reads as it did. -/
def blocksKindsUptoRow : OpenClaim := { program := "ytefnllpnodnimaa", sum := "9af30423d562d132a3a2de2f9c3b67eea676baaa40e1d988887bf679097ed092", func := "lazaretto/lazarettolaw11.BlocksKinds", spec := "blocksKinds", unfollowed := true, recurses := true, apart := false, narrowed := true }
def BlocksKindsUptoSaid : Prop := blocksKindsUptoRow.holds Try.pinned (OpenSpec.upto blocksKindsSpec)

/-- 'lazarettolaw11.BlocksValid', WHERE WHAT IT READS IS OF BULK AT MOST 1048576: true; the input reads as it did. -/
def blocksValidUptoRow : OpenClaim := { program := "ytefnllpnodnimaa", sum := "9af30423d562d132a3a2de2f9c3b67eea676baaa40e1d988887bf679097ed092", func := "lazaretto/lazarettolaw11.BlocksValid", spec := "blocksValid", unfollowed := true, recurses := true, apart := false, narrowed := true }
def BlocksValidUptoSaid : Prop := blocksValidUptoRow.holds Try.pinned (OpenSpec.upto blocksValidSpec)

/-- 'lazarettolaw11.BlocksTimers', WHERE WHAT IT READS IS OF BULK AT MOST 1048576: true; the input reads as it did. -/
def blocksTimersUptoRow : OpenClaim := { program := "ytefnllpnodnimaa", sum := "9af30423d562d132a3a2de2f9c3b67eea676baaa40e1d988887bf679097ed092", func := "lazaretto/lazarettolaw11.BlocksTimers", spec := "blocksTimers", unfollowed := true, recurses := true, apart := false, narrowed := true }
def BlocksTimersUptoSaid : Prop := blocksTimersUptoRow.holds Try.pinned (OpenSpec.upto blocksTimersSpec)

/-- 'lazarettolaw11.BlocksEdges', WHERE WHAT IT READS IS OF BULK AT MOST 1048576: true; the input reads as it did. -/
def blocksEdgesUptoRow : OpenClaim := { program := "ytefnllpnodnimaa", sum := "9af30423d562d132a3a2de2f9c3b67eea676baaa40e1d988887bf679097ed092", func := "lazaretto/lazarettolaw11.BlocksEdges", spec := "blocksEdges", unfollowed := true, recurses := true, apart := false, narrowed := true }
def BlocksEdgesUptoSaid : Prop := blocksEdgesUptoRow.holds Try.pinned (OpenSpec.upto blocksEdgesSpec)

/-- 'lazarettolaw11.BlocksCounts', WHERE WHAT IT READS IS OF BULK AT MOST 1048576: true; the input reads as it did. -/
def blocksCountsUptoRow : OpenClaim := { program := "ytefnllpnodnimaa", sum := "9af30423d562d132a3a2de2f9c3b67eea676baaa40e1d988887bf679097ed092", func := "lazaretto/lazarettolaw11.BlocksCounts", spec := "blocksCounts", unfollowed := true, recurses := true, apart := false, narrowed := true }
def BlocksCountsUptoSaid : Prop := blocksCountsUptoRow.holds Try.pinned (OpenSpec.upto blocksCountsSpec)

/-- 'lazarettolaw18.ImageBack', WHERE WHAT IT READS IS OF BULK AT MOST 1048576: true; the input reads as it did. -/
def imageBackUptoRow : OpenClaim := { program := "ytefnllpnodnimaa", sum := "9af30423d562d132a3a2de2f9c3b67eea676baaa40e1d988887bf679097ed092", func := "lazaretto/lazarettolaw18.ImageBack", spec := "imageBack", unfollowed := true, recurses := true, loops := true, apart := false, narrowed := true }
def ImageBackUptoSaid : Prop := imageBackUptoRow.holds Try.pinned (OpenSpec.upto imageBackSpec)

/-- 'lazarettolaw18.ImageOnly', WHERE WHAT IT READS IS OF BULK AT MOST 1048576: true; the input reads as it did. -/
def imageOnlyUptoRow : OpenClaim := { program := "ytefnllpnodnimaa", sum := "9af30423d562d132a3a2de2f9c3b67eea676baaa40e1d988887bf679097ed092", func := "lazaretto/lazarettolaw18.ImageOnly", spec := "imageOnly", unfollowed := true, recurses := true, apart := false, narrowed := true }
def ImageOnlyUptoSaid : Prop := imageOnlyUptoRow.holds Try.pinned (OpenSpec.upto imageOnlySpec)

end Rows
end Go.Proofs.Ytefnllpnodnimaa
