/-
  NARROWER THAN 'FOR EVERY INPUT', by the rows' own cells (each row's printed sentence says how): EvalTerms: loops · EvalFresh: loops · EvalValid: loops · EvalLow: loops.
  DERIVED. THE GIVEN ROWS OF THIS SEAT. 4 by the template 'for every input the law returns true; each argument reads behind the call as it read before'; 0 by the template 'total and deterministic' (their statements: YtcceddpmmgabjaaGreatTotals.lean).
  GIVEN WITH THE SEED: the statements are not yours to turn. If you find one false, say at which input.
  Laid BY PROGRAM, IN A SANDBOX (cutbox-rows.mjs): the forced cells as the released guide's own fill.sh prints them over the translation 9b88d1c73a96a6bf… (all of the seat's roots in one cut). By AI agents, Wed Nov 11 2026. No macro, syntax, notation, axiom, sorry.
-/
import Derived.Test.YtcceddpmmgabjaaGreatChecked
import GoSem.Claim
import GoSem.ClaimJoined
import GoSem.ClaimMapViews
import Derived.JoinedTies
import Derived.KernelRfl
namespace Go.Proofs.YtcceddpmmgabjaaGreat
/- THE CELL 'sum', in the pinned program and in every row, IS THE sha256 OF THE DUMP (.gsa) THAT YtcceddpmmgabjaaGreatProg.lean LOADS. Nothing in Lean hashes anything: it is a label: what it is worth is what the hold of that sum in a sandbox is worth. -/
noncomputable def Tryz.pinned : Pinned := { name := "ytcceddpmmgabjaagreat", sum := "9b88d1c73a96a6bf49e3fe61d8dddd7b41446738fe5087ea17d1426fbd0ba621", checked := Tryz.checked }
namespace Rows
def none {H : Type} : Left H := { results := [], args := [] }

/-- 'lazarettolaw15.EvalTerms': WHATEVER THE INPUT: true; the input reads as it did. -/
def evalTermsSpec : ChangeSpec := { name := "evalTerms", fn := fun _ => fun
  | [d1, d2, d3] => { results := [.lit (.bool true)], args := [d1, d2, d3] }
  | _ => none }
def evalTermsRow : OpenClaim := { program := "ytcceddpmmgabjaagreat", sum := "9b88d1c73a96a6bf49e3fe61d8dddd7b41446738fe5087ea17d1426fbd0ba621", func := "lazaretto/lazarettolaw15.EvalTerms", spec := "evalTerms", unfollowed := true, recurses := true, loops := true, apart := false }
def EvalTermsSaid : Prop := evalTermsRow.holds Tryz.pinned (OpenSpec.ofChange evalTermsSpec)

/-- ITS FALSE NEIGHBOUR: 'it returns false'. Refute it at one input. -/
def evalTermsWrong : ChangeSpec := { name := "evalTerms", fn := fun _ => fun
  | [d1, d2, d3] => { results := [.lit (.bool false)], args := [d1, d2, d3] }
  | _ => none }
def EvalTermsWrongFalsely : Prop := evalTermsRow.holds Tryz.pinned (OpenSpec.ofChange evalTermsWrong)

/-- 'lazarettolaw15.EvalFresh': WHATEVER THE INPUT: true; the input reads as it did. -/
def evalFreshSpec : ChangeSpec := { name := "evalFresh", fn := fun _ => fun
  | [d1, d2] => { results := [.lit (.bool true)], args := [d1, d2] }
  | _ => none }
def evalFreshRow : OpenClaim := { program := "ytcceddpmmgabjaagreat", sum := "9b88d1c73a96a6bf49e3fe61d8dddd7b41446738fe5087ea17d1426fbd0ba621", func := "lazaretto/lazarettolaw15.EvalFresh", spec := "evalFresh", unfollowed := true, recurses := true, loops := true, apart := false }
def EvalFreshSaid : Prop := evalFreshRow.holds Tryz.pinned (OpenSpec.ofChange evalFreshSpec)

/-- ITS FALSE NEIGHBOUR: 'it returns false'. Refute it at one input. -/
def evalFreshWrong : ChangeSpec := { name := "evalFresh", fn := fun _ => fun
  | [d1, d2] => { results := [.lit (.bool false)], args := [d1, d2] }
  | _ => none }
def EvalFreshWrongFalsely : Prop := evalFreshRow.holds Tryz.pinned (OpenSpec.ofChange evalFreshWrong)

/-- 'lazarettolaw15.EvalValid': WHATEVER THE INPUT: true; the input reads as it did. -/
def evalValidSpec : ChangeSpec := { name := "evalValid", fn := fun _ => fun
  | [d1, d2, d3] => { results := [.lit (.bool true)], args := [d1, d2, d3] }
  | _ => none }
def evalValidRow : OpenClaim := { program := "ytcceddpmmgabjaagreat", sum := "9b88d1c73a96a6bf49e3fe61d8dddd7b41446738fe5087ea17d1426fbd0ba621", func := "lazaretto/lazarettolaw15.EvalValid", spec := "evalValid", unfollowed := true, recurses := true, loops := true, apart := false }
def EvalValidSaid : Prop := evalValidRow.holds Tryz.pinned (OpenSpec.ofChange evalValidSpec)

/-- ITS FALSE NEIGHBOUR: 'it returns false'. Refute it at one input. -/
def evalValidWrong : ChangeSpec := { name := "evalValid", fn := fun _ => fun
  | [d1, d2, d3] => { results := [.lit (.bool false)], args := [d1, d2, d3] }
  | _ => none }
def EvalValidWrongFalsely : Prop := evalValidRow.holds Tryz.pinned (OpenSpec.ofChange evalValidWrong)

/-- 'lazarettolaw15.EvalLow': WHATEVER THE INPUT: true; the input reads as it did. -/
def evalLowSpec : ChangeSpec := { name := "evalLow", fn := fun _ => fun
  | [d1, d2, d3] => { results := [.lit (.bool true)], args := [d1, d2, d3] }
  | _ => none }
def evalLowRow : OpenClaim := { program := "ytcceddpmmgabjaagreat", sum := "9b88d1c73a96a6bf49e3fe61d8dddd7b41446738fe5087ea17d1426fbd0ba621", func := "lazaretto/lazarettolaw15.EvalLow", spec := "evalLow", unfollowed := true, recurses := true, loops := true, apart := false }
def EvalLowSaid : Prop := evalLowRow.holds Tryz.pinned (OpenSpec.ofChange evalLowSpec)

/-- ITS FALSE NEIGHBOUR: 'it returns false'. Refute it at one input. -/
def evalLowWrong : ChangeSpec := { name := "evalLow", fn := fun _ => fun
  | [d1, d2, d3] => { results := [.lit (.bool false)], args := [d1, d2, d3] }
  | _ => none }
def EvalLowWrongFalsely : Prop := evalLowRow.holds Tryz.pinned (OpenSpec.ofChange evalLowWrong)

/- THE SECOND FORM. 'bulk': how many values and letters a reading holds, each counted each time it is reached (what is shared counts as often as it is met; a slice's spare places count too). A statement '..UptoSaid' is the law's where the arguments, and the package variables that the reading takes, are together of bulk at most 1048576: NARROWER than '..Said'. Prove '..Said' where nothing that the law and all that it calls make is longer than what came in: it says more and counts as full. Else prove '..UptoSaid'. A law counts once. -/
mutual
def uptoBulk {H : Type} : DataW H → Nat
  | .lit (.string bytes) => bytes.length + 1
  | .lit _ => 1
  | .nil => 1
  | .ptr d => uptoBulk d + 1
  | .slice elems spare => uptoBulkAll elems + uptoBulkAll spare + 1
  | .agg parts => uptoBulkAll parts + 1
  | .iface _ d => uptoBulk d + 1
  | .map entries => uptoBulkEntries entries + 1
  | .held _ => 1
def uptoBulkAll {H : Type} : List (DataW H) → Nat
  | [] => 0
  | d :: r => uptoBulk d + uptoBulkAll r
def uptoBulkEntries {H : Type} : List (Lit × DataW H) → Nat
  | [] => 0
  | x :: r => uptoBulkEntry x + uptoBulkEntries r
def uptoBulkEntry {H : Type} : Lit × DataW H → Nat
  | (.string bytes, d) => bytes.length + uptoBulk d + 1
  | (_, d) => uptoBulk d + 1
 end
def uptoSmall : (H : Type) → List (DataW H) → Bool := fun _ ds => decide (uptoBulkAll ds ≤ 1048576)
def OpenSpec.upto (s : _root_.Go.ChangeSpec) : _root_.Go.OpenSpec := { _root_.Go.OpenSpec.ofChange s with cond := some uptoSmall }

/-- 'lazarettolaw15.EvalTerms', WHERE WHAT IT READS IS OF BULK AT MOST 1048576: true; the input reads as it did. -/
def evalTermsUptoRow : OpenClaim := { program := "ytcceddpmmgabjaagreat", sum := "9b88d1c73a96a6bf49e3fe61d8dddd7b41446738fe5087ea17d1426fbd0ba621", func := "lazaretto/lazarettolaw15.EvalTerms", spec := "evalTerms", unfollowed := true, recurses := true, loops := true, apart := false, narrowed := true }
def EvalTermsUptoSaid : Prop := evalTermsUptoRow.holds Tryz.pinned (OpenSpec.upto evalTermsSpec)

/-- 'lazarettolaw15.EvalFresh', WHERE WHAT IT READS IS OF BULK AT MOST 1048576: true; the input reads as it did. -/
def evalFreshUptoRow : OpenClaim := { program := "ytcceddpmmgabjaagreat", sum := "9b88d1c73a96a6bf49e3fe61d8dddd7b41446738fe5087ea17d1426fbd0ba621", func := "lazaretto/lazarettolaw15.EvalFresh", spec := "evalFresh", unfollowed := true, recurses := true, loops := true, apart := false, narrowed := true }
def EvalFreshUptoSaid : Prop := evalFreshUptoRow.holds Tryz.pinned (OpenSpec.upto evalFreshSpec)

/-- 'lazarettolaw15.EvalValid', WHERE WHAT IT READS IS OF BULK AT MOST 1048576: true; the input reads as it did. -/
def evalValidUptoRow : OpenClaim := { program := "ytcceddpmmgabjaagreat", sum := "9b88d1c73a96a6bf49e3fe61d8dddd7b41446738fe5087ea17d1426fbd0ba621", func := "lazaretto/lazarettolaw15.EvalValid", spec := "evalValid", unfollowed := true, recurses := true, loops := true, apart := false, narrowed := true }
def EvalValidUptoSaid : Prop := evalValidUptoRow.holds Tryz.pinned (OpenSpec.upto evalValidSpec)

/-- 'lazarettolaw15.EvalLow', WHERE WHAT IT READS IS OF BULK AT MOST 1048576: true; the input reads as it did. -/
def evalLowUptoRow : OpenClaim := { program := "ytcceddpmmgabjaagreat", sum := "9b88d1c73a96a6bf49e3fe61d8dddd7b41446738fe5087ea17d1426fbd0ba621", func := "lazaretto/lazarettolaw15.EvalLow", spec := "evalLow", unfollowed := true, recurses := true, loops := true, apart := false, narrowed := true }
def EvalLowUptoSaid : Prop := evalLowUptoRow.holds Tryz.pinned (OpenSpec.upto evalLowSpec)

end Rows
end Go.Proofs.YtcceddpmmgabjaaGreat
