/-
  NARROWER THAN 'FOR EVERY INPUT', by the rows' own cells (each row's printed sentence says how): TypingChecks: loops · TypingTerms: loops · TypingParts: loops · TypingEach: loops.
  DERIVED. THE GIVEN ROWS OF THIS SEAT. 4 by the template 'for every input the law returns true; each argument reads behind the call as it read before'; 0 by the template 'total and deterministic' (their statements: YtmgedefdjobgdaaGreatTotals.lean).
  GIVEN WITH THE SEED: the statements are not yours to turn. If you find one false, say at which input.
  Laid BY PROGRAM, IN A SANDBOX (cutbox-rows.mjs): the forced cells as the released guide's own fill.sh prints them over the translation 1f270c8da5ee1aa1… (all of the seat's roots in one cut). By AI agents, Wed Nov 11 2026. No macro, syntax, notation, axiom, sorry.
-/
import Derived.Test.YtmgedefdjobgdaaGreatChecked
import GoSem.Claim
import GoSem.ClaimJoined
import GoSem.ClaimMapViews
import Derived.JoinedTies
import Derived.KernelRfl
namespace Go.Proofs.YtmgedefdjobgdaaGreat
/- THE CELL 'sum', in the pinned program and in every row, IS THE sha256 OF THE DUMP (.gsa) THAT YtmgedefdjobgdaaGreatProg.lean LOADS. Nothing in Lean hashes anything: it is a label: what it is worth is what the hold of that sum in a sandbox is worth. -/
noncomputable def Tryz.pinned : Pinned := { name := "ytmgedefdjobgdaagreat", sum := "1f270c8da5ee1aa13537e18b3f73dde88947e58d22536288b93fc6f98c712478", checked := Tryz.checked }
namespace Rows
def none {H : Type} : Left H := { results := [], args := [] }

/-- 'lazarettolaw12.TypingChecks': WHATEVER THE INPUT: true; the input reads as it did. -/
def typingChecksSpec : ChangeSpec := { name := "typingChecks", fn := fun _ => fun
  | [d] => { results := [.lit (.bool true)], args := [d] }
  | _ => none }
def typingChecksRow : OpenClaim := { program := "ytmgedefdjobgdaagreat", sum := "1f270c8da5ee1aa13537e18b3f73dde88947e58d22536288b93fc6f98c712478", func := "lazaretto/lazarettolaw12.TypingChecks", spec := "typingChecks", unfollowed := true, recurses := true, loops := true, apart := false }
def TypingChecksSaid : Prop := typingChecksRow.holds Tryz.pinned (OpenSpec.ofChange typingChecksSpec)

/-- ITS FALSE NEIGHBOUR: 'it returns false'. Refute it at one input. -/
def typingChecksWrong : ChangeSpec := { name := "typingChecks", fn := fun _ => fun
  | [d] => { results := [.lit (.bool false)], args := [d] }
  | _ => none }
def TypingChecksWrongFalsely : Prop := typingChecksRow.holds Tryz.pinned (OpenSpec.ofChange typingChecksWrong)

/-- 'lazarettolaw12.TypingTerms': WHATEVER THE INPUT: true; the input reads as it did. -/
def typingTermsSpec : ChangeSpec := { name := "typingTerms", fn := fun _ => fun
  | [d1, d2] => { results := [.lit (.bool true)], args := [d1, d2] }
  | _ => none }
def typingTermsRow : OpenClaim := { program := "ytmgedefdjobgdaagreat", sum := "1f270c8da5ee1aa13537e18b3f73dde88947e58d22536288b93fc6f98c712478", func := "lazaretto/lazarettolaw12.TypingTerms", spec := "typingTerms", unfollowed := true, recurses := true, loops := true, apart := false }
def TypingTermsSaid : Prop := typingTermsRow.holds Tryz.pinned (OpenSpec.ofChange typingTermsSpec)

/-- ITS FALSE NEIGHBOUR: 'it returns false'. Refute it at one input. -/
def typingTermsWrong : ChangeSpec := { name := "typingTerms", fn := fun _ => fun
  | [d1, d2] => { results := [.lit (.bool false)], args := [d1, d2] }
  | _ => none }
def TypingTermsWrongFalsely : Prop := typingTermsRow.holds Tryz.pinned (OpenSpec.ofChange typingTermsWrong)

/-- 'lazarettolaw12.TypingParts': WHATEVER THE INPUT: true; the input reads as it did. -/
def typingPartsSpec : ChangeSpec := { name := "typingParts", fn := fun _ => fun
  | [d1, d2, d3] => { results := [.lit (.bool true)], args := [d1, d2, d3] }
  | _ => none }
def typingPartsRow : OpenClaim := { program := "ytmgedefdjobgdaagreat", sum := "1f270c8da5ee1aa13537e18b3f73dde88947e58d22536288b93fc6f98c712478", func := "lazaretto/lazarettolaw12.TypingParts", spec := "typingParts", unfollowed := true, recurses := true, loops := true, apart := false }
def TypingPartsSaid : Prop := typingPartsRow.holds Tryz.pinned (OpenSpec.ofChange typingPartsSpec)

/-- ITS FALSE NEIGHBOUR: 'it returns false'. Refute it at one input. -/
def typingPartsWrong : ChangeSpec := { name := "typingParts", fn := fun _ => fun
  | [d1, d2, d3] => { results := [.lit (.bool false)], args := [d1, d2, d3] }
  | _ => none }
def TypingPartsWrongFalsely : Prop := typingPartsRow.holds Tryz.pinned (OpenSpec.ofChange typingPartsWrong)

/-- 'lazarettolaw12.TypingEach': WHATEVER THE INPUT: true; the input reads as it did. -/
def typingEachSpec : ChangeSpec := { name := "typingEach", fn := fun _ => fun
  | [d] => { results := [.lit (.bool true)], args := [d] }
  | _ => none }
def typingEachRow : OpenClaim := { program := "ytmgedefdjobgdaagreat", sum := "1f270c8da5ee1aa13537e18b3f73dde88947e58d22536288b93fc6f98c712478", func := "lazaretto/lazarettolaw12.TypingEach", spec := "typingEach", unfollowed := true, recurses := true, loops := true, apart := false }
def TypingEachSaid : Prop := typingEachRow.holds Tryz.pinned (OpenSpec.ofChange typingEachSpec)

/-- ITS FALSE NEIGHBOUR: 'it returns false'. Refute it at one input. -/
def typingEachWrong : ChangeSpec := { name := "typingEach", fn := fun _ => fun
  | [d] => { results := [.lit (.bool false)], args := [d] }
  | _ => none }
def TypingEachWrongFalsely : Prop := typingEachRow.holds Tryz.pinned (OpenSpec.ofChange typingEachWrong)

/- THE SECOND FORM. 'bulk': how many values and letters a reading holds, each counted each time it is reached (what is shared counts as often as it is met; a slice's spare places count too). A statement '..UptoSaid' is the law's where the arguments, and the package variables that the reading takes, are together of bulk at most 1048576: NARROWER than '..Said'. Prove '..Said' where nothing that the law and all that it calls make is longer than what came in: it says more and counts as full. Else prove '..UptoSaid'. A law counts once. -/
mutual
def uptoBulk {H : Type} : DataW H → Nat
  | .lit (.string bytes) => bytes.length + 1
  | .lit _ => 1
  | .nil => 1
  | .ptr d => uptoBulk d + 1
  | .slice elems spare => uptoBulkAll elems + uptoBulkAll spare + 1
  | .agg parts => uptoBulkAll parts + 1
  | .iface _ d => uptoBulk d + 1
  | .map entries => uptoBulkEntries entries + 1
  | .held _ => 1
def uptoBulkAll {H : Type} : List (DataW H) → Nat
  | [] => 0
  | d :: r => uptoBulk d + uptoBulkAll r
def uptoBulkEntries {H : Type} : List (Lit × DataW H) → Nat
  | [] => 0
  | x :: r => uptoBulkEntry x + uptoBulkEntries r
def uptoBulkEntry {H : Type} : Lit × DataW H → Nat
  | (.string bytes, d) => bytes.length + uptoBulk d + 1
  | (_, d) => uptoBulk d + 1
 end
def uptoSmall : (H : Type) → List (DataW H) → Bool := fun _ ds => decide (uptoBulkAll ds ≤ 1048576)
def OpenSpec.upto (s : _root_.Go.ChangeSpec) : _root_.Go.OpenSpec := { _root_.Go.OpenSpec.ofChange s with cond := some uptoSmall }

/-- 'lazarettolaw12.TypingChecks', WHERE WHAT IT READS IS OF BULK AT MOST 1048576: true; the input reads as it did. -/
def typingChecksUptoRow : OpenClaim := { program := "ytmgedefdjobgdaagreat", sum := "1f270c8da5ee1aa13537e18b3f73dde88947e58d22536288b93fc6f98c712478", func := "lazaretto/lazarettolaw12.TypingChecks", spec := "typingChecks", unfollowed := true, recurses := true, loops := true, apart := false, narrowed := true }
def TypingChecksUptoSaid : Prop := typingChecksUptoRow.holds Tryz.pinned (OpenSpec.upto typingChecksSpec)

/-- 'lazarettolaw12.TypingTerms', WHERE WHAT IT READS IS OF BULK AT MOST 1048576: true; the input reads as it did. -/
def typingTermsUptoRow : OpenClaim := { program := "ytmgedefdjobgdaagreat", sum := "1f270c8da5ee1aa13537e18b3f73dde88947e58d22536288b93fc6f98c712478", func := "lazaretto/lazarettolaw12.TypingTerms", spec := "typingTerms", unfollowed := true, recurses := true, loops := true, apart := false, narrowed := true }
def TypingTermsUptoSaid : Prop := typingTermsUptoRow.holds Tryz.pinned (OpenSpec.upto typingTermsSpec)

/-- 'lazarettolaw12.TypingParts', WHERE WHAT IT READS IS OF BULK AT MOST 1048576: true; the input reads as it did. -/
def typingPartsUptoRow : OpenClaim := { program := "ytmgedefdjobgdaagreat", sum := "1f270c8da5ee1aa13537e18b3f73dde88947e58d22536288b93fc6f98c712478", func := "lazaretto/lazarettolaw12.TypingParts", spec := "typingParts", unfollowed := true, recurses := true, loops := true, apart := false, narrowed := true }
def TypingPartsUptoSaid : Prop := typingPartsUptoRow.holds Tryz.pinned (OpenSpec.upto typingPartsSpec)

/-- 'lazarettolaw12.TypingEach', WHERE WHAT IT READS IS OF BULK AT MOST 1048576: true; the input reads as it did. -/
def typingEachUptoRow : OpenClaim := { program := "ytmgedefdjobgdaagreat", sum := "1f270c8da5ee1aa13537e18b3f73dde88947e58d22536288b93fc6f98c712478", func := "lazaretto/lazarettolaw12.TypingEach", spec := "typingEach", unfollowed := true, recurses := true, loops := true, apart := false, narrowed := true }
def TypingEachUptoSaid : Prop := typingEachUptoRow.holds Tryz.pinned (OpenSpec.upto typingEachSpec)

end Rows
end Go.Proofs.YtmgedefdjobgdaaGreat
