/- LzG: tables that lie ready when the program begins: strings.asciiSpace. -/
import Derived.Laws.World
import Derived.Lib.Space
namespace Go.Lz
set_option linter.unusedVariables false
set_option linter.unusedSimpArgs false
def spaceTab : List Value := (List.range 256).map fun c => Value.int .u8 (if Go.Lib.isSp (UInt8.ofNat c) then 1 else 0)
/-- A package-level variable's block, and what its cells hold. -/
def GT : List (Nat × List Value) := [(0, spaceTab)]
end Go.Lz
