/- Bits of unsigned numbers of 32 bits. -/
import Derived.Test.YthddaojdlfifeaaXB
namespace XW
open Go Go.RowKit RegInv
set_option linter.unusedSimpArgs false
set_option linter.unusedVariables false
set_option linter.unusedSectionVars false

section
variable {F : Fence} {P : Program} {n : Nat} {Q : Post} {ρ : Nat → Value} {ds : List Deferred} {w base : World} {R : List Res} {ops : Array Oper}
end
end XW
