/- Calls within a fence: a callee that calls yield itself (an iterator's closure that calls itself). -/
import Derived.Test.YtmilnlcegcdolaaXB
namespace XW
open Go Go.RowKit RegInv
set_option linter.unusedSimpArgs false
set_option linter.unusedVariables false
set_option linter.unusedSectionVars false

section
variable {F : Fence} {P : Program} {n : Nat} {Q : Post} {ρ : Nat → Value} {ds : List Deferred} {w base : World} {R : List Res} {ops : Array Oper}
end
end XW
