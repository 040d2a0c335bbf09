/- make([]T, m) and new memory, T an array of zeros. -/
import Derived.Test.YthddaojdlfifeaaXA
namespace XW
open Go Go.RowKit
set_option linter.unusedSimpArgs false
set_option linter.unusedVariables false
set_option linter.unusedSectionVars false
section
variable {F : Fence} {P : Program} {n : Nat} {Q : Post} {ρ : Nat → Value} {ds : List Deferred} {w base : World} {R R' : List Res} {ops : Array Oper} {Φ : World → Prop}
end
end XW
