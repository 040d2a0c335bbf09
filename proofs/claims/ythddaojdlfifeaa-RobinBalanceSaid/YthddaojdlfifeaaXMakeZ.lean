/- make([]T, m) and new memory, T an array of zeros. -/
import Derived.Test.YthddaojdlfifeaaXA
namespace XW
open Go Go.RowKit
set_option linter.unusedSimpArgs false
set_option linter.unusedVariables false
set_option linter.unusedSectionVars false
section
variable {F : Fence} {P : Program} {n : Nat} {Q : Post} {ρ : Nat → Value} {ds : List Deferred} {w base : World} {R R' : List Res} {ops : Array Oper} {Φ : World → Prop}
theorem rep_buf {α : Type} (f : α → Value) (a : α) (k : Nat) : Array.replicate k (f a) = buf (sc f) (List.replicate k a) [] := by
  apply Array.ext'
  rw [buf, List.append_nil]
  simp only [Array.toList_replicate]
  induction k with
  | zero => rfl
  | succ k ih => rw [List.replicate_succ, List.replicate_succ, List.flatMap_cons, ← ih]; rfl
end
end XW
