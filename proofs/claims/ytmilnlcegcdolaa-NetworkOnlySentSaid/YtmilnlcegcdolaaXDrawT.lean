/- A region that draws its order: every order of its first operations, one after the other. -/
import Derived.Test.YtmilnlcegcdolaaXB
namespace XW
open Go Go.RowKit RegInv
set_option linter.unusedSimpArgs false
set_option linter.unusedVariables false
set_option linter.unusedSectionVars false

section
variable {F : Fence} {P : Program} {n : Nat} {Q : Post} {ρ : Nat → Value} {ds : List Deferred} {w base : World} {R : List Res} {ops : Array Oper}

def ready (ops : Array Oper) (m : Nat) (done : List Nat) : List Nat := (List.range m).filter fun i => !done.contains i && (deps ops i).all done.contains
theorem AT_all1 {p : Nat → Prop} {a : Nat} (h : p a) : ∀ i ∈ [a], p i := fun i hi => by rw [List.mem_singleton.1 hi]; exact h
theorem AT_all {p : Nat → Prop} {a b : Nat} {l : List Nat} (h : p a) (h2 : ∀ i ∈ b :: l, p i) : ∀ i ∈ a :: b :: l, p i := fun i hi => by
  rcases List.mem_cons.1 hi with rfl | hi
  · exact h
  · exact h2 i hi
end
end XW
