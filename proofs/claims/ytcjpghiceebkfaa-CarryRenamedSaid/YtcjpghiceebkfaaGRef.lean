/- fastiref22.Matrix: the walk. -/
import Derived.Test.YtcjpghiceebkfaaRefW
import Derived.Test.YtcjpghiceebkfaaRightP
namespace Go.Proofs.Ytcjpghiceebkfaa.P
open Go.RowKit Go.Proofs.YtcjpghiceebkfaaW.PrintWords Go.Proofs.YtcjpghiceebkfaaW.PrintLast Go.Proofs.YtcjpghiceebkfaaW.PrintMore
open XW RegInv
attribute [local irreducible] Addr.add
set_option linter.unusedSimpArgs false
set_option linter.unusedVariables false

def Vals (N : Nat) (M : List (List Int)) : Prop := ∀ row ∈ M, ∀ x ∈ row, -1 ≤ x ∧ x < N
theorem Vals.set {N : Nat} {M : List (List Int)} (h : Vals N M) {r j : Nat} {v : Int} (hv : 0 ≤ v ∧ v < N) : Vals N (M.set r ((M.getD r []).set j v)) := fun row hm x hx => by
  rcases List.mem_or_eq_of_mem_set hm with hm | rfl
  · exact h _ hm x hx
  · rcases List.mem_or_eq_of_mem_set hx with hx | rfl
    · rw [List.getD_eq_getElem?_getD] at hx
      cases hr : M[r]? with
      | none => rw [hr] at hx; simp at hx
      | some row => rw [hr] at hx; exact h row (List.mem_of_getElem? hr) x hx
    · omega
end Go.Proofs.Ytcjpghiceebkfaa.P
