import Derived.Test.YtecgklfcblpkdaaNums
/- Sets of teams, in their order; when one is short of games: plain. -/
namespace Go.Proofs.Ytecgklfcblpkdaa.P
open Go.RowKit Go.Proofs.YtecgklfcblpkdaaW.PrintWords Go.Proofs.YtecgklfcblpkdaaW.PrintLast Go.Proofs.YtecgklfcblpkdaaW.PrintMore
open XW
set_option linter.unusedSimpArgs false
set_option linter.unusedVariables false

/-! ### the order -/
end Go.Proofs.Ytecgklfcblpkdaa.P

/- The specification's short sets and its search: plain. -/
namespace Go.Proofs.Ytecgklfcblpkdaa.P
open Go.RowKit Go.Proofs.YtecgklfcblpkdaaW.PrintWords Go.Proofs.YtecgklfcblpkdaaW.PrintLast Go.Proofs.YtecgklfcblpkdaaW.PrintMore
open XW
set_option linter.unusedSimpArgs false
set_option linter.unusedVariables false

/-! ### Short -/
/-! ### before -/
end Go.Proofs.Ytecgklfcblpkdaa.P

/- The specification's Violates is the program's: plain. -/
namespace Go.Proofs.Ytecgklfcblpkdaa.P
open Go.RowKit Go.Proofs.YtecgklfcblpkdaaW.PrintWords Go.Proofs.YtecgklfcblpkdaaW.PrintLast Go.Proofs.YtecgklfcblpkdaaW.PrintMore
open XW
set_option linter.unusedSimpArgs false
set_option linter.unusedVariables false

def good (p : List (List Int)) (x : Nat) : Prop := 2 ≤ popc x ∧ shortB p x = true
instance (p : List (List Int)) (x : Nat) : Decidable (good p x) := by unfold good; infer_instance
theorem vioF_len (p : List (List Int)) : (vioF p).1.length ≤ 10 := by
  unfold vioF
  split
  · simp
  · rename_i h
    split
    · have := membs_len p.length; rename_i set _; have := this set; simp only []; omega
    · simp
/-! ### Least -/
end Go.Proofs.Ytecgklfcblpkdaa.P
