/- Few and right meetings. -/
import Derived.Test.YtcjpghiceebkfaaP7
import Derived.Test.YtcjpghiceebkfaaRightP
namespace Go.Proofs.Ytcjpghiceebkfaa.Pure
open Go.RowKit Go.Proofs.Ytcjpghiceebkfaa.P Go.Proofs.YtcjpghiceebkfaaW.PrintWords Go.Proofs.YtcjpghiceebkfaaW.PrintLast
open XW
set_option linter.unusedSimpArgs false
theorem right_law (k : Nat) (n : Int) (m : List S45) (hk : 2 * m.length + 2 ≤ k) : fastilaw22_right.f k n m = some (decide ((m.length : Int) ≤ 700) && rightB n m) := by
  rw [fastilaw22_right.f, fastiref22_Few.f, Option.bind_some]
  by_cases h : (m.length : Int) ≤ 700
  · rw [decide_eq_true h, if_pos rfl, right_f n m k hk]; rfl
  · rw [decide_eq_false h]; rfl
theorem few_inv {n : Int} {m : List S45} (h : (decide ((m.length : Int) ≤ 700) && rightB n m) = true) : m.length ≤ 700 ∧ ∃ es r, foesF n m = some (es, r) := by
  simp only [Bool.and_eq_true, decide_eq_true_eq, rightB] at h
  refine ⟨by omega, ?_⟩
  cases hf : foesF n m with
  | none => rw [hf] at h; simp at h
  | some p => exact ⟨p.1, p.2, rfl⟩
end Go.Proofs.Ytcjpghiceebkfaa.Pure
