/- CarryLoadsSpec, plain. -/
import Derived.Test.YtcjpghiceebkfaaNumsL
namespace Go.Proofs.Ytcjpghiceebkfaa.Pure
open Go.RowKit Go.Proofs.Ytcjpghiceebkfaa.P Go.Proofs.YtcjpghiceebkfaaW.PrintWords Go.Proofs.YtcjpghiceebkfaaW.PrintLast
set_option linter.unusedSimpArgs false
theorem CarryLoadsSpec (n : Int) (m : List S45) (rank : List Int) : ∃ k, fastilaw22_CarryLoadsSpec.f k n m rank = some true := by
  refine ⟨1001, ?_⟩
  unfold fastilaw22_CarryLoadsSpec.f
  rw [sane_ge (by omega), Option.bind_some, if_pos rfl, fastiref22_Few.f, Option.bind_some]
  by_cases h : (m.length : Int) ≤ 700
  · rw [decide_eq_true h, if_pos rfl, fastilaw22_CarryLoadsSpec.j0]
    by_cases h2 : decide ((rank.length : Int) > 100) = true
    · rw [if_pos h2]
    · obtain ⟨p, h3, h4, h5⟩ := loads_same n m rank (by omega) 1000 (by omega)
      obtain ⟨q, h6, h7⟩ := least_same n 1000 (by omega)
      rw [if_neg h2, h3, h4, h6, h7]
      simp only [Option.bind_some]
      rw [same_self _ (by omega) 1000 (by omega)]
      simp
  · rw [decide_eq_false h]; rfl
end Go.Proofs.Ytcjpghiceebkfaa.Pure
