/- CarrySpec, plain. -/
import Derived.Test.YtcjpghiceebkfaaNums
namespace Go.Proofs.Ytcjpghiceebkfaa.Pure
open Go.RowKit Go.Proofs.Ytcjpghiceebkfaa.P Go.Proofs.YtcjpghiceebkfaaW.PrintWords Go.Proofs.YtcjpghiceebkfaaW.PrintLast
set_option linter.unusedSimpArgs false
theorem CarrySpec (n : Int) (m : List S45) : ∃ k, fastilaw22_CarrySpec.f k n m = some true := by
  refine ⟨1000, ?_⟩
  unfold fastilaw22_CarrySpec.f
  rw [sane_ge (by omega), Option.bind_some, if_pos rfl, fastiref22_Few.f, Option.bind_some]
  by_cases h : (m.length : Int) ≤ 700
  · obtain ⟨h1, h2, h3⟩ := matF_shape n m (by omega)
    rw [decide_eq_true h, if_pos rfl, mat_f n m (by omega), ref_f n m (by omega), val_f n m (by omega), refVal_f n m (by omega) 1000 (by omega)]
    simp only [Option.bind_some]
    rw [sameAll_self _ 20 (by omega) (by omega) (fun row hr => by rw [h2 row hr]; exact h1) 1000 (by omega)]
    simp
  · rw [decide_eq_false h]; rfl
end Go.Proofs.Ytcjpghiceebkfaa.Pure
