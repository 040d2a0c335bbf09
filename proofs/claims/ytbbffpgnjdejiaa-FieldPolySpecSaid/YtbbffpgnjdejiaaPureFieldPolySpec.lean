import Derived.Test.YtbbffpgnjdejiaaP5
import Derived.Test.YtbbffpgnjdejiaaVals
namespace Go.Proofs.Ytbbffpgnjdejiaa.Pure
open Go.RowKit Go.Proofs.Ytbbffpgnjdejiaa.P Go.Proofs.YtbbffpgnjdejiaaW.PrintWords Go.Proofs.YtbbffpgnjdejiaaW.PrintLast
set_option linter.unusedSimpArgs false

theorem poly_j0 (poly : List Int) (hp : poly.length ≤ 100) (l : List S38) (t : Int) (k : Nat) (hk : 200 ≤ k) : fastilaw09_FieldPolySpec.j0 (k + 1) poly l t false = some true := by
  unfold fastilaw09_FieldPolySpec.j0; dsimp only
  obtain ⟨r, hr⟩ := at_some l t
  rw [if_neg (by simp), at_same, hr, Option.bind_some, Option.bind_some, val_eq poly (by omega) t k (by omega), rval_eq poly (by omega) t k (by omega), Option.bind_some, Option.bind_some, if_pos rfl, if_pos rfl]
  simp
theorem poly_j0t (poly : List Int) (l : List S38) (t : Int) (k : Nat) : fastilaw09_FieldPolySpec.j0 (k + 1) poly l t true = some true := by
  unfold fastilaw09_FieldPolySpec.j0; dsimp only
  rw [if_pos rfl]

theorem FieldPolySpec (poly : List Int) (l : List S38) (t : Int) : ∃ k, fastilaw09_FieldPolySpec.f k poly l t = some true := by
  refine ⟨200 + 1, ?_⟩
  unfold fastilaw09_FieldPolySpec.f
  rw [sane_ge (by omega), Option.bind_some, if_pos rfl]
  by_cases h : (poly.length : Int) > 100
  · rw [if_pos h]; exact poly_j0t poly l t 200
  · rw [if_neg h]
    unfold fastiref09_Few.f
    rw [Option.bind_some]
    by_cases h2 : (l.length : Int) ≤ 70
    · rw [decide_eq_true h2]; exact poly_j0 poly (by omega) l t 200 (Nat.le_refl _)
    · rw [decide_eq_false h2]; exact poly_j0t poly l t 200
end Go.Proofs.Ytbbffpgnjdejiaa.Pure
