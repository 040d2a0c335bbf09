import Derived.Test.YtbbffpgnjdejiaaP4
import Derived.Test.YtbbffpgnjdejiaaNums
namespace Go.Proofs.Ytbbffpgnjdejiaa.Pure
open Go.RowKit Go.Proofs.Ytbbffpgnjdejiaa.P Go.Proofs.YtbbffpgnjdejiaaW.PrintWords Go.Proofs.YtbbffpgnjdejiaaW.PrintLast

theorem FieldSpec : fastilaw09_FieldSpec.Pure := by
  intro a0 a1 _ _
  refine ⟨40, ?_⟩
  unfold fastilaw09_FieldSpec.f
  simp only [sane_ge (show 8 ≤ 40 by omega), rinv_eq (show 32 ≤ 40 by omega), inv_f, mod_eq, rmod_eq, add_ge (show 3 ≤ 40 by omega), radd_eq, mul_eq, rmul_eq, Option.bind_some, if_true, beq_self_eq_true]

end Go.Proofs.Ytbbffpgnjdejiaa.Pure
