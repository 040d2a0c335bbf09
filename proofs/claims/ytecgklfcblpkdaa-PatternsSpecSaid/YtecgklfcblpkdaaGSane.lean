/- The sanity examples: contract. -/
import Derived.Test.YtecgklfcblpkdaaSaneW
namespace Go.Proofs.Ytecgklfcblpkdaa.P
open Go.RowKit Go.Proofs.YtecgklfcblpkdaaW.PrintWords Go.Proofs.YtecgklfcblpkdaaW.PrintLast Go.Proofs.YtecgklfcblpkdaaW.PrintMore
open XW
def fastilaw21_sane.f : Option Bool := some true
theorem fastilaw21_sane.calls (r : Bool) (w : World) (h : fastilaw21_sane.f = some r) :
    Calls Try.prog 10 #[] w fun e w' => e = .returned (.bool r) ∧ Below w.heap.size w w' := by
  cases h
  exact (sane_rets w).mono (by rintro e w' ⟨u, rfl, rfl, hb⟩; exact ⟨rfl, hb⟩)
end Go.Proofs.Ytecgklfcblpkdaa.P
