/- PatternsLeastSpec, plain. -/
import Derived.Test.YtecgklfcblpkdaaShort3
namespace Go.Proofs.Ytecgklfcblpkdaa.Pure
open Go.RowKit Go.Proofs.Ytecgklfcblpkdaa.P Go.Proofs.YtecgklfcblpkdaaW.PrintWords Go.Proofs.YtecgklfcblpkdaaW.PrintLast
set_option linter.unusedSimpArgs false
theorem PatternsLeastSpec (n kind : Int) (p : List (List Int)) : ∃ k, fastilaw21_PatternsLeastSpec.f k n kind p = some true := by
  obtain ⟨b, K1, h1⟩ := few_ev [] p
  obtain ⟨K2, h2⟩ := least_ev n kind
  obtain ⟨K3, h3⟩ := rleast_ev n kind
  obtain ⟨K4, h4⟩ := rvio_ev p
  have hl := vioF_len p
  obtain ⟨K5, h5⟩ := ints_ev (vioF p).1 (by omega)
  refine ⟨K1 + K2 + K3 + K4 + K5, ?_⟩
  have h1 := h1 (K1 + K2 + K3 + K4 + K5) (by omega)
  have h2 := h2 (K1 + K2 + K3 + K4 + K5) (by omega)
  have h3 := h3 (K1 + K2 + K3 + K4 + K5) (by omega)
  have h4 := h4 (K1 + K2 + K3 + K4 + K5) (by omega)
  have h5 := h5 (K1 + K2 + K3 + K4 + K5) (by omega)
  simp only [] at h1 h2 h3 h4 h5
  unfold fastilaw21_PatternsLeastSpec.f
  rw [fastilaw21_sane.f, Option.bind_some, if_pos rfl, h1, Option.bind_some]
  cases b
  · rfl
  · rw [if_pos rfl, h2, Option.bind_some, h3, Option.bind_some, patterns_Violates.f, Option.bind_some, h4, Option.bind_some, if_pos rfl, if_pos rfl, h5, Option.bind_some, if_pos rfl]
    simp
end Go.Proofs.Ytecgklfcblpkdaa.Pure
