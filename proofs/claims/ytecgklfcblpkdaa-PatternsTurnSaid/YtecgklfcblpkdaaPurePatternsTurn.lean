/- PatternsTurn, plain. -/
import Derived.Test.YtecgklfcblpkdaaTurnL
namespace Go.Proofs.Ytecgklfcblpkdaa.Pure
open Go.RowKit Go.Proofs.Ytecgklfcblpkdaa.P Go.Proofs.YtecgklfcblpkdaaW.PrintWords Go.Proofs.YtecgklfcblpkdaaW.PrintLast
theorem PatternsTurn (p : List (List Int)) (hrow : ∀ r ∈ p, r.length ≤ 17592186044415) (hin : ∀ r ∈ p, ∀ x ∈ r, -9223372036854775808 ≤ x ∧ x ≤ 9223372036854775807) : ∃ k, fastilaw21_PatternsTurn.f k p = some true := by
  obtain ⟨b, K1, h1⟩ := few_ev [] p
  cases b with
  | false =>
    have h1 := h1 K1 (Nat.le_refl _)
    simp only [] at h1
    exact ⟨K1, by rw [fastilaw21_PatternsTurn.f, fastilaw21_sane.f, Option.bind_some, if_pos rfl, h1]; rfl⟩
  | true =>
    have hl := few_len (h1 K1 (Nat.le_refl _))
    obtain ⟨K2, h2⟩ := turn_ev p hl hrow hin
    have h1 := h1 (K1 + K2) (by omega)
    have h2 := h2 (K1 + K2) (by omega)
    simp only [] at h1 h2
    exact ⟨K1 + K2, by rw [fastilaw21_PatternsTurn.f, fastilaw21_sane.f, Option.bind_some, if_pos rfl, h1, Option.bind_some, if_pos rfl]; exact h2⟩
end Go.Proofs.Ytecgklfcblpkdaa.Pure
