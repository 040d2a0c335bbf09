/- PatternsSpec, plain. -/
import Derived.Test.YtecgklfcblpkdaaNums
namespace Go.Proofs.Ytecgklfcblpkdaa.Pure
open Go.RowKit Go.Proofs.Ytecgklfcblpkdaa.P Go.Proofs.YtecgklfcblpkdaaW.PrintWords Go.Proofs.YtecgklfcblpkdaaW.PrintLast
set_option linter.unusedSimpArgs false
theorem ofF_shape (n : Int) (m : List S44) : (ofF n m).1.length ≤ 20 ∧ ∀ row ∈ (ofF n m).1, row.length ≤ 64 := by
  unfold ofF
  split
  · exact ⟨by simp, fun row h => by cases h⟩
  · rename_i h1
    split
    · rename_i h2
      have hb := lastR_bd h2
      obtain ⟨N, rfl⟩ : ∃ N : Nat, n = N := ⟨n.toNat, by omega⟩
      have hR := patM_rect (by omega) h2
      rw [Int.toNat_natCast]
      exact ⟨by have := hR.1; simp only []; omega, fun row hr => by have := hR.2 row hr; omega⟩
    · exact ⟨by simp, fun row h => by cases h⟩
theorem PatternsSpec (n : Int) (m : List S44) (p : List (List Int)) (hp : p.length ≤ 9223372036854775807) : ∃ k, fastilaw21_PatternsSpec.f k n m p = some true := by
  obtain ⟨b, K1, h1⟩ := few_ev m p
  obtain ⟨K2, h2⟩ := br_ev p hp
  obtain ⟨K3, h3⟩ := rbr_ev p
  have hs := ofF_shape n m
  obtain ⟨K4, h4⟩ := same_ev (ofF n m).1 (by omega) (fun row hr => by have := hs.2 row hr; omega)
  have hl := brF_len p
  obtain ⟨K5, h5⟩ := ints_ev (brF p).1 (by omega)
  refine ⟨K1 + K2 + K3 + K4 + K5, ?_⟩
  have h1 := h1 (K1 + K2 + K3 + K4 + K5) (by omega)
  have h2 := h2 (K1 + K2 + K3 + K4 + K5) (by omega)
  have h3 := h3 (K1 + K2 + K3 + K4 + K5) (by omega)
  have h4 := h4 (K1 + K2 + K3 + K4 + K5) (by omega)
  have h5 := h5 (K1 + K2 + K3 + K4 + K5) (by omega)
  simp only [] at h1 h2 h3 h4 h5
  unfold fastilaw21_PatternsSpec.f
  rw [fastilaw21_sane.f, Option.bind_some, if_pos rfl, h1, Option.bind_some]
  cases b
  · rfl
  · rw [if_pos rfl, patterns_Of.f, fastiref21_Of.f]
    simp only [Option.bind_some]
    rw [h2, Option.bind_some, h3, Option.bind_some, h4, Option.bind_some, if_pos rfl, if_pos True.intro, h5, Option.bind_some, if_pos rfl]
    simp
end Go.Proofs.Ytecgklfcblpkdaa.Pure
