/- RobinSpec: the plain law. -/
import Derived.Test.YthddaojdlfifeaaP9
namespace Go.Proofs.Ythddaojdlfifeaa.Pure
open Go.RowKit Go.Proofs.Ythddaojdlfifeaa.P Go.Proofs.YthddaojdlfifeaaW.PrintWords Go.Proofs.YthddaojdlfifeaaW.PrintLast
set_option linter.unusedVariables false

theorem spec_2 : ∀ k, k < 4 → 1 ≤ k → fastilaw20_RobinSpec.f 450 (2 : Nat) (k : Nat) = some true := by decide +kernel
theorem spec_3 : ∀ k, k < 4 → 1 ≤ k → fastilaw20_RobinSpec.f 450 (3 : Nat) (k : Nat) = some true := by decide +kernel
theorem spec_4 : ∀ k, k < 4 → 1 ≤ k → fastilaw20_RobinSpec.f 450 (4 : Nat) (k : Nat) = some true := by decide +kernel
theorem spec_5 : ∀ k, k < 4 → 1 ≤ k → fastilaw20_RobinSpec.f 450 (5 : Nat) (k : Nat) = some true := by decide +kernel
theorem spec_6 : ∀ k, k < 4 → 1 ≤ k → fastilaw20_RobinSpec.f 450 (6 : Nat) (k : Nat) = some true := by decide +kernel
theorem spec_7 : ∀ k, k < 4 → 1 ≤ k → fastilaw20_RobinSpec.f 450 (7 : Nat) (k : Nat) = some true := by decide +kernel
theorem spec_8 : ∀ k, k < 4 → 1 ≤ k → fastilaw20_RobinSpec.f 450 (8 : Nat) (k : Nat) = some true := by decide +kernel
theorem spec_9 : ∀ k, k < 4 → 1 ≤ k → fastilaw20_RobinSpec.f 450 (9 : Nat) (k : Nat) = some true := by decide +kernel
theorem spec_10 : ∀ k, k < 4 → 1 ≤ k → fastilaw20_RobinSpec.f 450 (10 : Nat) (k : Nat) = some true := by decide +kernel
theorem spec_11 : ∀ k, k < 4 → 1 ≤ k → fastilaw20_RobinSpec.f 450 (11 : Nat) (k : Nat) = some true := by decide +kernel
theorem spec_12 : ∀ k, k < 4 → 1 ≤ k → fastilaw20_RobinSpec.f 450 (12 : Nat) (k : Nat) = some true := by decide +kernel
theorem spec_13 : ∀ k, k < 4 → 1 ≤ k → fastilaw20_RobinSpec.f 450 (13 : Nat) (k : Nat) = some true := by decide +kernel
theorem spec_14 : ∀ k, k < 4 → 1 ≤ k → fastilaw20_RobinSpec.f 450 (14 : Nat) (k : Nat) = some true := by decide +kernel
theorem spec_15 : ∀ k, k < 4 → 1 ≤ k → fastilaw20_RobinSpec.f 450 (15 : Nat) (k : Nat) = some true := by decide +kernel
theorem spec_16 : ∀ k, k < 4 → 1 ≤ k → fastilaw20_RobinSpec.f 450 (16 : Nat) (k : Nat) = some true := by decide +kernel
theorem spec_17 : ∀ k, k < 4 → 1 ≤ k → fastilaw20_RobinSpec.f 450 (17 : Nat) (k : Nat) = some true := by decide +kernel
theorem spec_18 : ∀ k, k < 4 → 1 ≤ k → fastilaw20_RobinSpec.f 450 (18 : Nat) (k : Nat) = some true := by decide +kernel
theorem spec_19 : ∀ k, k < 4 → 1 ≤ k → fastilaw20_RobinSpec.f 450 (19 : Nat) (k : Nat) = some true := by decide +kernel
theorem spec_20 : ∀ k, k < 4 → 1 ≤ k → fastilaw20_RobinSpec.f 450 (20 : Nat) (k : Nat) = some true := by decide +kernel
theorem spec_in (n : Nat) (h : n < 21) (h2 : 2 ≤ n) : ∀ k, k < 4 → 1 ≤ k → fastilaw20_RobinSpec.f 450 (n : Nat) (k : Nat) = some true := by
  match n, h, h2 with
  | 2, _, _ => exact spec_2
  | 3, _, _ => exact spec_3
  | 4, _, _ => exact spec_4
  | 5, _, _ => exact spec_5
  | 6, _, _ => exact spec_6
  | 7, _, _ => exact spec_7
  | 8, _, _ => exact spec_8
  | 9, _, _ => exact spec_9
  | 10, _, _ => exact spec_10
  | 11, _, _ => exact spec_11
  | 12, _, _ => exact spec_12
  | 13, _, _ => exact spec_13
  | 14, _, _ => exact spec_14
  | 15, _, _ => exact spec_15
  | 16, _, _ => exact spec_16
  | 17, _, _ => exact spec_17
  | 18, _, _ => exact spec_18
  | 19, _, _ => exact spec_19
  | 20, _, _ => exact spec_20
  | k + 21, h, _ => omega
theorem RobinSpec : fastilaw20_RobinSpec.Pure := by
  intro a0 a1 w0 w1
  by_cases h : rightR a0 a1
  · obtain ⟨h1, h2, h3, h4⟩ := h
    obtain ⟨n, rfl⟩ : ∃ n : Nat, a0 = n := ⟨a0.toNat, by omega⟩
    obtain ⟨k, rfl⟩ : ∃ k : Nat, a1 = k := ⟨a1.toNat, by omega⟩
    exact ⟨450, spec_in n (by omega) (by omega) k (by omega) (by omega)⟩
  · refine ⟨1, ?_⟩
    have hof : ∃ x, robin_of.f a0 a1 = some (a0, x, false) := by
      unfold robin_of.f
      unfold rightR at h
      by_cases h1 : a0 ≥ 2
      · by_cases h2 : a0 ≤ 20
        · by_cases h3 : a1 ≥ 1
          · rw [if_pos h1, if_pos h2, if_pos h3, decide_eq_false (by omega)]; exact ⟨_, rfl⟩
          · rw [if_pos h1, if_pos h2, if_neg h3]; exact ⟨_, rfl⟩
        · rw [if_pos h1, if_neg h2]; exact ⟨_, rfl⟩
      · rw [if_neg h1]; exact ⟨_, rfl⟩
    obtain ⟨x, hx⟩ := hof
    have hr : robin_Rounds.f a0 a1 = some (0, 1) := by
      unfold robin_Rounds.f
      rw [hx]; rfl
    have hf : fastiref20_fine.f a0 a1 = some false := by
      unfold fastiref20_fine.f
      unfold rightR at h
      by_cases h1 : a0 ≥ 2
      · by_cases h2 : a0 ≤ 20
        · rw [if_pos h1, if_pos h2, if_neg (by omega), if_neg (by omega)]
          congr 1
          rw [beq_eq_false_iff_ne]; omega
        · rw [if_pos h1, if_neg h2]
      · rw [if_neg h1]
    have hfr : fastiref20_Rounds.f a0 a1 = some (0, 1) := by
      unfold fastiref20_Rounds.f
      rw [hf]; rfl
    have hm : robin_Make.f a0 a1 = some ([], 1) := by
      unfold robin_Make.f
      rw [if_neg h]
    have hfm : fastiref20_Make.f 1 a0 a1 = some ([], 1) := by
      unfold fastiref20_Make.f
      rw [hf]; rfl
    unfold fastilaw20_RobinSpec.f
    rw [hr, hfr, hm, hfm]
    decide +kernel
end Go.Proofs.Ythddaojdlfifeaa.Pure
