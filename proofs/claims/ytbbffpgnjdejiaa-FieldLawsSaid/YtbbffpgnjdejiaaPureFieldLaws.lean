import Derived.Test.YtbbffpgnjdejiaaP6
import Derived.Test.YtbbffpgnjdejiaaNums
namespace Go.Proofs.Ytbbffpgnjdejiaa.Pure
open Go.RowKit Go.Proofs.Ytbbffpgnjdejiaa.P Go.Proofs.YtbbffpgnjdejiaaW.PrintWords Go.Proofs.YtbbffpgnjdejiaaW.PrintLast
set_option linter.unusedSimpArgs false

theorem in_ok {x : Int} (h0 : 0 ≤ x) (h1 : x < 1073741789) : fastilaw09_in.f x = some true := by
  unfold fastilaw09_in.f
  rw [if_pos (by omega), decide_eq_true h1]

theorem laws_j2 (a : Int) (k : Nat) : fastilaw09_FieldLaws.j2 (k + 1) a (a % 1073741789) false = some true := by
  unfold fastilaw09_FieldLaws.j2; try dsimp only
  simp only [inv_f, Option.bind_some]
  rw [if_neg (by simp)]
  by_cases h : a % 1073741789 = 0
  · rw [if_pos h, if_pos (by rw [if_pos h])]
    have : inv a = 0 := by unfold inv; rw [if_pos h]
    rw [this]; rfl
  · have hr := inv_rng a
    rw [if_neg h, if_pos (by rw [if_neg h]), in_ok hr.1 hr.2]
    simp only [Option.bind_some, if_true, mul_eq]
    have h1 : a * inv a % 1073741789 = 1 % 1073741789 := mod_of_dvd (inv_mul h)
    rw [h1]; rfl

theorem laws_j1 (a b c : Int) (k : Nat) (hk : 3 ≤ k) : fastilaw09_FieldLaws.j1 (k + 1 + 1) a b c (a % 1073741789) (b % 1073741789) false = some true := by
  unfold fastilaw09_FieldLaws.j1; try dsimp only
  rw [if_neg (by simp)]
  simp only [add_ge (show 3 ≤ k + 1 by omega), mul_eq, Option.bind_some]
  have h5 : a * ((b + c) % 1073741789) % 1073741789 = (a * b % 1073741789 + a * c % 1073741789) % 1073741789 := by
    obtain ⟨q1, e1⟩ := mod_w (b + c); obtain ⟨q2, e2⟩ := mod_w (a * b); obtain ⟨q3, e3⟩ := mod_w (a * c)
    rw [e1, e2, e3]
    exact mod_of_dvd ⟨a * q1 - q2 - q3, by grind⟩
  have hr := mod_rng a
  rw [if_pos h5, if_pos (by omega), if_pos (by omega), w64 (by omega) (by omega), if_pos (by omega)]
  have h9 : a * b % 1073741789 = 0 ↔ a % 1073741789 = 0 ∨ b % 1073741789 = 0 := by
    constructor
    · intro h
      rcases FieldMath.euclidI (p := 1073741789) FieldMath.primeQ (Int.dvd_of_emod_eq_zero h) with h | h
      · exact .inl (Int.emod_eq_zero_of_dvd h)
      · exact .inr (Int.emod_eq_zero_of_dvd h)
    · rintro (h | h)
      · exact Int.emod_eq_zero_of_dvd (Int.dvd_mul_of_dvd_left (Int.dvd_of_emod_eq_zero h))
      · exact Int.emod_eq_zero_of_dvd (Int.dvd_mul_of_dvd_right (Int.dvd_of_emod_eq_zero h))
  by_cases hx : a % 1073741789 = 0
  · have : ((a * b % 1073741789 == 0) != true) = false := by simp [h9, hx]
    rw [if_pos hx, this]; exact laws_j2 a k
  · have : ((a * b % 1073741789 == 0) != (b % 1073741789 == 0)) = false := by
      by_cases hy : b % 1073741789 = 0
      · simp [h9.2 (.inr hy), hy]
      · have h' : ¬ a * b % 1073741789 = 0 := fun h => (h9.1 h).elim hx hy
        rw [beq_eq_false_iff_ne.2 h', beq_eq_false_iff_ne.2 hy]; rfl
    rw [if_neg hx, this]; exact laws_j2 a k

theorem laws_j0 (a b c : Int) (k : Nat) (hk : 3 ≤ k) : fastilaw09_FieldLaws.j0 (k + 1 + 1 + 1) a b c (a % 1073741789) (b % 1073741789) false = some true := by
  unfold fastilaw09_FieldLaws.j0; try dsimp only
  rw [if_neg (by simp)]
  simp only [add_ge (show 3 ≤ k + 1 + 1 by omega), mul_eq, Option.bind_some]
  have h2 : a * b % 1073741789 = b % 1073741789 * (a % 1073741789) % 1073741789 := by
    obtain ⟨q1, e1⟩ := mod_w a; obtain ⟨q2, e2⟩ := mod_w b
    rw [e1, e2]
    exact mod_of_dvd ⟨-(b * q1 + q2 * a + 1073741789 * q2 * q1), by grind⟩
  have h4 : a * b % 1073741789 * c % 1073741789 = a * (b * c % 1073741789) % 1073741789 := by
    obtain ⟨q1, e1⟩ := mod_w (a * b); obtain ⟨q2, e2⟩ := mod_w (b * c)
    rw [e1, e2]
    exact mod_of_dvd ⟨q1 * c - a * q2, by grind⟩
  rw [if_pos (by omega), if_pos h2, if_pos (by omega), h4]
  have : (a * (b * c % 1073741789) % 1073741789 != a * (b * c % 1073741789) % 1073741789) = false := by simp
  rw [this]; exact laws_j1 a b c k hk

theorem FieldLaws : fastilaw09_FieldLaws.Pure := by
  intro a b c w1 _ _
  have hwf : a ≤ 9223372036854775807 := by
    have : decide (IntKind.i64.min ≤ a) = true ∧ decide (a ≤ IntKind.i64.max) = true := by simpa [Lit.wf] using w1
    have h2 := of_decide_eq_true this.2
    exact h2
  refine ⟨37 + 1 + 1 + 1, ?_⟩
  unfold fastilaw09_FieldLaws.f
  have ha := mod_rng a; have hb := mod_rng b; have hc := mod_rng c
  simp only [sane_ge (show 8 ≤ 37 + 1 + 1 + 1 by omega), mod_eq, Option.bind_some, if_true, in_ok ha.1 ha.2, in_ok hb.1 hb.2, in_ok hc.1 hc.2]
  rw [if_pos (by omega)]
  by_cases h : Int.tmod (wrap64 (a - a % 1073741789)) 1073741789 = 0
  · rw [if_pos h]; exact laws_j0 a b c 37 (by omega)
  · rw [if_neg h]
    have h0 : ¬ a ≥ 0 := by
      intro h0
      apply h
      have hw : wrap64 (a - a % 1073741789) = a - a % 1073741789 := by
        exact w64 (by omega) (by omega)
      rw [hw, Int.tmod_eq_emod_of_nonneg (by omega)]
      omega
    rw [decide_eq_false h0]; exact laws_j0 a b c 37 (by omega)

end Go.Proofs.Ytbbffpgnjdejiaa.Pure
