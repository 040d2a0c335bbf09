/- Seat 09, plain: what the small functions answer, as numbers modulo the prime. -/
import Derived.Test.YtbbffpgnjdejiaaP4
import Derived.Test.YtbbffpgnjdejiaaGAt
import Derived.Test.YtbbffpgnjdejiaaMath
namespace Go.Proofs.Ytbbffpgnjdejiaa.P
open Go.RowKit Go.Proofs.YtbbffpgnjdejiaaW.PrintWords Go.Proofs.YtbbffpgnjdejiaaW.PrintLast Go.Proofs.YtbbffpgnjdejiaaW.PrintMore
open FieldMath
set_option linter.unusedSimpArgs false
set_option linter.unusedVariables false

theorem leO_le {α : Type} {f : Nat → Option α} (h : ∀ k, LeO (f k) (f (k + 1))) {k k' : Nat} (hk : k ≤ k') : LeO (f k) (f k') := by
  induction hk with
  | refl => exact LeO.refl _
  | step _ ih => exact ih.trans (h _)

theorem mod_rng (a : Int) : 0 ≤ a % 1073741789 ∧ a % 1073741789 < 1073741789 := ⟨Int.emod_nonneg a (by omega), Int.emod_lt_of_pos a (by omega)⟩
theorem mod_w (a : Int) : ∃ q, a % 1073741789 = a + 1073741789 * q := ⟨-(a / 1073741789), by rw [Int.emod_def]; omega⟩
theorem mod_of_dvd {a b : Int} (h : (1073741789 : Int) ∣ a - b) : a % 1073741789 = b % 1073741789 := Int.emod_eq_emod_iff_emod_sub_eq_zero.2 (Int.emod_eq_zero_of_dvd h)
theorem dvd_of_mod {a b : Int} (h : a % 1073741789 = b % 1073741789) : (1073741789 : Int) ∣ a - b := Int.dvd_of_emod_eq_zero (Int.emod_eq_emod_iff_emod_sub_eq_zero.1 h)
theorem mod_self {a : Int} (h0 : 0 ≤ a) (h1 : a < 1073741789) : a % 1073741789 = a := Int.emod_eq_of_lt h0 h1
theorem w64 {x : Int} (h0 : -9223372036854775808 ≤ x) (h1 : x ≤ 9223372036854775807) : wrap64 x = x := by unfold wrap64; omega

theorem rmod_eq (a : Int) : fastiref09_Mod.f a = some (a % 1073741789) := mod_eq a
theorem rmul_eq (a b : Int) : fastiref09_Mul.f a b = some (a * b % 1073741789) := mul_eq a b
theorem sum_ge {k : Nat} (hk : 3 ≤ k) (a b : Int) : field_sum.f k [a, b] = some ((a + b) % 1073741789) := leO_le (f := fun k => field_sum.f k [a, b]) (field_sum.mono _) hk _ (sum_eq a b)
theorem add_ge {k : Nat} (hk : 3 ≤ k) (a b : Int) : field_Add.f k a b = some ((a + b) % 1073741789) := by
  unfold field_Add.f; rw [sum_ge hk]; rfl
theorem radd_eq (a b : Int) : fastiref09_Add.f a b = some ((a + b) % 1073741789) := by
  unfold fastiref09_Add.f
  rw [rmod_eq, Option.bind_some, rmod_eq, Option.bind_some]
  have ha := mod_rng a; have hb := mod_rng b
  rw [w64 (by omega) (by omega), Int.tmod_eq_emod_of_nonneg (by omega)]
  congr 1; omega

theorem rpower_l0 : ∀ (j k : Nat) (s n x : Int), j < k → 0 ≤ n → n < 2 ^ j → j ≤ 31 → fastiref09_power.l0 k s n x = some (ploop j n s x)
  | 0, k + 1, s, n, x, _, h0, h1, _ => by
    have : n = 0 := by simp at h1; omega
    subst this; simp [fastiref09_power.l0, ploop]
  | j + 1, k + 1, s, n, x, hk, h0, h1, hj => by
    unfold fastiref09_power.l0 ploop
    by_cases hn : n = 0
    · subst hn; simp
    · rw [if_pos (by omega), if_neg hn]
      rw [Int.pow_succ] at h1
      have h2 : (2 : Int) ^ j ≤ 2 ^ 30 := by
        have := Nat.pow_le_pow_right (show 0 < 2 by omega) (show j ≤ 30 by omega)
        exact_mod_cast this
      have e1 : Int.tmod n 2 = n % 2 := Int.tmod_eq_emod_of_nonneg h0
      have e2 : wrap64 (Int.tdiv n 2) = n / 2 := by rw [Int.tdiv_eq_ediv_of_nonneg h0]; exact w64 (by omega) (by omega)
      rw [e1, e2]
      simp only [rmul_eq, Option.bind_some]
      have ih := rpower_l0 j k (s * s % 1073741789) (n / 2) (if n % 2 = 1 then x * s % 1073741789 else x) (by omega) (by omega) (by omega) (by omega)
      by_cases hm : n % 2 = 1
      · rw [if_pos hm, if_pos hm]; rw [if_pos hm] at ih; exact ih
      · rw [if_neg hm, if_neg hm]; rw [if_neg hm] at ih; exact ih
theorem rinv_eq {k : Nat} (hk : 32 ≤ k) (a : Int) : fastiref09_Inverse.f k a = field_Inverse.f a := by
  unfold fastiref09_Inverse.f field_Inverse.f fastiref09_power.f
  rw [rmod_eq, Option.bind_some, rpower_l0 31 k a 1073741787 1 (by omega) (by omega) (by decide) (by omega)]
  rfl

set_option maxRecDepth 100000 in
theorem sane_at : fastilaw09_sane.f 8 = some true := by decide +kernel
theorem sane_ge {k : Nat} (hk : 8 ≤ k) : fastilaw09_sane.f k = some true := leO_le (f := fun k => fastilaw09_sane.f k) fastilaw09_sane.mono hk _ sane_at

/-! ### the inverse -/
theorem ploop_rng : ∀ (j : Nat) (n s x : Int), 0 ≤ x → x < 1073741789 → 0 ≤ ploop j n s x ∧ ploop j n s x < 1073741789
  | 0, n, s, x, h0, h1 => ⟨h0, h1⟩
  | j + 1, n, s, x, h0, h1 => by
    unfold ploop
    split
    · exact ⟨h0, h1⟩
    · refine ploop_rng j _ _ _ ?_ ?_ <;> split <;> first | assumption | exact (mod_rng _).1 | exact (mod_rng _).2
theorem ploop_cong : ∀ (j : Nat) (n s x : Int) (e : Nat), n = e → e < 2 ^ j → (1073741789 : Int) ∣ ploop j n s x - x * s ^ e
  | 0, n, s, x, e, hn, h => by
    have : e = 0 := by simpa using h
    subst this; simp [ploop]
  | j + 1, n, s, x, e, hn, h => by
    unfold ploop
    by_cases h0 : n = 0
    · have : e = 0 := by omega
      subst this; rw [if_pos h0]; simp
    · rw [if_neg h0]
      rw [Nat.pow_succ] at h
      have ih := ploop_cong j (n / 2) (s * s % 1073741789) (if n % 2 = 1 then x * s % 1073741789 else x) (e / 2) (by omega) (by omega)
      refine Int.dvd_trans (Int.dvd_refl _) ?_
      obtain ⟨q1, h1⟩ := mod_w (s * s)
      have hp := pow_cong 1073741789 (s * s % 1073741789) (s * s) ⟨q1, by rw [h1]; omega⟩ (e / 2)
      obtain ⟨u, hu⟩ := ih
      obtain ⟨v, hv⟩ := hp
      have hse : s ^ e = (s * s) ^ (e / 2) * s ^ (e % 2) := by
        have : e = 2 * (e / 2) + e % 2 := by omega
        conv => lhs; rw [this]
        rw [Int.pow_add, Int.pow_mul]
        congr 1
        rw [show (2 : Nat) = 1 + 1 from rfl, Int.pow_succ, Int.pow_succ, Int.pow_zero, Int.one_mul]
      rw [hse]
      generalize (s * s) ^ (e / 2) = A at *
      generalize (s * s % 1073741789) ^ (e / 2) = B at *
      generalize ploop j (n / 2) (s * s % 1073741789) (if n % 2 = 1 then x * s % 1073741789 else x) = R at *
      rcases Nat.mod_two_eq_zero_or_one e with h2 | h2
      · have h3 : ¬ n % 2 = 1 := by omega
        rw [if_neg h3] at hu
        rw [h2, Int.pow_zero]
        exact ⟨u + x * v, by grind⟩
      · have h3 : n % 2 = 1 := by omega
        rw [if_pos h3] at hu
        rw [h2, Int.pow_succ, Int.pow_zero, Int.one_mul]
        obtain ⟨q2, h4⟩ := mod_w (x * s)
        rw [h4] at hu
        exact ⟨u + x * s * v + q2 * B, by grind⟩
theorem inv_rng (b : Int) : 0 ≤ inv b ∧ inv b < 1073741789 := by
  unfold inv; split
  · omega
  · exact ploop_rng _ _ _ _ (by omega) (by omega)
theorem inv_mul {b : Int} (h : b % 1073741789 ≠ 0) : (1073741789 : Int) ∣ b * inv b - 1 := by
  unfold inv
  rw [if_neg h]
  have h1 := ploop_cong 31 1073741787 b 1 1073741787 rfl (by decide)
  have h2 := inverse primeQ b (fun hd => h (Int.emod_eq_zero_of_dvd hd))
  rw [show (1073741789 - 2 : Nat) = 1073741787 from rfl] at h2
  generalize ploop 31 1073741787 b 1 = R at *
  generalize b ^ 1073741787 = A at *
  obtain ⟨u, hu⟩ := h1
  obtain ⟨v, hv⟩ := h2
  exact ⟨b * u + v, by grind⟩
end Go.Proofs.Ytbbffpgnjdejiaa.P
