import Derived.Test.YtbbffpgnjdejiaaP8
import Derived.Test.YtbbffpgnjdejiaaPureFieldThrough
namespace Go.Proofs.Ytbbffpgnjdejiaa.Pure
open Go.RowKit Go.Proofs.Ytbbffpgnjdejiaa.P Go.Proofs.YtbbffpgnjdejiaaW.PrintWords Go.Proofs.YtbbffpgnjdejiaaW.PrintLast FieldMath
set_option linter.unusedSimpArgs false

theorem diff_iff (l : List S38) : diff l = true ↔ (l.map fun p => p.f0 % 1073741789).Nodup := by simp [diff]
/-- two polynomials through the same points are one, behind the prime -/
theorem same_poly {l : List S38} {P R : List Int} (h : diff l = true) (hP : P.length ≤ l.length) (hR : R.length ≤ l.length) (h1 : ∀ p ∈ l, ev P p.f0 % 1073741789 = p.f1 % 1073741789) (h2 : ∀ p ∈ l, ev R p.f0 % 1073741789 = p.f1 % 1073741789) (t : Int) : ev P t % 1073741789 = ev R t % 1073741789 :=
  mod_of_dvd (agree primeQ (l.map (·.f0)) P R (apart_of h) (by simpa using hP) (by simpa using hR) (fun x hx => by
    obtain ⟨p, hp, rfl⟩ := List.mem_map.1 hx
    exact dvd_of_mod ((h1 p hp).trans (h2 p hp).symm)) t)

theorem at_turned {l : List S38} (hl : l.length ≤ 64) (h : diff l = true) (k : Nat) (t : Int) : field_At.f (l.drop k ++ l.take k) t = field_At.f l t := by
  have hperm : (l.drop k ++ l.take k).Perm l := by
    have := List.perm_append_comm (l₁ := l.drop k) (l₂ := l.take k)
    rwa [List.take_append_drop] at this
  have hd : diff (l.drop k ++ l.take k) = true := (diff_iff _).2 ((hperm.map _).nodup_iff.2 ((diff_iff l).1 h))
  obtain ⟨P, p1, p2, _, p4⟩ := at_poly hl h
  obtain ⟨R, r1, r2, _, r4⟩ := at_poly (l := l.drop k ++ l.take k) (by rw [hperm.length_eq]; exact hl) hd
  rw [p2, r2]
  rw [same_poly h p1 (by rw [hperm.length_eq] at r1; exact r1) p4 (fun p hp => r4 p (hperm.mem_iff.2 hp)) t]
theorem at_more {l : List S38} (hl : l.length < 64) (h : diff l = true) (x t y : Int) (hy : field_At.f l x = some (y, 0)) (hm : diff (l ++ [⟨x, y⟩]) = true) : field_At.f (l ++ [⟨x, y⟩]) t = field_At.f l t := by
  obtain ⟨P, p1, p2, _, p4⟩ := at_poly (by omega) h
  obtain ⟨R, r1, r2, _, r4⟩ := at_poly (l := l ++ [⟨x, y⟩]) (by simp; omega) hm
  rw [p2] at hy
  obtain ⟨hy, _⟩ : ev P x % 1073741789 = y ∧ True := by simpa using hy
  rw [p2, r2]
  refine congrArg (fun v => some (v, 0)) (same_poly hm r1 (by simp; omega) r4 (fun p hp => ?_) t)
  rcases List.mem_append.1 hp with hp | hp
  · exact p4 p hp
  · rw [List.mem_singleton] at hp
    subst hp
    simp only
    rw [← hy]
    exact (Int.emod_emod_of_dvd _ (Int.dvd_refl _)).symm

theorem order_j0t (l : List S38) (n x t : Int) (k : Nat) : fastilaw09_FieldOrder.j0 (k + 1) l n x t true = some true := by
  unfold fastilaw09_FieldOrder.j0; try dsimp only
  rw [if_pos rfl]
theorem order_j1 (l : List S38) (hl : l.length < 64) (h : diff l = true) (x t y : Int) (hy : field_At.f l t = some (y, 0)) (k : Nat) (hk : 6000 ≤ k) : fastilaw09_FieldOrder.j1 (k + 1) l x t y false = some true := by
  unfold fastilaw09_FieldOrder.j1; try dsimp only
  obtain ⟨P, p1, p2, _, p4⟩ := at_poly (by omega) h
  have hx := p2 x
  rw [if_neg (by simp), hx, Option.bind_some, Option.bind_some, if_pos (by simp; omega), Option.bind_some, if_pos (by simp; omega), Option.bind_some, List.nil_append]
  dsimp only
  have hlen : (l ++ [(⟨x, ev P x % 1073741789⟩ : S38)]).length ≤ 64 := by simp; omega
  have hsz : ((l ++ [(⟨x, ev P x % 1073741789⟩ : S38)]).length + 2) * ((l ++ [(⟨x, ev P x % 1073741789⟩ : S38)]).length + 3) ≤ 66 * 67 := Nat.mul_le_mul (by omega) (by omega)
  rw [diff_eq _ (by omega) k (by omega)]
  by_cases hm : diff (l ++ [(⟨x, ev P x % 1073741789⟩ : S38)]) = true
  · rw [at_more hl h x t _ hx hm, hy, Option.bind_some, Option.bind_some, if_pos hm, if_pos rfl, if_pos rfl]
    simp
  · rw [at_bad hlen (by simpa using hm), Option.bind_some, Option.bind_some, if_neg hm, if_pos rfl]
    rfl
theorem FieldOrder (l : List S38) (n x t : Int) (hn : 0 ≤ n) (hn2 : n ≤ 255) : ∃ k, fastilaw09_FieldOrder.f k l n x t = some true := by
  refine ⟨9999 + 1, ?_⟩
  unfold fastilaw09_FieldOrder.f
  rw [sane_ge (by omega), Option.bind_some, if_pos rfl]
  by_cases h : (l.length : Int) ≥ 64
  · rw [if_pos h]; exact order_j0t l n x t 9999
  · have hl : l.length < 64 := by omega
    have hsz : (l.length + 2) * (l.length + 3) ≤ 66 * 67 := Nat.mul_le_mul (by omega) (by omega)
    rw [if_neg h, diff_eq l (by omega) _ (by omega), Option.bind_some]
    by_cases hd : diff l = true
    · rw [if_pos hd]
      by_cases h0 : (l.length : Int) = 0
      · have : ((l.length : Int) == 0) = true := by simpa using h0
        rw [this]; exact order_j0t l n x t 9999
      · have : ((l.length : Int) == 0) = false := by simpa using h0
        rw [this]
        unfold fastilaw09_FieldOrder.j0; try dsimp only
        have ht : Int.tmod (wrap64 n) (l.length : Int) = n % (l.length : Int) := by rw [w64 (by omega) (by omega)]; exact Int.tmod_eq_emod_of_nonneg hn
        have hr0 := Int.emod_nonneg n h0
        have hr1 := Int.emod_lt_of_pos n (show (0 : Int) < l.length by omega)
        rw [ht]
        generalize n % (l.length : Int) = m at hr0 hr1
        obtain ⟨j, rfl⟩ : ∃ j : Nat, m = j := ⟨m.toNat, by omega⟩
        obtain ⟨P, p1, p2, _, p4⟩ := at_poly (by omega) hd
        have ha := p2 t
        rw [if_neg (by simp), if_neg h0, Option.bind_some, if_pos hr0, if_pos (by omega), Option.bind_some, if_pos (by simp; omega), Option.bind_some, Option.bind_some, if_pos (by simp; omega), ha, Option.bind_some, List.nil_append, Int.toNat_natCast,
          at_turned (by omega) hd, ha, Option.bind_some, if_pos rfl, if_pos rfl]
        have : (ev P t % 1073741789 != ev P t % 1073741789) = false := by simp
        dsimp only
        rw [this]
        exact order_j1 l hl hd x t _ ha 9998 (by omega)
    · rw [if_neg hd]; exact order_j0t l n x t 9999
theorem u8_rng {n : Int} (h : (Lit.int .u8 n).wf = true) : 0 ≤ n ∧ n ≤ 255 := by
  have : decide (IntKind.u8.min ≤ n) = true ∧ decide (n ≤ IntKind.u8.max) = true := by simpa [Lit.wf] using h
  exact ⟨of_decide_eq_true this.1, of_decide_eq_true this.2⟩
end Go.Proofs.Ytbbffpgnjdejiaa.Pure
