/- The inverse modulo the prime: the walk of field.Inverse. -/
import Derived.Test.YtbbffpgnjdejiaaP1
import Derived.Test.YtbbffpgnjdejiaaMath
import Derived.Test.YtbbffpgnjdejiaaXOps
namespace Go.Proofs.Ytbbffpgnjdejiaa.P
open Go.RowKit Go.Proofs.YtbbffpgnjdejiaaW.PrintWords Go.Proofs.YtbbffpgnjdejiaaW.PrintLast Go.Proofs.YtbbffpgnjdejiaaW.PrintMore
open FieldMath XW
set_option linter.unusedSimpArgs false
set_option linter.unusedVariables false

/-- what field.Mod answers -/
theorem mod_eq (a : Int) : field_Mod.f a = some (a % 1073741789) := by
  unfold field_Mod.f
  have h := Int.emod_nonneg a (show (1073741789 : Int) ≠ 0 by omega)
  have h2 := Int.emod_lt_of_pos a (show (0 : Int) < 1073741789 by omega)
  have e : Int.tmod a 1073741789 = if 0 ≤ a then a % 1073741789 else -((-a) % 1073741789) := by
    by_cases h0 : 0 ≤ a
    · rw [if_pos h0, Int.tmod_eq_emod_of_nonneg h0]
    · rw [if_neg h0]
      obtain ⟨b, rfl⟩ : ∃ b, a = -b := ⟨-a, by omega⟩
      rw [Int.neg_tmod, Int.tmod_eq_emod_of_nonneg (by omega), Int.neg_neg]
  rw [e]
  by_cases h0 : 0 ≤ a
  · rw [if_pos h0, if_neg (by omega)]
  · rw [if_neg h0]
    have h3 := Int.emod_nonneg (-a) (show (1073741789 : Int) ≠ 0 by omega)
    have h4 := Int.emod_lt_of_pos (-a) (show (0 : Int) < 1073741789 by omega)
    by_cases h5 : -((-a) % 1073741789) < 0
    · rw [if_pos h5]
      have : wrap64 (-(-a % 1073741789) + 1073741789) = -(-a % 1073741789) + 1073741789 := by unfold wrap64; omega
      rw [this]
      congr 1; omega
    · rw [if_neg h5]; congr 1; omega

theorem mul_eq (a b : Int) : field_Mul.f a b = some (a * b % 1073741789) := by
  unfold field_Mul.f
  rw [mod_eq, Option.bind_some, mod_eq, Option.bind_some]
  have h := Int.emod_nonneg a (show (1073741789 : Int) ≠ 0 by omega)
  have h2 := Int.emod_lt_of_pos a (show (0 : Int) < 1073741789 by omega)
  have h' := Int.emod_nonneg b (show (1073741789 : Int) ≠ 0 by omega)
  have h2' := Int.emod_lt_of_pos b (show (0 : Int) < 1073741789 by omega)
  have hp : 0 ≤ (a % 1073741789) * (b % 1073741789) := Int.mul_nonneg h h'
  have hq : (a % 1073741789) * (b % 1073741789) ≤ 1073741789 * 1073741789 := Int.mul_le_mul (by omega) (by omega) h' (by omega)
  have hw : wrap64 ((a % 1073741789) * (b % 1073741789)) = (a % 1073741789) * (b % 1073741789) := by
    generalize (a % 1073741789) * (b % 1073741789) = t at *
    unfold wrap64; omega
  rw [hw, Int.tmod_eq_emod_of_nonneg hp, ← Int.mul_emod]

/-- the power, bit by bit -/
def ploop : Nat → Int → Int → Int → Int
  | 0, _, _, x => x
  | k + 1, left, sq, x => if left = 0 then x else ploop k (left / 2) (sq * sq % 1073741789) (if left % 2 = 1 then x * sq % 1073741789 else x)

/-- field.Inverse, as a plain function -/
def field_Inverse.f (a0 : Int) : Option (Int × Int) :=
  if a0 % 1073741789 = 0 then some (0, 90) else some (ploop 31 1073741787 a0 1, 0)

theorem E12 : Enters Try.prog 12 := enters Try.func12 (by kernel_rfl) rfl
theorem E16 : Enters Try.prog 16 := enters Try.func16 (by kernel_rfl) rfl
theorem mod_rets (a : Int) (w : World) : Rets Try.prog 12 #[.int .i64 a] w fun u w' => u = .int .i64 (a % 1073741789) ∧ Drawn0 w w' := rets_of (field_Mod.calls a _ w (mod_eq a))
theorem mul_rets (a b : Int) (w : World) : Rets Try.prog 16 #[.int .i64 a, .int .i64 b] w fun u w' => u = .int .i64 (a * b % 1073741789) ∧ Drawn0 w w' := rets_of (field_Mul.calls a b _ w (mul_eq a b))
theorem drawn_trans {a b c : World} (h : Drawn0 a b) (k : Drawn0 b c) : Drawn0 a c := by
  obtain ⟨n, rfl⟩ := k.out
  exact h.step n

theorem field_Inverse.calls (a0 : Int) (r1 : Int) (r2 : Int) (w : World) (h : field_Inverse.f a0 = some (r1, r2)) :
    Calls Try.prog 10 #[.int .i64 a0] w fun e w' => e = .returned (.tuple #[.int .i64 r1, .int .i64 r2]) ∧ Drawn0 w w' := by
  have hF := wide_wide
  refine calls_of (n := 26) Try.func10 rfl Try.ntmps10 (by simp) ?_
  (repeat (first | (with_reducible refine X_seq_k ?_; intro K hK) | with_reducible refine X_block ?_ | with_reducible refine X_scope ?_ | with_reducible refine nogo_n ?_ | with_reducible refine nogo_e ?_ | with_reducible refine nogo_r ?_ | with_reducible refine X_region ?_ | with_reducible refine X_skip ?_ | with_reducible refine X_label ?_ | with_reducible refine X_ret ?_ | with_reducible refine X_exit ?_ | with_reducible refine then_n ?_ | with_reducible refine then_e ?_ | with_reducible refine then_r ?_ | with_reducible refine inb_n ?_ | with_reducible refine inb_r ?_ | with_reducible refine inb_e rfl ?_ | with_reducible refine inb_x rfl ?_ | with_reducible refine XL_nil ?_ | with_reducible refine go_k (by assumption) ?_))
  (refine XL_plain hF _ _ ?_; simp only [plainRun, plain, bin, intBin, un, xv, updO, upd_apply, Option.bind_some, reduceIte, Nat.reduceLT, Nat.reduceEqDiff, reduceCtorEq, List.getElem?_toArray, List.getElem?_cons_zero, List.getElem?_cons_succ, Int.reduceEq, BEq.rfl, Bool.not_true, Bool.not_false])
  (repeat (first | (with_reducible refine X_seq_k ?_; intro K hK) | with_reducible refine X_block ?_ | with_reducible refine X_scope ?_ | with_reducible refine nogo_n ?_ | with_reducible refine nogo_e ?_ | with_reducible refine nogo_r ?_ | with_reducible refine X_region ?_ | with_reducible refine X_skip ?_ | with_reducible refine X_label ?_ | with_reducible refine X_ret ?_ | with_reducible refine X_exit ?_ | with_reducible refine then_n ?_ | with_reducible refine then_e ?_ | with_reducible refine then_r ?_ | with_reducible refine inb_n ?_ | with_reducible refine inb_r ?_ | with_reducible refine inb_e rfl ?_ | with_reducible refine inb_x rfl ?_ | with_reducible refine XL_nil ?_ | with_reducible refine go_k (by assumption) ?_))
  (refine XL_plain hF _ _ ?_; simp only [plainRun, plain, bin, intBin, un, xv, updO, upd_apply, Option.bind_some, reduceIte, Nat.reduceLT, Nat.reduceEqDiff, reduceCtorEq, List.getElem?_toArray, List.getElem?_cons_zero, List.getElem?_cons_succ, Int.reduceEq, BEq.rfl, Bool.not_true, Bool.not_false])
  refine XL_call hF rfl E12 (mod_rets a0 _) (by simp [xv, upd]) ?_
  rintro v w1 ⟨rfl, hd1⟩
  (refine XL_plain hF _ _ ?_; simp only [plainRun, plain, bin, intBin, un, xv, updO, upd_apply, Option.bind_some, reduceIte, Nat.reduceLT, Nat.reduceEqDiff, reduceCtorEq, List.getElem?_toArray, List.getElem?_cons_zero, List.getElem?_cons_succ, Int.reduceEq, BEq.rfl, Bool.not_true, Bool.not_false])
  (repeat (first | (with_reducible refine X_seq_k ?_; intro K hK) | with_reducible refine X_block ?_ | with_reducible refine X_scope ?_ | with_reducible refine nogo_n ?_ | with_reducible refine nogo_e ?_ | with_reducible refine nogo_r ?_ | with_reducible refine X_region ?_ | with_reducible refine X_skip ?_ | with_reducible refine X_label ?_ | with_reducible refine X_ret ?_ | with_reducible refine X_exit ?_ | with_reducible refine then_n ?_ | with_reducible refine then_e ?_ | with_reducible refine then_r ?_ | with_reducible refine inb_n ?_ | with_reducible refine inb_r ?_ | with_reducible refine inb_e rfl ?_ | with_reducible refine inb_x rfl ?_ | with_reducible refine XL_nil ?_ | with_reducible refine go_k (by assumption) ?_))
  by_cases hz : a0 % 1073741789 = 0
  · refine X_cond_true (by simp [xv, upd, hz]) ?_
    (repeat (first | (with_reducible refine X_seq_k ?_; intro K hK) | with_reducible refine X_block ?_ | with_reducible refine X_scope ?_ | with_reducible refine nogo_n ?_ | with_reducible refine nogo_e ?_ | with_reducible refine nogo_r ?_ | with_reducible refine X_region ?_ | with_reducible refine X_skip ?_ | with_reducible refine X_label ?_ | with_reducible refine X_ret ?_ | with_reducible refine X_exit ?_ | with_reducible refine then_n ?_ | with_reducible refine then_e ?_ | with_reducible refine then_r ?_ | with_reducible refine inb_n ?_ | with_reducible refine inb_r ?_ | with_reducible refine inb_e rfl ?_ | with_reducible refine inb_x rfl ?_ | with_reducible refine XL_nil ?_ | with_reducible refine go_k (by assumption) ?_))
    (refine XL_plain hF _ _ ?_; simp only [plainRun, plain, bin, intBin, un, xv, updO, upd_apply, Option.bind_some, reduceIte, Nat.reduceLT, Nat.reduceEqDiff, reduceCtorEq, List.getElem?_toArray, List.getElem?_cons_zero, List.getElem?_cons_succ, Int.reduceEq, BEq.rfl, Bool.not_true, Bool.not_false])
    (repeat (first | (with_reducible refine X_seq_k ?_; intro K hK) | with_reducible refine X_block ?_ | with_reducible refine X_scope ?_ | with_reducible refine nogo_n ?_ | with_reducible refine nogo_e ?_ | with_reducible refine nogo_r ?_ | with_reducible refine X_region ?_ | with_reducible refine X_skip ?_ | with_reducible refine X_label ?_ | with_reducible refine X_ret ?_ | with_reducible refine X_exit ?_ | with_reducible refine then_n ?_ | with_reducible refine then_e ?_ | with_reducible refine then_r ?_ | with_reducible refine inb_n ?_ | with_reducible refine inb_r ?_ | with_reducible refine inb_e rfl ?_ | with_reducible refine inb_x rfl ?_ | with_reducible refine XL_nil ?_ | with_reducible refine go_k (by assumption) ?_))
    rw [field_Inverse.f, if_pos hz] at h
    obtain ⟨rfl, rfl⟩ : 0 = r1 ∧ 90 = r2 := by simpa using h
    exact body_ret (results2 rfl (by decide) (by decide)) ⟨by simp [upd], hd1⟩
  · rw [field_Inverse.f, if_neg hz] at h
    refine X_cond_false (by simp [xv, upd, hz]) ?_
    (repeat (first | (with_reducible refine X_seq_k ?_; intro K hK) | with_reducible refine X_block ?_ | with_reducible refine X_scope ?_ | with_reducible refine nogo_n ?_ | with_reducible refine nogo_e ?_ | with_reducible refine nogo_r ?_ | with_reducible refine X_region ?_ | with_reducible refine X_skip ?_ | with_reducible refine X_label ?_ | with_reducible refine X_ret ?_ | with_reducible refine X_exit ?_ | with_reducible refine then_n ?_ | with_reducible refine then_e ?_ | with_reducible refine then_r ?_ | with_reducible refine inb_n ?_ | with_reducible refine inb_r ?_ | with_reducible refine inb_e rfl ?_ | with_reducible refine inb_x rfl ?_ | with_reducible refine XL_nil ?_ | with_reducible refine go_k (by assumption) ?_))
    (refine XL_plain hF _ _ ?_; simp only [plainRun, plain, bin, intBin, un, xv, updO, upd_apply, Option.bind_some, reduceIte, Nat.reduceLT, Nat.reduceEqDiff, reduceCtorEq, List.getElem?_toArray, List.getElem?_cons_zero, List.getElem?_cons_succ, Int.reduceEq, BEq.rfl, Bool.not_true, Bool.not_false])
    (repeat (first | (with_reducible refine X_seq_k ?_; intro K hK) | with_reducible refine X_block ?_ | with_reducible refine X_scope ?_ | with_reducible refine nogo_n ?_ | with_reducible refine nogo_e ?_ | with_reducible refine nogo_r ?_ | with_reducible refine X_region ?_ | with_reducible refine X_skip ?_ | with_reducible refine X_label ?_ | with_reducible refine X_ret ?_ | with_reducible refine X_exit ?_ | with_reducible refine then_n ?_ | with_reducible refine then_e ?_ | with_reducible refine then_r ?_ | with_reducible refine inb_n ?_ | with_reducible refine inb_r ?_ | with_reducible refine inb_e rfl ?_ | with_reducible refine inb_x rfl ?_ | with_reducible refine XL_nil ?_ | with_reducible refine go_k (by assumption) ?_))
    (refine XL_plain hF _ _ ?_; simp only [plainRun, plain, bin, intBin, un, xv, updO, upd_apply, Option.bind_some, reduceIte, Nat.reduceLT, Nat.reduceEqDiff, reduceCtorEq, List.getElem?_toArray, List.getElem?_cons_zero, List.getElem?_cons_succ, Int.reduceEq, BEq.rfl, Bool.not_true, Bool.not_false])
    (repeat (first | (with_reducible refine X_seq_k ?_; intro K hK) | with_reducible refine X_block ?_ | with_reducible refine X_scope ?_ | with_reducible refine nogo_n ?_ | with_reducible refine nogo_e ?_ | with_reducible refine nogo_r ?_ | with_reducible refine X_region ?_ | with_reducible refine X_skip ?_ | with_reducible refine X_label ?_ | with_reducible refine X_ret ?_ | with_reducible refine X_exit ?_ | with_reducible refine then_n ?_ | with_reducible refine then_e ?_ | with_reducible refine then_r ?_ | with_reducible refine inb_n ?_ | with_reducible refine inb_r ?_ | with_reducible refine inb_e rfl ?_ | with_reducible refine inb_x rfl ?_ | with_reducible refine XL_nil ?_ | with_reducible refine go_k (by assumption) ?_))
    obtain ⟨h1, rfl⟩ : ploop 31 1073741787 a0 1 = r1 ∧ 0 = r2 := by simpa using h
    refine X_loop (α := Nat × Int × Int × Int)
      (fun st ρ ds w' => ρ 4 = .int .i64 st.2.1 ∧ ρ 5 = .int .i64 st.2.2.1 ∧ ρ 2 = .int .i64 st.2.2.2 ∧ ds = [] ∧ Drawn0 w w' ∧ 0 ≤ st.2.1 ∧ st.2.1 < 2 ^ st.1 ∧ st.1 ≤ 31 ∧ ploop st.1 st.2.1 st.2.2.1 st.2.2.2 = r1)
      (fun st => st.2.1.toNat) (31, 1073741787, a0, 1) ⟨by simp [upd], by simp [upd], by simp [upd], rfl, hd1, by simp, by simp, by simp, h1⟩ ?_
    rintro ⟨k, left, sq, x⟩ ρ ds w2 ⟨h4, h5, h2, rfl, hd2, hl0, hl1, hk, hp⟩ K hK
    simp only at h4 h5 h2 hl0 hl1 hk hp
    (repeat (first | (with_reducible refine X_seq_k ?_; intro K hK) | with_reducible refine X_block ?_ | with_reducible refine X_scope ?_ | with_reducible refine nogo_n ?_ | with_reducible refine nogo_e ?_ | with_reducible refine nogo_r ?_ | with_reducible refine X_region ?_ | with_reducible refine X_skip ?_ | with_reducible refine X_label ?_ | with_reducible refine X_ret ?_ | with_reducible refine X_exit ?_ | with_reducible refine then_n ?_ | with_reducible refine then_e ?_ | with_reducible refine then_r ?_ | with_reducible refine inb_n ?_ | with_reducible refine inb_r ?_ | with_reducible refine inb_e rfl ?_ | with_reducible refine inb_x rfl ?_ | with_reducible refine XL_nil ?_ | with_reducible refine go_k (by assumption) ?_))
    (refine XL_plain hF _ _ ?_; simp only [plainRun, plain, bin, intBin, un, xv, updO, upd_apply, Option.bind_some, reduceIte, Nat.reduceLT, Nat.reduceEqDiff, reduceCtorEq, List.getElem?_toArray, List.getElem?_cons_zero, List.getElem?_cons_succ, Int.reduceEq, BEq.rfl, Bool.not_true, Bool.not_false, h4])
    (repeat (first | (with_reducible refine X_seq_k ?_; intro K hK) | with_reducible refine X_block ?_ | with_reducible refine X_scope ?_ | with_reducible refine nogo_n ?_ | with_reducible refine nogo_e ?_ | with_reducible refine nogo_r ?_ | with_reducible refine X_region ?_ | with_reducible refine X_skip ?_ | with_reducible refine X_label ?_ | with_reducible refine X_ret ?_ | with_reducible refine X_exit ?_ | with_reducible refine then_n ?_ | with_reducible refine then_e ?_ | with_reducible refine then_r ?_ | with_reducible refine inb_n ?_ | with_reducible refine inb_r ?_ | with_reducible refine inb_e rfl ?_ | with_reducible refine inb_x rfl ?_ | with_reducible refine XL_nil ?_ | with_reducible refine go_k (by assumption) ?_))
    have hl2 : left < 2147483648 := Int.lt_of_lt_of_le hl1 (by
      have : (2 : Int) ^ k ≤ 2 ^ 31 := by
        have := Nat.pow_le_pow_right (show 0 < 2 by omega) hk
        exact_mod_cast this
      exact this)
    by_cases hz0 : left = 0
    · subst hz0
      refine X_cond_true (by simp [xv, upd]) ?_
      (repeat (first | (with_reducible refine X_seq_k ?_; intro K hK) | with_reducible refine X_block ?_ | with_reducible refine X_scope ?_ | with_reducible refine nogo_n ?_ | with_reducible refine nogo_e ?_ | with_reducible refine nogo_r ?_ | with_reducible refine X_region ?_ | with_reducible refine X_skip ?_ | with_reducible refine X_label ?_ | with_reducible refine X_ret ?_ | with_reducible refine X_exit ?_ | with_reducible refine then_n ?_ | with_reducible refine then_e ?_ | with_reducible refine then_r ?_ | with_reducible refine inb_n ?_ | with_reducible refine inb_r ?_ | with_reducible refine inb_e rfl ?_ | with_reducible refine inb_x rfl ?_ | with_reducible refine XL_nil ?_ | with_reducible refine go_k (by assumption) ?_))
      (refine XL_plain hF _ _ ?_; simp only [plainRun, plain, bin, intBin, un, xv, updO, upd_apply, Option.bind_some, reduceIte, Nat.reduceLT, Nat.reduceEqDiff, reduceCtorEq, List.getElem?_toArray, List.getElem?_cons_zero, List.getElem?_cons_succ, Int.reduceEq, BEq.rfl, Bool.not_true, Bool.not_false])
      (repeat (first | (with_reducible refine X_seq_k ?_; intro K hK) | with_reducible refine X_block ?_ | with_reducible refine X_scope ?_ | with_reducible refine nogo_n ?_ | with_reducible refine nogo_e ?_ | with_reducible refine nogo_r ?_ | with_reducible refine X_region ?_ | with_reducible refine X_skip ?_ | with_reducible refine X_label ?_ | with_reducible refine X_ret ?_ | with_reducible refine X_exit ?_ | with_reducible refine then_n ?_ | with_reducible refine then_e ?_ | with_reducible refine then_r ?_ | with_reducible refine inb_n ?_ | with_reducible refine inb_r ?_ | with_reducible refine inb_e rfl ?_ | with_reducible refine inb_x rfl ?_ | with_reducible refine XL_nil ?_ | with_reducible refine go_k (by assumption) ?_))
      have : x = r1 := by
        cases k with
        | zero => exact hp
        | succ k => simpa [ploop] using hp
      exact body_ret (results2 rfl (by decide) (by decide)) ⟨by simp [upd, h2, this], hd2⟩
    · obtain ⟨k, rfl⟩ : ∃ j, k = j + 1 := by
        cases k with
        | zero => simp at hl1; omega
        | succ k => exact ⟨k, rfl⟩
      refine X_cond_false (by simp [xv, upd, hz0]) ?_
      rw [Int.pow_succ] at hl1
      rw [ploop, if_neg hz0] at hp
      have htm : Int.tmod left 2 = left % 2 := Int.tmod_eq_emod_of_nonneg hl0
      have htd : Int.tdiv left 2 = left / 2 := Int.tdiv_eq_ediv_of_nonneg hl0
      have hwr : IntKind.i64.wrap (left / 2) = left / 2 := wrap64_in (by omega) (by omega)
      (repeat (first | (with_reducible refine X_seq_k ?_; intro K hK) | with_reducible refine X_block ?_ | with_reducible refine X_scope ?_ | with_reducible refine nogo_n ?_ | with_reducible refine nogo_e ?_ | with_reducible refine nogo_r ?_ | with_reducible refine X_region ?_ | with_reducible refine X_skip ?_ | with_reducible refine X_label ?_ | with_reducible refine X_ret ?_ | with_reducible refine X_exit ?_ | with_reducible refine then_n ?_ | with_reducible refine then_e ?_ | with_reducible refine then_r ?_ | with_reducible refine inb_n ?_ | with_reducible refine inb_r ?_ | with_reducible refine inb_e rfl ?_ | with_reducible refine inb_x rfl ?_ | with_reducible refine XL_nil ?_ | with_reducible refine go_k (by assumption) ?_))
      (refine XL_plain hF _ _ ?_; simp only [plainRun, plain, bin, intBin, un, xv, updO, upd_apply, Option.bind_some, reduceIte, Nat.reduceLT, Nat.reduceEqDiff, reduceCtorEq, List.getElem?_toArray, List.getElem?_cons_zero, List.getElem?_cons_succ, Int.reduceEq, BEq.rfl, Bool.not_true, Bool.not_false, h4, htm])
      (repeat (first | (with_reducible refine X_seq_k ?_; intro K hK) | with_reducible refine X_block ?_ | with_reducible refine X_scope ?_ | with_reducible refine nogo_n ?_ | with_reducible refine nogo_e ?_ | with_reducible refine nogo_r ?_ | with_reducible refine X_region ?_ | with_reducible refine X_skip ?_ | with_reducible refine X_label ?_ | with_reducible refine X_ret ?_ | with_reducible refine X_exit ?_ | with_reducible refine then_n ?_ | with_reducible refine then_e ?_ | with_reducible refine then_r ?_ | with_reducible refine inb_n ?_ | with_reducible refine inb_r ?_ | with_reducible refine inb_e rfl ?_ | with_reducible refine inb_x rfl ?_ | with_reducible refine XL_nil ?_ | with_reducible refine go_k (by assumption) ?_))
      by_cases ho : left % 2 = 1
      · rw [if_pos ho] at hp
        refine X_cond_true (by simp [xv, upd, ho]) ?_
        (repeat (first | (with_reducible refine X_seq_k ?_; intro K hK) | with_reducible refine X_block ?_ | with_reducible refine X_scope ?_ | with_reducible refine nogo_n ?_ | with_reducible refine nogo_e ?_ | with_reducible refine nogo_r ?_ | with_reducible refine X_region ?_ | with_reducible refine X_skip ?_ | with_reducible refine X_label ?_ | with_reducible refine X_ret ?_ | with_reducible refine X_exit ?_ | with_reducible refine then_n ?_ | with_reducible refine then_e ?_ | with_reducible refine then_r ?_ | with_reducible refine inb_n ?_ | with_reducible refine inb_r ?_ | with_reducible refine inb_e rfl ?_ | with_reducible refine inb_x rfl ?_ | with_reducible refine XL_nil ?_ | with_reducible refine go_k (by assumption) ?_))
        (refine XL_plain hF _ _ ?_; simp only [plainRun, plain, bin, intBin, un, xv, updO, upd_apply, Option.bind_some, reduceIte, Nat.reduceLT, Nat.reduceEqDiff, reduceCtorEq, List.getElem?_toArray, List.getElem?_cons_zero, List.getElem?_cons_succ, Int.reduceEq, BEq.rfl, Bool.not_true, Bool.not_false, h2, h5])
        refine XL_call hF rfl E16 (mul_rets x sq _) (by simp [xv, upd]) ?_
        rintro v w3 ⟨rfl, hd3⟩
        (refine XL_plain hF _ _ ?_; simp only [plainRun, plain, bin, intBin, un, xv, updO, upd_apply, Option.bind_some, reduceIte, Nat.reduceLT, Nat.reduceEqDiff, reduceCtorEq, List.getElem?_toArray, List.getElem?_cons_zero, List.getElem?_cons_succ, Int.reduceEq, BEq.rfl, Bool.not_true, Bool.not_false])
        (repeat (first | (with_reducible refine X_seq_k ?_; intro K hK) | with_reducible refine X_block ?_ | with_reducible refine X_scope ?_ | with_reducible refine nogo_n ?_ | with_reducible refine nogo_e ?_ | with_reducible refine nogo_r ?_ | with_reducible refine X_region ?_ | with_reducible refine X_skip ?_ | with_reducible refine X_label ?_ | with_reducible refine X_ret ?_ | with_reducible refine X_exit ?_ | with_reducible refine then_n ?_ | with_reducible refine then_e ?_ | with_reducible refine then_r ?_ | with_reducible refine inb_n ?_ | with_reducible refine inb_r ?_ | with_reducible refine inb_e rfl ?_ | with_reducible refine inb_x rfl ?_ | with_reducible refine XL_nil ?_ | with_reducible refine go_k (by assumption) ?_))
        (refine XL_plain hF _ _ ?_; simp only [plainRun, plain, bin, intBin, un, xv, updO, upd_apply, Option.bind_some, reduceIte, Nat.reduceLT, Nat.reduceEqDiff, reduceCtorEq, List.getElem?_toArray, List.getElem?_cons_zero, List.getElem?_cons_succ, Int.reduceEq, BEq.rfl, Bool.not_true, Bool.not_false, h4, h5, htd, hwr])
        refine XL_call hF rfl E16 (mul_rets sq sq _) (by simp [xv, upd]) ?_
        rintro v w4 ⟨rfl, hd4⟩
        (refine XL_plain hF _ _ ?_; simp only [plainRun, plain, bin, intBin, un, xv, updO, upd_apply, Option.bind_some, reduceIte, Nat.reduceLT, Nat.reduceEqDiff, reduceCtorEq, List.getElem?_toArray, List.getElem?_cons_zero, List.getElem?_cons_succ, Int.reduceEq, BEq.rfl, Bool.not_true, Bool.not_false])
        (repeat (first | (with_reducible refine X_seq_k ?_; intro K hK) | with_reducible refine X_block ?_ | with_reducible refine X_scope ?_ | with_reducible refine nogo_n ?_ | with_reducible refine nogo_e ?_ | with_reducible refine nogo_r ?_ | with_reducible refine X_region ?_ | with_reducible refine X_skip ?_ | with_reducible refine X_label ?_ | with_reducible refine X_ret ?_ | with_reducible refine X_exit ?_ | with_reducible refine then_n ?_ | with_reducible refine then_e ?_ | with_reducible refine then_r ?_ | with_reducible refine inb_n ?_ | with_reducible refine inb_r ?_ | with_reducible refine inb_e rfl ?_ | with_reducible refine inb_x rfl ?_ | with_reducible refine XL_nil ?_ | with_reducible refine go_k (by assumption) ?_))
        exact ⟨(k, left / 2, sq * sq % 1073741789, x * sq % 1073741789), ⟨by simp [upd], by simp [upd], by simp [upd], rfl, drawn_trans (drawn_trans hd2 hd3) hd4, by simp only; omega, by simp only; omega, by simp only; omega, hp⟩, by simp only; omega⟩
      · rw [if_neg ho] at hp
        refine X_cond_false (by simp [xv, upd, ho]) ?_
        (repeat (first | (with_reducible refine X_seq_k ?_; intro K hK) | with_reducible refine X_block ?_ | with_reducible refine X_scope ?_ | with_reducible refine nogo_n ?_ | with_reducible refine nogo_e ?_ | with_reducible refine nogo_r ?_ | with_reducible refine X_region ?_ | with_reducible refine X_skip ?_ | with_reducible refine X_label ?_ | with_reducible refine X_ret ?_ | with_reducible refine X_exit ?_ | with_reducible refine then_n ?_ | with_reducible refine then_e ?_ | with_reducible refine then_r ?_ | with_reducible refine inb_n ?_ | with_reducible refine inb_r ?_ | with_reducible refine inb_e rfl ?_ | with_reducible refine inb_x rfl ?_ | with_reducible refine XL_nil ?_ | with_reducible refine go_k (by assumption) ?_))
        (refine XL_plain hF _ _ ?_; simp only [plainRun, plain, bin, intBin, un, xv, updO, upd_apply, Option.bind_some, reduceIte, Nat.reduceLT, Nat.reduceEqDiff, reduceCtorEq, List.getElem?_toArray, List.getElem?_cons_zero, List.getElem?_cons_succ, Int.reduceEq, BEq.rfl, Bool.not_true, Bool.not_false, h4, h5, htd, hwr])
        refine XL_call hF rfl E16 (mul_rets sq sq _) (by simp [xv, upd]) ?_
        rintro v w4 ⟨rfl, hd4⟩
        (refine XL_plain hF _ _ ?_; simp only [plainRun, plain, bin, intBin, un, xv, updO, upd_apply, Option.bind_some, reduceIte, Nat.reduceLT, Nat.reduceEqDiff, reduceCtorEq, List.getElem?_toArray, List.getElem?_cons_zero, List.getElem?_cons_succ, Int.reduceEq, BEq.rfl, Bool.not_true, Bool.not_false])
        (repeat (first | (with_reducible refine X_seq_k ?_; intro K hK) | with_reducible refine X_block ?_ | with_reducible refine X_scope ?_ | with_reducible refine nogo_n ?_ | with_reducible refine nogo_e ?_ | with_reducible refine nogo_r ?_ | with_reducible refine X_region ?_ | with_reducible refine X_skip ?_ | with_reducible refine X_label ?_ | with_reducible refine X_ret ?_ | with_reducible refine X_exit ?_ | with_reducible refine then_n ?_ | with_reducible refine then_e ?_ | with_reducible refine then_r ?_ | with_reducible refine inb_n ?_ | with_reducible refine inb_r ?_ | with_reducible refine inb_e rfl ?_ | with_reducible refine inb_x rfl ?_ | with_reducible refine XL_nil ?_ | with_reducible refine go_k (by assumption) ?_))
        exact ⟨(k, left / 2, sq * sq % 1073741789, x), ⟨by simp [upd], by simp [upd], by simp [upd, h2], rfl, drawn_trans hd2 hd4, by simp only; omega, by simp only; omega, by simp only; omega, hp⟩, by simp only; omega⟩
end Go.Proofs.Ytbbffpgnjdejiaa.P
