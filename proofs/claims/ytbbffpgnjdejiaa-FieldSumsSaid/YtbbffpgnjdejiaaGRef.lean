/- The reference's At: the walk. -/
import Derived.Test.YtbbffpgnjdejiaaP4
import Derived.Test.YtbbffpgnjdejiaaNums
import Derived.Test.YtbbffpgnjdejiaaXReg
namespace Go.Proofs.Ytbbffpgnjdejiaa.P
open Go.RowKit Go.Proofs.YtbbffpgnjdejiaaW.PrintWords Go.Proofs.YtbbffpgnjdejiaaW.PrintLast Go.Proofs.YtbbffpgnjdejiaaW.PrintMore
open FieldMath XW RegInv
set_option linter.unusedSimpArgs false
set_option linter.unusedVariables false

def diff (l : List S38) : Bool := decide ((l.map fun p => p.f0 % 1073741789).Nodup)
def rStep (at_ px : Int) (i : Nat) (part : Int) (q : S38 × Nat) : Int :=
  if q.2 = i then part else part * (((at_ - q.1.f0) % 1073741789) * inv ((px - q.1.f0) % 1073741789) % 1073741789) % 1073741789
def rPart (at_ : Int) (p : S38) (i : Nat) (l : List S38) : Int := l.zipIdx.foldl (rStep at_ p.f0 i) (p.f1 % 1073741789)
def rSum (at_ : Int) (l : List S38) (ps : List (S38 × Nat)) : Int := ps.foldl (fun y p => (y + rPart at_ p.1 p.2 l) % 1073741789) 0
def fastiref09_At.f (l0 : List (S38)) (a1 : Int) : Option (Int × Int) :=
  if 64 < l0.length then some (0, 2) else if diff l0 then some (rSum a1 l0 l0.zipIdx, 0) else some (0, 90)

theorem rPart_snoc (at_ : Int) (p : S38) (i : Nat) (l : List S38) (k : Nat) (h : k < l.length) : rPart at_ p i (l.take (k + 1)) = rStep at_ p.f0 i (rPart at_ p i (l.take k)) (l.getD k z38, k) := by
  simp only [rPart, zip_take_snoc l k h, List.foldl_append, List.foldl_cons, List.foldl_nil]
theorem rSum_snoc (at_ : Int) (l : List S38) (k : Nat) (h : k < l.length) : rSum at_ l (l.take (k + 1)).zipIdx = (rSum at_ l (l.take k).zipIdx + rPart at_ (l.getD k z38) k l) % 1073741789 := by
  simp only [rSum, zip_take_snoc l k h, List.foldl_append, List.foldl_cons, List.foldl_nil]

/-! ### different -/
theorem nodup_snoc {l : List S38} {k : Nat} (h : k < l.length) : ((l.take (k + 1)).map fun p => p.f0 % 1073741789).Nodup ↔ ((l.take k).map fun p => p.f0 % 1073741789).Nodup ∧ ∀ j, j < k → ((l.getD k z38).f0 % 1073741789) ≠ (l.getD j z38).f0 % 1073741789 := by
  rw [take_snoc_getD l k h, List.map_append, List.nodup_append]
  constructor
  · rintro ⟨h1, _, h3⟩
    refine ⟨h1, fun j hj e => ?_⟩
    refine h3 ((l.getD j z38).f0 % 1073741789) ?_ ((l.getD k z38).f0 % 1073741789) (by simp) e.symm
    refine List.mem_map.2 ⟨l.getD j z38, ?_, rfl⟩
    rw [List.getD_eq_getElem?_getD, List.getElem?_eq_getElem (by omega)]
    exact List.mem_take_iff_getElem.2 ⟨j, by omega, rfl⟩
  · rintro ⟨h1, h2⟩
    refine ⟨h1, by simp, ?_⟩
    rintro a ha b hb rfl
    obtain ⟨p, hp, rfl⟩ := List.mem_map.1 ha
    obtain ⟨j, hj, rfl⟩ := List.mem_take_iff_getElem.1 hp
    simp only [List.map_cons, List.map_nil, List.mem_singleton] at hb
    refine h2 j (by omega) ?_
    rw [← hb, List.getD_eq_getElem?_getD, List.getElem?_eq_getElem (by omega)]; rfl

theorem diff_l1 (l : List S38) (hl : l.length ≤ 1000) (i : Nat) (hi : i < l.length) : ∀ (n j k : Nat), n + j = i → j ≤ i → n < k → (∀ u, u < j → ((l.getD i z38).f0 % 1073741789) ≠ (l.getD u z38).f0 % 1073741789) →
    fastiref09_Different.l1 k l i j = if ∀ u, u < i → ((l.getD i z38).f0 % 1073741789) ≠ (l.getD u z38).f0 % 1073741789 then fastiref09_Different.l0 (k - n - 1) l (i + 1) else some false
  | 0, j, k + 1, hn, hj, hk, h => by
    obtain rfl : j = i := by omega
    unfold fastiref09_Different.l1
    rw [if_neg (by omega), if_pos h, w64 (by omega) (by omega)]
    rfl
  | n + 1, j, k + 1, hn, hj, hk, h => by
    unfold fastiref09_Different.l1
    have hji : j < i := by omega
    rw [if_pos (by omega), if_pos (by omega), if_pos (by omega), rmod_eq, Option.bind_some, if_pos (by omega), if_pos (by omega), rmod_eq, Option.bind_some]
    have e1 : rd_T38 l (i : Int) = l.getD i z38 := by simp [rd_T38]
    have e2 : rd_T38 l (j : Int) = l.getD j z38 := by simp [rd_T38]
    rw [e1, e2]
    by_cases he : (l.getD i z38).f0 % 1073741789 = (l.getD j z38).f0 % 1073741789
    · rw [if_pos he, if_neg (fun hall => hall j hji he)]
    · rw [if_neg he, w64 (by omega) (by omega)]
      have ih := diff_l1 l hl i hi n (j + 1) k (by omega) (by omega) (by omega) (fun u hu => by
        by_cases e : u = j
        · subst e; exact he
        · exact h u (by omega))
      rw [show ((j : Int) + 1) = ((j + 1 : Nat) : Int) by omega, ih, show k + 1 - (n + 1) - 1 = k - n - 1 by omega]

theorem diff_l0 (l : List S38) (hl : l.length ≤ 1000) : ∀ (n i k : Nat), n + i = l.length → (n + 2) * (l.length + 3) ≤ k → ((l.take i).map fun p => p.f0 % 1073741789).Nodup → fastiref09_Different.l0 k l i = some (diff l)
  | 0, i, k + 1, hn, hk, h => by
    unfold fastiref09_Different.l0
    rw [if_neg (by omega)]
    have : l.take i = l := List.take_of_length_le (by omega)
    rw [this] at h
    rw [diff, decide_eq_true h]
  | n + 1, i, k + 1, hn, hk, h => by
    unfold fastiref09_Different.l0
    have hi : i < l.length := by omega
    have e : (n + 1 + 2) * (l.length + 3) = (n + 2) * (l.length + 3) + (l.length + 3) := by rw [show n + 1 + 2 = (n + 2) + 1 by omega, Nat.add_mul]; omega
    have e2 : l.length + 3 ≤ (n + 2) * (l.length + 3) := Nat.le_mul_of_pos_left _ (by omega)
    rw [if_pos (by omega)]
    have := diff_l1 l hl i hi i 0 k (by omega) (by omega) (by omega) (fun u hu => by omega)
    rw [show ((0 : Nat) : Int) = 0 from rfl] at this
    rw [this]
    by_cases hall : ∀ u, u < i → ((l.getD i z38).f0 % 1073741789) ≠ (l.getD u z38).f0 % 1073741789
    · rw [if_pos hall, show ((i : Int) + 1) = ((i + 1 : Nat) : Int) by omega]
      exact diff_l0 l hl n (i + 1) (k - i - 1) (by omega) (by omega) ((nodup_snoc hi).2 ⟨h, hall⟩)
    · rw [if_neg hall]
      have : ¬ (l.map fun p => p.f0 % 1073741789).Nodup := by
        intro hnd
        apply hall
        have h1 : ((l.take (i + 1)).map fun p => p.f0 % 1073741789).Nodup := by
          rw [List.map_take]; exact hnd.sublist (List.take_sublist _ _)
        exact ((nodup_snoc hi).1 h1).2
      rw [diff, decide_eq_false this]
  | n, i, 0, _, hk, _ => by
    exfalso
    have : 0 < (n + 2) * (l.length + 3) := Nat.mul_pos (by omega) (by omega)
    omega
theorem diff_eq (l : List S38) (hl : l.length ≤ 1000) (k : Nat) (hk : (l.length + 2) * (l.length + 3) ≤ k) : fastiref09_Different.f k l = some (diff l) :=
  diff_l0 l hl l.length 0 k (by omega) hk (by simp)
/-! ### ref.At -/
theorem E11 : Enters Try.prog 11 := enters Try.func11 (by kernel_rfl) rfl
theorem E13 : Enters Try.prog 13 := enters Try.func13 (by kernel_rfl) rfl
theorem E15 : Enters Try.prog 15 := enters Try.func15 (by kernel_rfl) rfl
theorem E17 : Enters Try.prog 17 := enters Try.func17 (by kernel_rfl) rfl
theorem E24 : Enters Try.prog 24 := enters Try.func24 (by kernel_rfl) rfl
theorem rmod_rets (a : Int) (w : World) : Rets Try.prog 13 #[.int .i64 a] w fun u w' => u = .int .i64 (a % 1073741789) ∧ Drawn0 w w' := rets_of (fastiref09_Mod.calls a _ w (rmod_eq a))
theorem rmul_rets (a b : Int) (w : World) : Rets Try.prog 17 #[.int .i64 a, .int .i64 b] w fun u w' => u = .int .i64 (a * b % 1073741789) ∧ Drawn0 w w' := rets_of (fastiref09_Mul.calls a b _ w (rmul_eq a b))
theorem radd_rets (a b : Int) (w : World) : Rets Try.prog 15 #[.int .i64 a, .int .i64 b] w fun u w' => u = .int .i64 ((a + b) % 1073741789) ∧ Drawn0 w w' := rets_of (fastiref09_Add.calls a b _ w (radd_eq a b))
theorem rinv_rets (b : Int) (W : World) : Rets Try.prog 11 #[.int .i64 b] W fun u w' => u = .tuple #[.int .i64 (inv b), .int .i64 (if b % 1073741789 = 0 then 90 else 0)] ∧ Drawn0 W w' :=
  rets_of (fastiref09_Inverse.calls 40 b _ _ W (by rw [rinv_eq (by omega)]; exact inv_f b))
theorem diff_rets (A0 : Option Addr) (c0 : Nat) (l0 : List S38) (w : World) (hl : l0.length ≤ 1000) (hr0 : Kd.C k38 w A0 l0.length l0) (hc0 : l0.length ≤ c0) : Rets Try.prog 24 #[.slice A0 l0.length c0] w fun u w' => u = .bool (diff l0) ∧ Drawn0 w w' :=
  rets_of (fastiref09_Different.calls _ A0 c0 l0 _ w hr0 hc0 (diff_eq l0 hl _ (Nat.le_refl _)))
theorem ref_loads {W : World} {A : Option Addr} {l : List S38} (h : Kd.C k38 W A l.length l) (k : Nat) (hk : k < l.length) :
    ∃ ad, A = some ad ∧ (∀ W', W'.heap = W.heap → Loads Try.prog 3 W' (ad.add (k * 2)) (.int .i64 (l.getD k z38).f0)) ∧ (∀ W', W'.heap = W.heap → Loads Try.prog 3 W' ((ad.add (k * 2)).add 1) (.int .i64 (l.getD k z38).f1)) := by
  obtain ⟨ad, e, h0, h1⟩ := at_T38 h (k : Int) (by omega) (by omega)
  have ek : rd_T38 l (k : Int) = l.getD k z38 := by simp [rd_T38]
  rw [ek, Int.toNat_natCast] at h0 h1
  have hc : ∀ W' : World, W'.heap = W.heap → ∀ a, W'.cell? a = W.cell? a := fun W' e a => by simp only [World.cell?, e]
  refine ⟨ad, e, fun W' hW => loads_one Try.underlying3 rfl ((hc W' hW _).trans h0), fun W' hW => loads_one Try.underlying3 rfl ((hc W' hW _).trans ?_)⟩
  exact h1
def rDst (i : Nat) : Nat := [40, 41, 42, 43, 44, 45, 46, 47, 48, 49, 50, 51, 52, 53, 39, 54, 55, 10, 11].getD i 0
def rVal (sl : Value) (i k : Nat) (ad : Addr) (xi xk a1 : Int) : Nat → Value
  | 0 => sl | 1 => .int .i64 i | 2 => .pointer (some (ad.add (i * 2))) | 3 => .pointer (some (ad.add (i * 2))) | 4 => .int .i64 xi | 5 => sl | 6 => .int .i64 k | 7 => .pointer (some (ad.add (k * 2))) | 8 => .pointer (some (ad.add (k * 2))) | 9 => .int .i64 xk
  | 10 => .int .i64 (xk % 1073741789) | 11 => .int .i64 (-(xk % 1073741789)) | 12 => .int .i64 ((xi - xk) % 1073741789)
  | 13 => .tuple #[.int .i64 (inv ((xi - xk) % 1073741789)), .int .i64 (if (xi - xk) % 1073741789 % 1073741789 = 0 then 90 else 0)]
  | 14 => .tuple #[.int .i64 (inv ((xi - xk) % 1073741789)), .int .i64 (if (xi - xk) % 1073741789 % 1073741789 = 0 then 90 else 0)]
  | 15 => .int .i64 (inv ((xi - xk) % 1073741789)) | 16 => .int .i64 (if (xi - xk) % 1073741789 % 1073741789 = 0 then 90 else 0) | 17 => .int .i64 (inv ((xi - xk) % 1073741789)) | _ => .int .i64 (if (xi - xk) % 1073741789 % 1073741789 = 0 then 90 else 0)

theorem fastiref09_At.calls (A0 : Option Addr) (c0 : Nat) (l0 : List (S38)) (a1 : Int) (r1 : Int) (r2 : Int) (w : World) (hr0 : Kd.C k38 w A0 l0.length l0) (hc0 : l0.length ≤ c0) (h : fastiref09_At.f l0 a1 = some (r1, r2)) :
    Calls Try.prog 20 #[.slice A0 l0.length c0, .int .i64 a1] w fun e w' => e = .returned (.tuple #[.int .i64 r1, .int .i64 r2]) ∧ Drawn0 w w' := by
  have hF := wide_wide
  obtain ⟨i3, hi3, hz3, hs3, _⟩ := info_parts info3
  obtain ⟨i38, hi38, hz38, hs38, _⟩ := info_parts info38
  refine calls_of (n := 73) Try.func20 rfl Try.ntmps20 (by simp) ?_
  (repeat (first | (with_reducible refine X_seq_k ?_; intro K hK) | with_reducible refine X_block ?_ | with_reducible refine X_scope ?_ | with_reducible refine nogo_n ?_ | with_reducible refine nogo_e ?_ | with_reducible refine nogo_r ?_ | with_reducible refine X_region ?_ | with_reducible refine X_skip ?_ | with_reducible refine X_label ?_ | with_reducible refine X_ret ?_ | with_reducible refine X_exit ?_ | with_reducible refine then_n ?_ | with_reducible refine then_e ?_ | with_reducible refine then_r ?_ | with_reducible refine inb_n ?_ | with_reducible refine inb_r ?_ | with_reducible refine inb_e rfl ?_ | with_reducible refine inb_x rfl ?_ | with_reducible refine XL_nil ?_ | with_reducible refine go_k (by assumption) ?_))
  (refine XL_plain hF _ _ ?_; simp only [plainRun, plain, bin, intBin, un, xv, updO, upd_apply, Option.bind_some, reduceIte, Nat.reduceLT, Nat.reduceEqDiff, reduceCtorEq, List.getElem?_toArray, List.getElem?_cons_zero, List.getElem?_cons_succ, Int.reduceEq, BEq.rfl, Bool.not_true, Bool.not_false])
  (repeat (first | (with_reducible refine X_seq_k ?_; intro K hK) | with_reducible refine X_block ?_ | with_reducible refine X_scope ?_ | with_reducible refine nogo_n ?_ | with_reducible refine nogo_e ?_ | with_reducible refine nogo_r ?_ | with_reducible refine X_region ?_ | with_reducible refine X_skip ?_ | with_reducible refine X_label ?_ | with_reducible refine X_ret ?_ | with_reducible refine X_exit ?_ | with_reducible refine then_n ?_ | with_reducible refine then_e ?_ | with_reducible refine then_r ?_ | with_reducible refine inb_n ?_ | with_reducible refine inb_r ?_ | with_reducible refine inb_e rfl ?_ | with_reducible refine inb_x rfl ?_ | with_reducible refine XL_nil ?_ | with_reducible refine go_k (by assumption) ?_))
  (refine XL_plain hF _ _ ?_; simp only [plainRun, plain, bin, intBin, un, xv, updO, upd_apply, Option.bind_some, reduceIte, Nat.reduceLT, Nat.reduceEqDiff, reduceCtorEq, List.getElem?_toArray, List.getElem?_cons_zero, List.getElem?_cons_succ, Int.reduceEq, BEq.rfl, Bool.not_true, Bool.not_false])
  refine XL_len hF Try.underlying30 (by simp [xv, upd, updO]; exact ⟨rfl, rfl, rfl⟩) ?_
  (refine XL_plain hF _ _ ?_; simp only [plainRun, plain, bin, intBin, un, xv, updO, upd_apply, Option.bind_some, reduceIte, Nat.reduceLT, Nat.reduceEqDiff, reduceCtorEq, List.getElem?_toArray, List.getElem?_cons_zero, List.getElem?_cons_succ, Int.reduceEq, BEq.rfl, Bool.not_true, Bool.not_false])
  (repeat (first | (with_reducible refine X_seq_k ?_; intro K hK) | with_reducible refine X_block ?_ | with_reducible refine X_scope ?_ | with_reducible refine nogo_n ?_ | with_reducible refine nogo_e ?_ | with_reducible refine nogo_r ?_ | with_reducible refine X_region ?_ | with_reducible refine X_skip ?_ | with_reducible refine X_label ?_ | with_reducible refine X_ret ?_ | with_reducible refine X_exit ?_ | with_reducible refine then_n ?_ | with_reducible refine then_e ?_ | with_reducible refine then_r ?_ | with_reducible refine inb_n ?_ | with_reducible refine inb_r ?_ | with_reducible refine inb_e rfl ?_ | with_reducible refine inb_x rfl ?_ | with_reducible refine XL_nil ?_ | with_reducible refine go_k (by assumption) ?_))
  unfold fastiref09_At.f at h
  by_cases h64 : 64 < l0.length
  · rw [if_pos h64] at h
    obtain ⟨rfl, rfl⟩ : 0 = r1 ∧ 2 = r2 := by simpa using h
    refine X_cond_true (by simp [xv, upd]; omega) ?_
    (repeat (first | (with_reducible refine X_seq_k ?_; intro K hK) | with_reducible refine X_block ?_ | with_reducible refine X_scope ?_ | with_reducible refine nogo_n ?_ | with_reducible refine nogo_e ?_ | with_reducible refine nogo_r ?_ | with_reducible refine X_region ?_ | with_reducible refine X_skip ?_ | with_reducible refine X_label ?_ | with_reducible refine X_ret ?_ | with_reducible refine X_exit ?_ | with_reducible refine then_n ?_ | with_reducible refine then_e ?_ | with_reducible refine then_r ?_ | with_reducible refine inb_n ?_ | with_reducible refine inb_r ?_ | with_reducible refine inb_e rfl ?_ | with_reducible refine inb_x rfl ?_ | with_reducible refine XL_nil ?_ | with_reducible refine go_k (by assumption) ?_))
    (refine XL_plain hF _ _ ?_; simp only [plainRun, plain, bin, intBin, un, xv, updO, upd_apply, Option.bind_some, reduceIte, Nat.reduceLT, Nat.reduceEqDiff, reduceCtorEq, List.getElem?_toArray, List.getElem?_cons_zero, List.getElem?_cons_succ, Int.reduceEq, BEq.rfl, Bool.not_true, Bool.not_false])
    (repeat (first | (with_reducible refine X_seq_k ?_; intro K hK) | with_reducible refine X_block ?_ | with_reducible refine X_scope ?_ | with_reducible refine nogo_n ?_ | with_reducible refine nogo_e ?_ | with_reducible refine nogo_r ?_ | with_reducible refine X_region ?_ | with_reducible refine X_skip ?_ | with_reducible refine X_label ?_ | with_reducible refine X_ret ?_ | with_reducible refine X_exit ?_ | with_reducible refine then_n ?_ | with_reducible refine then_e ?_ | with_reducible refine then_r ?_ | with_reducible refine inb_n ?_ | with_reducible refine inb_r ?_ | with_reducible refine inb_e rfl ?_ | with_reducible refine inb_x rfl ?_ | with_reducible refine XL_nil ?_ | with_reducible refine go_k (by assumption) ?_))
    exact body_ret (results2 rfl (by decide) (by decide)) ⟨by simp [upd], Drawn0.refl _⟩
  rw [if_neg h64] at h
  have hlen : l0.length ≤ 64 := by omega
  refine X_cond_false (by simp [xv, upd]; omega) ?_
  (repeat (first | (with_reducible refine X_seq_k ?_; intro K hK) | with_reducible refine X_block ?_ | with_reducible refine X_scope ?_ | with_reducible refine nogo_n ?_ | with_reducible refine nogo_e ?_ | with_reducible refine nogo_r ?_ | with_reducible refine X_region ?_ | with_reducible refine X_skip ?_ | with_reducible refine X_label ?_ | with_reducible refine X_ret ?_ | with_reducible refine X_exit ?_ | with_reducible refine then_n ?_ | with_reducible refine then_e ?_ | with_reducible refine then_r ?_ | with_reducible refine inb_n ?_ | with_reducible refine inb_r ?_ | with_reducible refine inb_e rfl ?_ | with_reducible refine inb_x rfl ?_ | with_reducible refine XL_nil ?_ | with_reducible refine go_k (by assumption) ?_))
  (refine XL_plain hF _ _ ?_; simp only [plainRun, plain, bin, intBin, un, xv, updO, upd_apply, Option.bind_some, reduceIte, Nat.reduceLT, Nat.reduceEqDiff, reduceCtorEq, List.getElem?_toArray, List.getElem?_cons_zero, List.getElem?_cons_succ, Int.reduceEq, BEq.rfl, Bool.not_true, Bool.not_false])
  refine XL_call hF rfl E24 (diff_rets A0 c0 l0 w (by omega) hr0 hc0) (by simp [xv, upd, updO]) ?_
  rintro v w1 ⟨rfl, hd1⟩
  (refine XL_plain hF _ _ ?_; simp only [plainRun, plain, bin, intBin, un, xv, updO, upd_apply, Option.bind_some, reduceIte, Nat.reduceLT, Nat.reduceEqDiff, reduceCtorEq, List.getElem?_toArray, List.getElem?_cons_zero, List.getElem?_cons_succ, Int.reduceEq, BEq.rfl, Bool.not_true, Bool.not_false])
  (repeat (first | (with_reducible refine X_seq_k ?_; intro K hK) | with_reducible refine X_block ?_ | with_reducible refine X_scope ?_ | with_reducible refine nogo_n ?_ | with_reducible refine nogo_e ?_ | with_reducible refine nogo_r ?_ | with_reducible refine X_region ?_ | with_reducible refine X_skip ?_ | with_reducible refine X_label ?_ | with_reducible refine X_ret ?_ | with_reducible refine X_exit ?_ | with_reducible refine then_n ?_ | with_reducible refine then_e ?_ | with_reducible refine then_r ?_ | with_reducible refine inb_n ?_ | with_reducible refine inb_r ?_ | with_reducible refine inb_e rfl ?_ | with_reducible refine inb_x rfl ?_ | with_reducible refine XL_nil ?_ | with_reducible refine go_k (by assumption) ?_))
  by_cases hdf : diff l0 = false
  · rw [if_neg (by simp [hdf])] at h
    obtain ⟨rfl, rfl⟩ : 0 = r1 ∧ 90 = r2 := by simpa using h
    refine X_cond_true (by simp [xv, upd, hdf]) ?_
    (repeat (first | (with_reducible refine X_seq_k ?_; intro K hK) | with_reducible refine X_block ?_ | with_reducible refine X_scope ?_ | with_reducible refine nogo_n ?_ | with_reducible refine nogo_e ?_ | with_reducible refine nogo_r ?_ | with_reducible refine X_region ?_ | with_reducible refine X_skip ?_ | with_reducible refine X_label ?_ | with_reducible refine X_ret ?_ | with_reducible refine X_exit ?_ | with_reducible refine then_n ?_ | with_reducible refine then_e ?_ | with_reducible refine then_r ?_ | with_reducible refine inb_n ?_ | with_reducible refine inb_r ?_ | with_reducible refine inb_e rfl ?_ | with_reducible refine inb_x rfl ?_ | with_reducible refine XL_nil ?_ | with_reducible refine go_k (by assumption) ?_))
    (refine XL_plain hF _ _ ?_; simp only [plainRun, plain, bin, intBin, un, xv, updO, upd_apply, Option.bind_some, reduceIte, Nat.reduceLT, Nat.reduceEqDiff, reduceCtorEq, List.getElem?_toArray, List.getElem?_cons_zero, List.getElem?_cons_succ, Int.reduceEq, BEq.rfl, Bool.not_true, Bool.not_false])
    (repeat (first | (with_reducible refine X_seq_k ?_; intro K hK) | with_reducible refine X_block ?_ | with_reducible refine X_scope ?_ | with_reducible refine nogo_n ?_ | with_reducible refine nogo_e ?_ | with_reducible refine nogo_r ?_ | with_reducible refine X_region ?_ | with_reducible refine X_skip ?_ | with_reducible refine X_label ?_ | with_reducible refine X_ret ?_ | with_reducible refine X_exit ?_ | with_reducible refine then_n ?_ | with_reducible refine then_e ?_ | with_reducible refine then_r ?_ | with_reducible refine inb_n ?_ | with_reducible refine inb_r ?_ | with_reducible refine inb_e rfl ?_ | with_reducible refine inb_x rfl ?_ | with_reducible refine XL_nil ?_ | with_reducible refine go_k (by assumption) ?_))
    exact body_ret (results2 rfl (by decide) (by decide)) ⟨by simp [upd], hd1⟩
  rw [Bool.not_eq_false] at hdf
  rw [if_pos hdf] at h
  obtain ⟨rfl, rfl⟩ : rSum a1 l0 l0.zipIdx = r1 ∧ 0 = r2 := by simpa using h
  refine X_cond_false (by simp [xv, upd, hdf]) ?_
  (repeat (first | (with_reducible refine X_seq_k ?_; intro K hK) | with_reducible refine X_block ?_ | with_reducible refine X_scope ?_ | with_reducible refine nogo_n ?_ | with_reducible refine nogo_e ?_ | with_reducible refine nogo_r ?_ | with_reducible refine X_region ?_ | with_reducible refine X_skip ?_ | with_reducible refine X_label ?_ | with_reducible refine X_ret ?_ | with_reducible refine X_exit ?_ | with_reducible refine then_n ?_ | with_reducible refine then_e ?_ | with_reducible refine then_r ?_ | with_reducible refine inb_n ?_ | with_reducible refine inb_r ?_ | with_reducible refine inb_e rfl ?_ | with_reducible refine inb_x rfl ?_ | with_reducible refine XL_nil ?_ | with_reducible refine go_k (by assumption) ?_))
  (refine XL_plain hF _ _ ?_; simp only [plainRun, plain, bin, intBin, un, xv, updO, upd_apply, Option.bind_some, reduceIte, Nat.reduceLT, Nat.reduceEqDiff, reduceCtorEq, List.getElem?_toArray, List.getElem?_cons_zero, List.getElem?_cons_succ, Int.reduceEq, BEq.rfl, Bool.not_true, Bool.not_false])
  (repeat (first | (with_reducible refine X_seq_k ?_; intro K hK) | with_reducible refine X_block ?_ | with_reducible refine X_scope ?_ | with_reducible refine nogo_n ?_ | with_reducible refine nogo_e ?_ | with_reducible refine nogo_r ?_ | with_reducible refine X_region ?_ | with_reducible refine X_skip ?_ | with_reducible refine X_label ?_ | with_reducible refine X_ret ?_ | with_reducible refine X_exit ?_ | with_reducible refine then_n ?_ | with_reducible refine then_e ?_ | with_reducible refine then_r ?_ | with_reducible refine inb_n ?_ | with_reducible refine inb_r ?_ | with_reducible refine inb_e rfl ?_ | with_reducible refine inb_x rfl ?_ | with_reducible refine XL_nil ?_ | with_reducible refine go_k (by assumption) ?_))
  (refine XL_plain hF _ _ ?_; simp only [plainRun, plain, bin, intBin, un, xv, updO, upd_apply, Option.bind_some, reduceIte, Nat.reduceLT, Nat.reduceEqDiff, reduceCtorEq, List.getElem?_toArray, List.getElem?_cons_zero, List.getElem?_cons_succ, Int.reduceEq, BEq.rfl, Bool.not_true, Bool.not_false])
  (repeat (first | (with_reducible refine X_seq_k ?_; intro K hK) | with_reducible refine X_block ?_ | with_reducible refine X_scope ?_ | with_reducible refine nogo_n ?_ | with_reducible refine nogo_e ?_ | with_reducible refine nogo_r ?_ | with_reducible refine X_region ?_ | with_reducible refine X_skip ?_ | with_reducible refine X_label ?_ | with_reducible refine X_ret ?_ | with_reducible refine X_exit ?_ | with_reducible refine then_n ?_ | with_reducible refine then_e ?_ | with_reducible refine then_r ?_ | with_reducible refine inb_n ?_ | with_reducible refine inb_r ?_ | with_reducible refine inb_e rfl ?_ | with_reducible refine inb_x rfl ?_ | with_reducible refine XL_nil ?_ | with_reducible refine go_k (by assumption) ?_))
  have hC1 : ∀ w', Drawn0 w w' → Kd.C k38 w' A0 l0.length l0 := fun w' hd => Kd.C_below hr0 hd.below
  refine X_loop (α := Nat)
    (fun i ρ ds w' => ρ 0 = .slice A0 l0.length c0 ∧ ρ 1 = .int .i64 a1 ∧ ρ 6 = .int .i64 (rSum a1 l0 (l0.take i).zipIdx) ∧ ρ 7 = .int .i64 i ∧ ds = [] ∧ i ≤ l0.length ∧ Drawn0 w w')
    (fun i => l0.length - i) 0 ⟨by simp [upd], by simp [upd], by simp [upd, rSum], by simp [upd], rfl, Nat.zero_le _, hd1⟩ ?_
  clear hd1 hK K
  rintro i ρ ds w1 ⟨r0, r1, r6, r7, rfl, hk, hd1⟩ K hK
  (repeat (first | (with_reducible refine X_seq_k ?_; intro K hK) | with_reducible refine X_block ?_ | with_reducible refine X_scope ?_ | with_reducible refine nogo_n ?_ | with_reducible refine nogo_e ?_ | with_reducible refine nogo_r ?_ | with_reducible refine X_region ?_ | with_reducible refine X_skip ?_ | with_reducible refine X_label ?_ | with_reducible refine X_ret ?_ | with_reducible refine X_exit ?_ | with_reducible refine then_n ?_ | with_reducible refine then_e ?_ | with_reducible refine then_r ?_ | with_reducible refine inb_n ?_ | with_reducible refine inb_r ?_ | with_reducible refine inb_e rfl ?_ | with_reducible refine inb_x rfl ?_ | with_reducible refine XL_nil ?_ | with_reducible refine go_k (by assumption) ?_))
  (refine XL_plain hF _ _ ?_; simp only [plainRun, plain, bin, intBin, un, xv, updO, upd_apply, Option.bind_some, reduceIte, Nat.reduceLT, Nat.reduceEqDiff, reduceCtorEq, List.getElem?_toArray, List.getElem?_cons_zero, List.getElem?_cons_succ, Int.reduceEq, BEq.rfl, Bool.not_true, Bool.not_false, r7, r0])
  refine XL_len hF Try.underlying30 (by simp [xv, upd, updO, r0]; exact ⟨rfl, rfl, rfl⟩) ?_
  (refine XL_plain hF _ _ ?_; simp only [plainRun, plain, bin, intBin, un, xv, updO, upd_apply, Option.bind_some, reduceIte, Nat.reduceLT, Nat.reduceEqDiff, reduceCtorEq, List.getElem?_toArray, List.getElem?_cons_zero, List.getElem?_cons_succ, Int.reduceEq, BEq.rfl, Bool.not_true, Bool.not_false, r7])
  (repeat (first | (with_reducible refine X_seq_k ?_; intro K hK) | with_reducible refine X_block ?_ | with_reducible refine X_scope ?_ | with_reducible refine nogo_n ?_ | with_reducible refine nogo_e ?_ | with_reducible refine nogo_r ?_ | with_reducible refine X_region ?_ | with_reducible refine X_skip ?_ | with_reducible refine X_label ?_ | with_reducible refine X_ret ?_ | with_reducible refine X_exit ?_ | with_reducible refine then_n ?_ | with_reducible refine then_e ?_ | with_reducible refine then_r ?_ | with_reducible refine inb_n ?_ | with_reducible refine inb_r ?_ | with_reducible refine inb_e rfl ?_ | with_reducible refine inb_x rfl ?_ | with_reducible refine XL_nil ?_ | with_reducible refine go_k (by assumption) ?_))
  by_cases hlt : i < l0.length
  · refine X_cond_true (by simp [xv, upd, hlt]) ?_
    (repeat (first | (with_reducible refine X_seq_k ?_; intro K hK) | with_reducible refine X_block ?_ | with_reducible refine X_scope ?_ | with_reducible refine nogo_n ?_ | with_reducible refine nogo_e ?_ | with_reducible refine nogo_r ?_ | with_reducible refine X_region ?_ | with_reducible refine X_skip ?_ | with_reducible refine X_label ?_ | with_reducible refine X_ret ?_ | with_reducible refine X_exit ?_ | with_reducible refine then_n ?_ | with_reducible refine then_e ?_ | with_reducible refine then_r ?_ | with_reducible refine inb_n ?_ | with_reducible refine inb_r ?_ | with_reducible refine inb_e rfl ?_ | with_reducible refine inb_x rfl ?_ | with_reducible refine XL_nil ?_ | with_reducible refine go_k (by assumption) ?_))
    (refine XL_plain hF _ _ ?_; simp only [plainRun, plain, bin, intBin, un, xv, updO, upd_apply, Option.bind_some, reduceIte, Nat.reduceLT, Nat.reduceEqDiff, reduceCtorEq, List.getElem?_toArray, List.getElem?_cons_zero, List.getElem?_cons_succ, Int.reduceEq, BEq.rfl, Bool.not_true, Bool.not_false, r0, r7])
    obtain ⟨ad, rfl, -, hl1⟩ := ref_loads (hC1 _ hd1) i hlt
    have hsn := rSum_snoc a1 l0 i hlt
    generalize hpi : l0.getD i z38 = p at hl1 hsn
    refine XL_index hF Try.underlying30 hi38 (a := ad) (l := l0.length) (c := c0) (k := .i64) (i := i) (by simp [xv, upd, r0]) (by simp [xv, upd, r7]) (by omega) (by omega) ?_
    refine XL_fieldAdd hF Try.underlying38 rfl hi3 (by rw [hs3]; decide) (a := ad.add (i * 2)) (by simp [xv, upd, updO, hs38]) ?_
    refine XL_load hF (a := (ad.add (i * 2)).add 1) (by simp [xv, upd, updO]) (hl1 _ rfl) ?_
    refine XL_call hF rfl E13 (rmod_rets p.f1 _) (by simp [xv, upd, updO]) ?_
    rintro v w2 ⟨rfl, hd2⟩
    (refine XL_plain hF _ _ ?_; simp only [plainRun, plain, bin, intBin, un, xv, updO, upd_apply, Option.bind_some, reduceIte, Nat.reduceLT, Nat.reduceEqDiff, reduceCtorEq, List.getElem?_toArray, List.getElem?_cons_zero, List.getElem?_cons_succ, Int.reduceEq, BEq.rfl, Bool.not_true, Bool.not_false])
    (repeat (first | (with_reducible refine X_seq_k ?_; intro K hK) | with_reducible refine X_block ?_ | with_reducible refine X_scope ?_ | with_reducible refine nogo_n ?_ | with_reducible refine nogo_e ?_ | with_reducible refine nogo_r ?_ | with_reducible refine X_region ?_ | with_reducible refine X_skip ?_ | with_reducible refine X_label ?_ | with_reducible refine X_ret ?_ | with_reducible refine X_exit ?_ | with_reducible refine then_n ?_ | with_reducible refine then_e ?_ | with_reducible refine then_r ?_ | with_reducible refine inb_n ?_ | with_reducible refine inb_r ?_ | with_reducible refine inb_e rfl ?_ | with_reducible refine inb_x rfl ?_ | with_reducible refine XL_nil ?_ | with_reducible refine go_k (by assumption) ?_))
    (refine XL_plain hF _ _ ?_; simp only [plainRun, plain, bin, intBin, un, xv, updO, upd_apply, Option.bind_some, reduceIte, Nat.reduceLT, Nat.reduceEqDiff, reduceCtorEq, List.getElem?_toArray, List.getElem?_cons_zero, List.getElem?_cons_succ, Int.reduceEq, BEq.rfl, Bool.not_true, Bool.not_false])
    (repeat (first | (with_reducible refine X_seq_k ?_; intro K hK) | with_reducible refine X_block ?_ | with_reducible refine X_scope ?_ | with_reducible refine nogo_n ?_ | with_reducible refine nogo_e ?_ | with_reducible refine nogo_r ?_ | with_reducible refine X_region ?_ | with_reducible refine X_skip ?_ | with_reducible refine X_label ?_ | with_reducible refine X_ret ?_ | with_reducible refine X_exit ?_ | with_reducible refine then_n ?_ | with_reducible refine then_e ?_ | with_reducible refine then_r ?_ | with_reducible refine inb_n ?_ | with_reducible refine inb_r ?_ | with_reducible refine inb_e rfl ?_ | with_reducible refine inb_x rfl ?_ | with_reducible refine XL_nil ?_ | with_reducible refine go_k (by assumption) ?_))
    have hdr : Drawn0 w w2 := drawn_trans hd1 hd2
    refine X_loop (α := Nat)
      (fun k ρ ds w' => ρ 0 = .slice (some ad) l0.length c0 ∧ ρ 1 = .int .i64 a1 ∧ ρ 6 = .int .i64 (rSum a1 l0 (l0.take i).zipIdx) ∧ ρ 7 = .int .i64 i ∧ ρ 8 = .int .i64 (rPart a1 p i (l0.take k)) ∧ ρ 9 = .int .i64 k ∧ ds = [] ∧ k ≤ l0.length ∧ Drawn0 w w')
      (fun k => l0.length - k) 0 ⟨by simp [upd, r0], by simp [upd, r1], by simp [upd, r6], by simp [upd, r7], by simp [upd, rPart], by simp [upd], rfl, Nat.zero_le _, hdr⟩ ?_
    clear hdr hd2 hd1 hl1 r0 r1 r6 r7 w2 w1
    rintro k ρ ds w1 ⟨r0, r1, r6, r7, r8, r9, rfl, hkl, hd1⟩ K2 hK2
    (repeat (first | (with_reducible refine X_seq_k ?_; intro K hK) | with_reducible refine X_block ?_ | with_reducible refine X_scope ?_ | with_reducible refine nogo_n ?_ | with_reducible refine nogo_e ?_ | with_reducible refine nogo_r ?_ | with_reducible refine X_region ?_ | with_reducible refine X_skip ?_ | with_reducible refine X_label ?_ | with_reducible refine X_ret ?_ | with_reducible refine X_exit ?_ | with_reducible refine then_n ?_ | with_reducible refine then_e ?_ | with_reducible refine then_r ?_ | with_reducible refine inb_n ?_ | with_reducible refine inb_r ?_ | with_reducible refine inb_e rfl ?_ | with_reducible refine inb_x rfl ?_ | with_reducible refine XL_nil ?_ | with_reducible refine go_k (by assumption) ?_))
    (refine XL_plain hF _ _ ?_; simp only [plainRun, plain, bin, intBin, un, xv, updO, upd_apply, Option.bind_some, reduceIte, Nat.reduceLT, Nat.reduceEqDiff, reduceCtorEq, List.getElem?_toArray, List.getElem?_cons_zero, List.getElem?_cons_succ, Int.reduceEq, BEq.rfl, Bool.not_true, Bool.not_false, r9, r0])
    refine XL_len hF Try.underlying30 (by simp [xv, upd, updO, r0]; exact ⟨rfl, rfl, rfl⟩) ?_
    (refine XL_plain hF _ _ ?_; simp only [plainRun, plain, bin, intBin, un, xv, updO, upd_apply, Option.bind_some, reduceIte, Nat.reduceLT, Nat.reduceEqDiff, reduceCtorEq, List.getElem?_toArray, List.getElem?_cons_zero, List.getElem?_cons_succ, Int.reduceEq, BEq.rfl, Bool.not_true, Bool.not_false, r9])
    (repeat (first | (with_reducible refine X_seq_k ?_; intro K hK) | with_reducible refine X_block ?_ | with_reducible refine X_scope ?_ | with_reducible refine nogo_n ?_ | with_reducible refine nogo_e ?_ | with_reducible refine nogo_r ?_ | with_reducible refine X_region ?_ | with_reducible refine X_skip ?_ | with_reducible refine X_label ?_ | with_reducible refine X_ret ?_ | with_reducible refine X_exit ?_ | with_reducible refine then_n ?_ | with_reducible refine then_e ?_ | with_reducible refine then_r ?_ | with_reducible refine inb_n ?_ | with_reducible refine inb_r ?_ | with_reducible refine inb_e rfl ?_ | with_reducible refine inb_x rfl ?_ | with_reducible refine XL_nil ?_ | with_reducible refine go_k (by assumption) ?_))
    by_cases hlk0 : k < l0.length
    · refine X_cond_true (by simp [xv, upd, hlk0]) ?_
      (repeat (first | (with_reducible refine X_seq_k ?_; intro K hK) | with_reducible refine X_block ?_ | with_reducible refine X_scope ?_ | with_reducible refine nogo_n ?_ | with_reducible refine nogo_e ?_ | with_reducible refine nogo_r ?_ | with_reducible refine X_region ?_ | with_reducible refine X_skip ?_ | with_reducible refine X_label ?_ | with_reducible refine X_ret ?_ | with_reducible refine X_exit ?_ | with_reducible refine then_n ?_ | with_reducible refine then_e ?_ | with_reducible refine then_r ?_ | with_reducible refine inb_n ?_ | with_reducible refine inb_r ?_ | with_reducible refine inb_e rfl ?_ | with_reducible refine inb_x rfl ?_ | with_reducible refine XL_nil ?_ | with_reducible refine go_k (by assumption) ?_))
      (refine XL_plain hF _ _ ?_; simp only [plainRun, plain, bin, intBin, un, xv, updO, upd_apply, Option.bind_some, reduceIte, Nat.reduceLT, Nat.reduceEqDiff, reduceCtorEq, List.getElem?_toArray, List.getElem?_cons_zero, List.getElem?_cons_succ, Int.reduceEq, BEq.rfl, Bool.not_true, Bool.not_false, r7, r9])
      (repeat (first | (with_reducible refine X_seq_k ?_; intro K hK) | with_reducible refine X_block ?_ | with_reducible refine X_scope ?_ | with_reducible refine nogo_n ?_ | with_reducible refine nogo_e ?_ | with_reducible refine nogo_r ?_ | with_reducible refine X_region ?_ | with_reducible refine X_skip ?_ | with_reducible refine X_label ?_ | with_reducible refine X_ret ?_ | with_reducible refine X_exit ?_ | with_reducible refine then_n ?_ | with_reducible refine then_e ?_ | with_reducible refine then_r ?_ | with_reducible refine inb_n ?_ | with_reducible refine inb_r ?_ | with_reducible refine inb_e rfl ?_ | with_reducible refine inb_x rfl ?_ | with_reducible refine XL_nil ?_ | with_reducible refine go_k (by assumption) ?_))
      have hps := rPart_snoc a1 p i l0 k hlk0
      obtain ⟨ad', e, hlx, -⟩ := ref_loads (hC1 _ hd1) i hlt
      cases e
      obtain ⟨ad', e, hlk, -⟩ := ref_loads (hC1 _ hd1) k hlk0
      cases e
      rw [hpi] at hlx
      generalize l0.getD k z38 = q at hlk hps
      by_cases hki : k = i
      · subst hki
        refine X_cond_false (by simp [xv, upd]) ?_
        (repeat (first | (with_reducible refine X_seq_k ?_; intro K hK) | with_reducible refine X_block ?_ | with_reducible refine X_scope ?_ | with_reducible refine nogo_n ?_ | with_reducible refine nogo_e ?_ | with_reducible refine nogo_r ?_ | with_reducible refine X_region ?_ | with_reducible refine X_skip ?_ | with_reducible refine X_label ?_ | with_reducible refine X_ret ?_ | with_reducible refine X_exit ?_ | with_reducible refine then_n ?_ | with_reducible refine then_e ?_ | with_reducible refine then_r ?_ | with_reducible refine inb_n ?_ | with_reducible refine inb_r ?_ | with_reducible refine inb_e rfl ?_ | with_reducible refine inb_x rfl ?_ | with_reducible refine XL_nil ?_ | with_reducible refine go_k (by assumption) ?_))
        (refine XL_plain hF _ _ ?_; simp only [plainRun, plain, bin, intBin, un, xv, updO, upd_apply, Option.bind_some, reduceIte, Nat.reduceLT, Nat.reduceEqDiff, reduceCtorEq, List.getElem?_toArray, List.getElem?_cons_zero, List.getElem?_cons_succ, Int.reduceEq, BEq.rfl, Bool.not_true, Bool.not_false, r9, wrap64_in (x := (k : Int) + 1) (by omega) (by omega)])
        (repeat (first | (with_reducible refine X_seq_k ?_; intro K hK) | with_reducible refine X_block ?_ | with_reducible refine X_scope ?_ | with_reducible refine nogo_n ?_ | with_reducible refine nogo_e ?_ | with_reducible refine nogo_r ?_ | with_reducible refine X_region ?_ | with_reducible refine X_skip ?_ | with_reducible refine X_label ?_ | with_reducible refine X_ret ?_ | with_reducible refine X_exit ?_ | with_reducible refine then_n ?_ | with_reducible refine then_e ?_ | with_reducible refine then_r ?_ | with_reducible refine inb_n ?_ | with_reducible refine inb_r ?_ | with_reducible refine inb_e rfl ?_ | with_reducible refine inb_x rfl ?_ | with_reducible refine XL_nil ?_ | with_reducible refine go_k (by assumption) ?_))
        rw [rStep, if_pos rfl] at hps
        exact ⟨k + 1, ⟨by simp [upd, r0], by simp [upd, r1], by simp [upd, r6], by simp [upd, r7], by simp [upd, r8, hps], by simp [upd], rfl, hlk0, hd1⟩, by omega⟩
      · rw [rStep, if_neg hki] at hps
        refine X_cond_true (by simp [xv, upd]; omega) ?_
        (repeat (first | (with_reducible refine X_seq_k ?_; intro K hK) | with_reducible refine X_block ?_ | with_reducible refine X_scope ?_ | with_reducible refine nogo_n ?_ | with_reducible refine nogo_e ?_ | with_reducible refine nogo_r ?_ | with_reducible refine X_region ?_ | with_reducible refine X_skip ?_ | with_reducible refine X_label ?_ | with_reducible refine X_ret ?_ | with_reducible refine X_exit ?_ | with_reducible refine then_n ?_ | with_reducible refine then_e ?_ | with_reducible refine then_r ?_ | with_reducible refine inb_n ?_ | with_reducible refine inb_r ?_ | with_reducible refine inb_e rfl ?_ | with_reducible refine inb_x rfl ?_ | with_reducible refine XL_nil ?_ | with_reducible refine go_k (by assumption) ?_))
        obtain ⟨xi, yi⟩ := p
        obtain ⟨xk, yk⟩ := q
        simp only at hlx hlk hps
        have hqx := mod_rng xk
        have hneg : IntKind.i64.wrap (-(xk % 1073741789)) = -(xk % 1073741789) := wrap64_in (by omega) (by omega)
        have hinj : ∀ i, i < 19 → ∀ j, j < 19 → rDst i = rDst j → i = j := by decide
        generalize hρ0 : upd _ 38 _ = ρ0
        have hr0' : ρ0 0 = .slice (some ad) l0.length c0 := by rw [← hρ0]; simp [upd, r0]
        have hr1' : ρ0 1 = .int .i64 a1 := by rw [← hρ0]; simp [upd, r1]
        have hr6' : ρ0 6 = .int .i64 (rSum a1 l0 (l0.take i).zipIdx) := by rw [← hρ0]; simp [upd, r6]
        have hr7' : ρ0 7 = .int .i64 i := by rw [← hρ0]; simp [upd, r7]
        have hr8' : ρ0 8 = .int .i64 (rPart a1 ⟨xi, yi⟩ i (l0.take k)) := by rw [← hρ0]; simp [upd, r8]
        have hr9' : ρ0 9 = .int .i64 k := by rw [← hρ0]; simp [upd, r9]
        clear hρ0 r0 r1 r6 r7 r8 r9
        refine X_region_closed hF (by kernel_rfl) (by decide +kernel) (PR ρ0 [] w1 19 rDst (rVal (.slice (some ad) l0.length c0) i k ad xi xk a1)) (PR.start _ _ _ _ _ ⟨1, rfl⟩) ?_ ?_
        · intro i' o hi' ho b ρ' ds' w' hI hb hd hcl K hK
          have hk0 : ρ' 0 = .slice (some ad) l0.length c0 := (hI.keep 0 (by decide)).trans hr0'
          have hk7 : ρ' 7 = .int .i64 i := (hI.keep 7 (by decide)).trans hr7'
          have hk9 : ρ' 9 = .int .i64 k := (hI.keep 9 (by decide)).trans hr9'
          match i', hi' with
          | 0, _ =>
            simp only [List.getElem?_toArray, List.getElem?_cons_succ, List.getElem?_cons_zero, Option.some.injEq, Nat.zero_add] at ho
            subst ho
            (refine XL_plain hF _ _ ?_; simp only [plainRun, plain, bin, intBin, un, xv, updO, upd_apply, Option.bind_some, reduceIte, Nat.reduceLT, Nat.reduceEqDiff, reduceCtorEq, List.getElem?_toArray, List.getElem?_cons_zero, List.getElem?_cons_succ, Int.reduceEq, BEq.rfl, Bool.not_true, Bool.not_false, hk0])
            (repeat (first | (with_reducible refine X_seq_k ?_; intro K hK) | with_reducible refine X_block ?_ | with_reducible refine X_scope ?_ | with_reducible refine nogo_n ?_ | with_reducible refine nogo_e ?_ | with_reducible refine nogo_r ?_ | with_reducible refine X_region ?_ | with_reducible refine X_skip ?_ | with_reducible refine X_label ?_ | with_reducible refine X_ret ?_ | with_reducible refine X_exit ?_ | with_reducible refine then_n ?_ | with_reducible refine then_e ?_ | with_reducible refine then_r ?_ | with_reducible refine inb_n ?_ | with_reducible refine inb_r ?_ | with_reducible refine inb_e rfl ?_ | with_reducible refine inb_x rfl ?_ | with_reducible refine XL_nil ?_ | with_reducible refine go_k (by assumption) ?_))
            exact hI.step hinj (i := 0) (by omega) (Drew.refl _)
          | 1, _ =>
            simp only [List.getElem?_toArray, List.getElem?_cons_succ, List.getElem?_cons_zero, Option.some.injEq, Nat.zero_add] at ho
            subst ho
            (refine XL_plain hF _ _ ?_; simp only [plainRun, plain, bin, intBin, un, xv, updO, upd_apply, Option.bind_some, reduceIte, Nat.reduceLT, Nat.reduceEqDiff, reduceCtorEq, List.getElem?_toArray, List.getElem?_cons_zero, List.getElem?_cons_succ, Int.reduceEq, BEq.rfl, Bool.not_true, Bool.not_false, hk7])
            (repeat (first | (with_reducible refine X_seq_k ?_; intro K hK) | with_reducible refine X_block ?_ | with_reducible refine X_scope ?_ | with_reducible refine nogo_n ?_ | with_reducible refine nogo_e ?_ | with_reducible refine nogo_r ?_ | with_reducible refine X_region ?_ | with_reducible refine X_skip ?_ | with_reducible refine X_label ?_ | with_reducible refine X_ret ?_ | with_reducible refine X_exit ?_ | with_reducible refine then_n ?_ | with_reducible refine then_e ?_ | with_reducible refine then_r ?_ | with_reducible refine inb_n ?_ | with_reducible refine inb_r ?_ | with_reducible refine inb_e rfl ?_ | with_reducible refine inb_x rfl ?_ | with_reducible refine XL_nil ?_ | with_reducible refine go_k (by assumption) ?_))
            exact hI.step hinj (i := 1) (by omega) (Drew.refl _)
          | 2, _ =>
            simp only [List.getElem?_toArray, List.getElem?_cons_succ, List.getElem?_cons_zero, Option.some.injEq, Nat.zero_add] at ho
            subst ho
            have hp0 : ρ' 40 = rVal (.slice (some ad) l0.length c0) i k ad xi xk a1 0 := hI.val 0 (by omega) (hd 0 (by decide +kernel))
            simp only [rVal] at hp0
            have hp1 : ρ' 41 = rVal (.slice (some ad) l0.length c0) i k ad xi xk a1 1 := hI.val 1 (by omega) (hd 1 (by decide +kernel))
            simp only [rVal] at hp1
            refine XL_index hF Try.underlying30 hi38 (a := ad) (l := l0.length) (c := c0) (k := .i64) (i := i) (by simp [xv, hp0]) (by simp [xv, hp1]) (by omega) (by omega) ?_
            rw [hs38, Int.toNat_natCast]
            (repeat (first | (with_reducible refine X_seq_k ?_; intro K hK) | with_reducible refine X_block ?_ | with_reducible refine X_scope ?_ | with_reducible refine nogo_n ?_ | with_reducible refine nogo_e ?_ | with_reducible refine nogo_r ?_ | with_reducible refine X_region ?_ | with_reducible refine X_skip ?_ | with_reducible refine X_label ?_ | with_reducible refine X_ret ?_ | with_reducible refine X_exit ?_ | with_reducible refine then_n ?_ | with_reducible refine then_e ?_ | with_reducible refine then_r ?_ | with_reducible refine inb_n ?_ | with_reducible refine inb_r ?_ | with_reducible refine inb_e rfl ?_ | with_reducible refine inb_x rfl ?_ | with_reducible refine XL_nil ?_ | with_reducible refine go_k (by assumption) ?_))
            exact hI.step hinj (i := 2) (by omega) (Drew.refl _)
          | 3, _ =>
            simp only [List.getElem?_toArray, List.getElem?_cons_succ, List.getElem?_cons_zero, Option.some.injEq, Nat.zero_add] at ho
            subst ho
            have hp2 : ρ' 42 = rVal (.slice (some ad) l0.length c0) i k ad xi xk a1 2 := hI.val 2 (by omega) (hd 2 (by decide +kernel))
            simp only [rVal] at hp2
            refine XL_fieldAdd hF Try.underlying38 rfl hi3 (by rw [hs3]; decide) (by simp [xv, hp2]; rfl) ?_
            (repeat (first | (with_reducible refine X_seq_k ?_; intro K hK) | with_reducible refine X_block ?_ | with_reducible refine X_scope ?_ | with_reducible refine nogo_n ?_ | with_reducible refine nogo_e ?_ | with_reducible refine nogo_r ?_ | with_reducible refine X_region ?_ | with_reducible refine X_skip ?_ | with_reducible refine X_label ?_ | with_reducible refine X_ret ?_ | with_reducible refine X_exit ?_ | with_reducible refine then_n ?_ | with_reducible refine then_e ?_ | with_reducible refine then_r ?_ | with_reducible refine inb_n ?_ | with_reducible refine inb_r ?_ | with_reducible refine inb_e rfl ?_ | with_reducible refine inb_x rfl ?_ | with_reducible refine XL_nil ?_ | with_reducible refine go_k (by assumption) ?_))
            exact hI.step hinj (i := 3) (by omega) (Drew.refl _)
          | 4, _ =>
            simp only [List.getElem?_toArray, List.getElem?_cons_succ, List.getElem?_cons_zero, Option.some.injEq, Nat.zero_add] at ho
            subst ho
            have hp3 : ρ' 43 = rVal (.slice (some ad) l0.length c0) i k ad xi xk a1 3 := hI.val 3 (by omega) (hd 3 (by decide +kernel))
            simp only [rVal] at hp3
            refine XL_load hF (by simp [xv, hp3]) (hlx _ (hI.drawn.heap)) ?_
            (repeat (first | (with_reducible refine X_seq_k ?_; intro K hK) | with_reducible refine X_block ?_ | with_reducible refine X_scope ?_ | with_reducible refine nogo_n ?_ | with_reducible refine nogo_e ?_ | with_reducible refine nogo_r ?_ | with_reducible refine X_region ?_ | with_reducible refine X_skip ?_ | with_reducible refine X_label ?_ | with_reducible refine X_ret ?_ | with_reducible refine X_exit ?_ | with_reducible refine then_n ?_ | with_reducible refine then_e ?_ | with_reducible refine then_r ?_ | with_reducible refine inb_n ?_ | with_reducible refine inb_r ?_ | with_reducible refine inb_e rfl ?_ | with_reducible refine inb_x rfl ?_ | with_reducible refine XL_nil ?_ | with_reducible refine go_k (by assumption) ?_))
            exact hI.step hinj (i := 4) (by omega) (Drew.refl _)
          | 5, _ =>
            simp only [List.getElem?_toArray, List.getElem?_cons_succ, List.getElem?_cons_zero, Option.some.injEq, Nat.zero_add] at ho
            subst ho
            (refine XL_plain hF _ _ ?_; simp only [plainRun, plain, bin, intBin, un, xv, updO, upd_apply, Option.bind_some, reduceIte, Nat.reduceLT, Nat.reduceEqDiff, reduceCtorEq, List.getElem?_toArray, List.getElem?_cons_zero, List.getElem?_cons_succ, Int.reduceEq, BEq.rfl, Bool.not_true, Bool.not_false, hk0])
            (repeat (first | (with_reducible refine X_seq_k ?_; intro K hK) | with_reducible refine X_block ?_ | with_reducible refine X_scope ?_ | with_reducible refine nogo_n ?_ | with_reducible refine nogo_e ?_ | with_reducible refine nogo_r ?_ | with_reducible refine X_region ?_ | with_reducible refine X_skip ?_ | with_reducible refine X_label ?_ | with_reducible refine X_ret ?_ | with_reducible refine X_exit ?_ | with_reducible refine then_n ?_ | with_reducible refine then_e ?_ | with_reducible refine then_r ?_ | with_reducible refine inb_n ?_ | with_reducible refine inb_r ?_ | with_reducible refine inb_e rfl ?_ | with_reducible refine inb_x rfl ?_ | with_reducible refine XL_nil ?_ | with_reducible refine go_k (by assumption) ?_))
            exact hI.step hinj (i := 5) (by omega) (Drew.refl _)
          | 6, _ =>
            simp only [List.getElem?_toArray, List.getElem?_cons_succ, List.getElem?_cons_zero, Option.some.injEq, Nat.zero_add] at ho
            subst ho
            (refine XL_plain hF _ _ ?_; simp only [plainRun, plain, bin, intBin, un, xv, updO, upd_apply, Option.bind_some, reduceIte, Nat.reduceLT, Nat.reduceEqDiff, reduceCtorEq, List.getElem?_toArray, List.getElem?_cons_zero, List.getElem?_cons_succ, Int.reduceEq, BEq.rfl, Bool.not_true, Bool.not_false, hk9])
            (repeat (first | (with_reducible refine X_seq_k ?_; intro K hK) | with_reducible refine X_block ?_ | with_reducible refine X_scope ?_ | with_reducible refine nogo_n ?_ | with_reducible refine nogo_e ?_ | with_reducible refine nogo_r ?_ | with_reducible refine X_region ?_ | with_reducible refine X_skip ?_ | with_reducible refine X_label ?_ | with_reducible refine X_ret ?_ | with_reducible refine X_exit ?_ | with_reducible refine then_n ?_ | with_reducible refine then_e ?_ | with_reducible refine then_r ?_ | with_reducible refine inb_n ?_ | with_reducible refine inb_r ?_ | with_reducible refine inb_e rfl ?_ | with_reducible refine inb_x rfl ?_ | with_reducible refine XL_nil ?_ | with_reducible refine go_k (by assumption) ?_))
            exact hI.step hinj (i := 6) (by omega) (Drew.refl _)
          | 7, _ =>
            simp only [List.getElem?_toArray, List.getElem?_cons_succ, List.getElem?_cons_zero, Option.some.injEq, Nat.zero_add] at ho
            subst ho
            have hp5 : ρ' 45 = rVal (.slice (some ad) l0.length c0) i k ad xi xk a1 5 := hI.val 5 (by omega) (hd 5 (by decide +kernel))
            simp only [rVal] at hp5
            have hp6 : ρ' 46 = rVal (.slice (some ad) l0.length c0) i k ad xi xk a1 6 := hI.val 6 (by omega) (hd 6 (by decide +kernel))
            simp only [rVal] at hp6
            refine XL_index hF Try.underlying30 hi38 (a := ad) (l := l0.length) (c := c0) (k := .i64) (i := k) (by simp [xv, hp5]) (by simp [xv, hp6]) (by omega) (by omega) ?_
            rw [hs38, Int.toNat_natCast]
            (repeat (first | (with_reducible refine X_seq_k ?_; intro K hK) | with_reducible refine X_block ?_ | with_reducible refine X_scope ?_ | with_reducible refine nogo_n ?_ | with_reducible refine nogo_e ?_ | with_reducible refine nogo_r ?_ | with_reducible refine X_region ?_ | with_reducible refine X_skip ?_ | with_reducible refine X_label ?_ | with_reducible refine X_ret ?_ | with_reducible refine X_exit ?_ | with_reducible refine then_n ?_ | with_reducible refine then_e ?_ | with_reducible refine then_r ?_ | with_reducible refine inb_n ?_ | with_reducible refine inb_r ?_ | with_reducible refine inb_e rfl ?_ | with_reducible refine inb_x rfl ?_ | with_reducible refine XL_nil ?_ | with_reducible refine go_k (by assumption) ?_))
            exact hI.step hinj (i := 7) (by omega) (Drew.refl _)
          | 8, _ =>
            simp only [List.getElem?_toArray, List.getElem?_cons_succ, List.getElem?_cons_zero, Option.some.injEq, Nat.zero_add] at ho
            subst ho
            have hp7 : ρ' 47 = rVal (.slice (some ad) l0.length c0) i k ad xi xk a1 7 := hI.val 7 (by omega) (hd 7 (by decide +kernel))
            simp only [rVal] at hp7
            refine XL_fieldAdd hF Try.underlying38 rfl hi3 (by rw [hs3]; decide) (by simp [xv, hp7]; rfl) ?_
            (repeat (first | (with_reducible refine X_seq_k ?_; intro K hK) | with_reducible refine X_block ?_ | with_reducible refine X_scope ?_ | with_reducible refine nogo_n ?_ | with_reducible refine nogo_e ?_ | with_reducible refine nogo_r ?_ | with_reducible refine X_region ?_ | with_reducible refine X_skip ?_ | with_reducible refine X_label ?_ | with_reducible refine X_ret ?_ | with_reducible refine X_exit ?_ | with_reducible refine then_n ?_ | with_reducible refine then_e ?_ | with_reducible refine then_r ?_ | with_reducible refine inb_n ?_ | with_reducible refine inb_r ?_ | with_reducible refine inb_e rfl ?_ | with_reducible refine inb_x rfl ?_ | with_reducible refine XL_nil ?_ | with_reducible refine go_k (by assumption) ?_))
            exact hI.step hinj (i := 8) (by omega) (Drew.refl _)
          | 9, _ =>
            simp only [List.getElem?_toArray, List.getElem?_cons_succ, List.getElem?_cons_zero, Option.some.injEq, Nat.zero_add] at ho
            subst ho
            have hp8 : ρ' 48 = rVal (.slice (some ad) l0.length c0) i k ad xi xk a1 8 := hI.val 8 (by omega) (hd 8 (by decide +kernel))
            simp only [rVal] at hp8
            refine XL_load hF (by simp [xv, hp8]) (hlk _ (hI.drawn.heap)) ?_
            (repeat (first | (with_reducible refine X_seq_k ?_; intro K hK) | with_reducible refine X_block ?_ | with_reducible refine X_scope ?_ | with_reducible refine nogo_n ?_ | with_reducible refine nogo_e ?_ | with_reducible refine nogo_r ?_ | with_reducible refine X_region ?_ | with_reducible refine X_skip ?_ | with_reducible refine X_label ?_ | with_reducible refine X_ret ?_ | with_reducible refine X_exit ?_ | with_reducible refine then_n ?_ | with_reducible refine then_e ?_ | with_reducible refine then_r ?_ | with_reducible refine inb_n ?_ | with_reducible refine inb_r ?_ | with_reducible refine inb_e rfl ?_ | with_reducible refine inb_x rfl ?_ | with_reducible refine XL_nil ?_ | with_reducible refine go_k (by assumption) ?_))
            exact hI.step hinj (i := 9) (by omega) (Drew.refl _)
          | 10, _ =>
            simp only [List.getElem?_toArray, List.getElem?_cons_succ, List.getElem?_cons_zero, Option.some.injEq, Nat.zero_add] at ho
            subst ho
            have hp9 : ρ' 49 = rVal (.slice (some ad) l0.length c0) i k ad xi xk a1 9 := hI.val 9 (by omega) (hd 9 (by decide +kernel))
            simp only [rVal] at hp9
            refine XL_call hF rfl E13 (rmod_rets xk _) (by simp [xv, hp9]) ?_
            rintro v w1 ⟨rfl, hd1⟩
            (repeat (first | (with_reducible refine X_seq_k ?_; intro K hK) | with_reducible refine X_block ?_ | with_reducible refine X_scope ?_ | with_reducible refine nogo_n ?_ | with_reducible refine nogo_e ?_ | with_reducible refine nogo_r ?_ | with_reducible refine X_region ?_ | with_reducible refine X_skip ?_ | with_reducible refine X_label ?_ | with_reducible refine X_ret ?_ | with_reducible refine X_exit ?_ | with_reducible refine then_n ?_ | with_reducible refine then_e ?_ | with_reducible refine then_r ?_ | with_reducible refine inb_n ?_ | with_reducible refine inb_r ?_ | with_reducible refine inb_e rfl ?_ | with_reducible refine inb_x rfl ?_ | with_reducible refine XL_nil ?_ | with_reducible refine go_k (by assumption) ?_))
            exact hI.step hinj (i := 10) (by omega) hd1.out
          | 11, _ =>
            simp only [List.getElem?_toArray, List.getElem?_cons_succ, List.getElem?_cons_zero, Option.some.injEq, Nat.zero_add] at ho
            subst ho
            have hp10 : ρ' 50 = rVal (.slice (some ad) l0.length c0) i k ad xi xk a1 10 := hI.val 10 (by omega) (hd 10 (by decide +kernel))
            simp only [rVal] at hp10
            (refine XL_plain hF _ _ ?_; simp only [plainRun, plain, bin, intBin, un, xv, updO, upd_apply, Option.bind_some, reduceIte, Nat.reduceLT, Nat.reduceEqDiff, reduceCtorEq, List.getElem?_toArray, List.getElem?_cons_zero, List.getElem?_cons_succ, Int.reduceEq, BEq.rfl, Bool.not_true, Bool.not_false, hp10, hneg, Int.zero_sub])
            (repeat (first | (with_reducible refine X_seq_k ?_; intro K hK) | with_reducible refine X_block ?_ | with_reducible refine X_scope ?_ | with_reducible refine nogo_n ?_ | with_reducible refine nogo_e ?_ | with_reducible refine nogo_r ?_ | with_reducible refine X_region ?_ | with_reducible refine X_skip ?_ | with_reducible refine X_label ?_ | with_reducible refine X_ret ?_ | with_reducible refine X_exit ?_ | with_reducible refine then_n ?_ | with_reducible refine then_e ?_ | with_reducible refine then_r ?_ | with_reducible refine inb_n ?_ | with_reducible refine inb_r ?_ | with_reducible refine inb_e rfl ?_ | with_reducible refine inb_x rfl ?_ | with_reducible refine XL_nil ?_ | with_reducible refine go_k (by assumption) ?_))
            exact hI.step hinj (i := 11) (by omega) (Drew.refl _)
          | 12, _ =>
            simp only [List.getElem?_toArray, List.getElem?_cons_succ, List.getElem?_cons_zero, Option.some.injEq, Nat.zero_add] at ho
            subst ho
            have hp4 : ρ' 44 = rVal (.slice (some ad) l0.length c0) i k ad xi xk a1 4 := hI.val 4 (by omega) (hd 4 (by decide +kernel))
            simp only [rVal] at hp4
            have hp11 : ρ' 51 = rVal (.slice (some ad) l0.length c0) i k ad xi xk a1 11 := hI.val 11 (by omega) (hd 11 (by decide +kernel))
            simp only [rVal] at hp11
            refine XL_call hF rfl E15 (radd_rets xi (-(xk % 1073741789)) _) (by simp [xv, hp4, hp11]) ?_
            rintro v w1 ⟨rfl, hd1⟩
            rw [hsub_at]
            (repeat (first | (with_reducible refine X_seq_k ?_; intro K hK) | with_reducible refine X_block ?_ | with_reducible refine X_scope ?_ | with_reducible refine nogo_n ?_ | with_reducible refine nogo_e ?_ | with_reducible refine nogo_r ?_ | with_reducible refine X_region ?_ | with_reducible refine X_skip ?_ | with_reducible refine X_label ?_ | with_reducible refine X_ret ?_ | with_reducible refine X_exit ?_ | with_reducible refine then_n ?_ | with_reducible refine then_e ?_ | with_reducible refine then_r ?_ | with_reducible refine inb_n ?_ | with_reducible refine inb_r ?_ | with_reducible refine inb_e rfl ?_ | with_reducible refine inb_x rfl ?_ | with_reducible refine XL_nil ?_ | with_reducible refine go_k (by assumption) ?_))
            exact hI.step hinj (i := 12) (by omega) hd1.out
          | 13, _ =>
            simp only [List.getElem?_toArray, List.getElem?_cons_succ, List.getElem?_cons_zero, Option.some.injEq, Nat.zero_add] at ho
            subst ho
            have hp12 : ρ' 52 = rVal (.slice (some ad) l0.length c0) i k ad xi xk a1 12 := hI.val 12 (by omega) (hd 12 (by decide +kernel))
            simp only [rVal] at hp12
            refine XL_call hF rfl E11 (rinv_rets ((xi - xk) % 1073741789) _) (by simp [xv, hp12]) ?_
            rintro v w1 ⟨rfl, hd1⟩
            (repeat (first | (with_reducible refine X_seq_k ?_; intro K hK) | with_reducible refine X_block ?_ | with_reducible refine X_scope ?_ | with_reducible refine nogo_n ?_ | with_reducible refine nogo_e ?_ | with_reducible refine nogo_r ?_ | with_reducible refine X_region ?_ | with_reducible refine X_skip ?_ | with_reducible refine X_label ?_ | with_reducible refine X_ret ?_ | with_reducible refine X_exit ?_ | with_reducible refine then_n ?_ | with_reducible refine then_e ?_ | with_reducible refine then_r ?_ | with_reducible refine inb_n ?_ | with_reducible refine inb_r ?_ | with_reducible refine inb_e rfl ?_ | with_reducible refine inb_x rfl ?_ | with_reducible refine XL_nil ?_ | with_reducible refine go_k (by assumption) ?_))
            exact hI.step hinj (i := 13) (by omega) hd1.out
          | 14, _ =>
            simp only [List.getElem?_toArray, List.getElem?_cons_succ, List.getElem?_cons_zero, Option.some.injEq, Nat.zero_add] at ho
            subst ho
            have hp13 : ρ' 53 = rVal (.slice (some ad) l0.length c0) i k ad xi xk a1 13 := hI.val 13 (by omega) (hd 13 (by decide +kernel))
            simp only [rVal] at hp13
            (refine XL_plain hF _ _ ?_; simp only [plainRun, plain, bin, intBin, un, xv, updO, upd_apply, Option.bind_some, reduceIte, Nat.reduceLT, Nat.reduceEqDiff, reduceCtorEq, List.getElem?_toArray, List.getElem?_cons_zero, List.getElem?_cons_succ, Int.reduceEq, BEq.rfl, Bool.not_true, Bool.not_false, hp13])
            (repeat (first | (with_reducible refine X_seq_k ?_; intro K hK) | with_reducible refine X_block ?_ | with_reducible refine X_scope ?_ | with_reducible refine nogo_n ?_ | with_reducible refine nogo_e ?_ | with_reducible refine nogo_r ?_ | with_reducible refine X_region ?_ | with_reducible refine X_skip ?_ | with_reducible refine X_label ?_ | with_reducible refine X_ret ?_ | with_reducible refine X_exit ?_ | with_reducible refine then_n ?_ | with_reducible refine then_e ?_ | with_reducible refine then_r ?_ | with_reducible refine inb_n ?_ | with_reducible refine inb_r ?_ | with_reducible refine inb_e rfl ?_ | with_reducible refine inb_x rfl ?_ | with_reducible refine XL_nil ?_ | with_reducible refine go_k (by assumption) ?_))
            exact hI.step hinj (i := 14) (by omega) (Drew.refl _)
          | 15, _ =>
            simp only [List.getElem?_toArray, List.getElem?_cons_succ, List.getElem?_cons_zero, Option.some.injEq, Nat.zero_add] at ho
            subst ho
            have hp14 : ρ' 39 = rVal (.slice (some ad) l0.length c0) i k ad xi xk a1 14 := hI.val 14 (by omega) (hd 14 (by decide +kernel))
            simp only [rVal] at hp14
            (refine XL_plain hF _ _ ?_; simp only [plainRun, plain, bin, intBin, un, xv, updO, upd_apply, Option.bind_some, reduceIte, Nat.reduceLT, Nat.reduceEqDiff, reduceCtorEq, List.getElem?_toArray, List.getElem?_cons_zero, List.getElem?_cons_succ, Int.reduceEq, BEq.rfl, Bool.not_true, Bool.not_false, hp14])
            (repeat (first | (with_reducible refine X_seq_k ?_; intro K hK) | with_reducible refine X_block ?_ | with_reducible refine X_scope ?_ | with_reducible refine nogo_n ?_ | with_reducible refine nogo_e ?_ | with_reducible refine nogo_r ?_ | with_reducible refine X_region ?_ | with_reducible refine X_skip ?_ | with_reducible refine X_label ?_ | with_reducible refine X_ret ?_ | with_reducible refine X_exit ?_ | with_reducible refine then_n ?_ | with_reducible refine then_e ?_ | with_reducible refine then_r ?_ | with_reducible refine inb_n ?_ | with_reducible refine inb_r ?_ | with_reducible refine inb_e rfl ?_ | with_reducible refine inb_x rfl ?_ | with_reducible refine XL_nil ?_ | with_reducible refine go_k (by assumption) ?_))
            exact hI.step hinj (i := 15) (by omega) (Drew.refl _)
          | 16, _ =>
            simp only [List.getElem?_toArray, List.getElem?_cons_succ, List.getElem?_cons_zero, Option.some.injEq, Nat.zero_add] at ho
            subst ho
            have hp14 : ρ' 39 = rVal (.slice (some ad) l0.length c0) i k ad xi xk a1 14 := hI.val 14 (by omega) (hd 14 (by decide +kernel))
            simp only [rVal] at hp14
            (refine XL_plain hF _ _ ?_; simp only [plainRun, plain, bin, intBin, un, xv, updO, upd_apply, Option.bind_some, reduceIte, Nat.reduceLT, Nat.reduceEqDiff, reduceCtorEq, List.getElem?_toArray, List.getElem?_cons_zero, List.getElem?_cons_succ, Int.reduceEq, BEq.rfl, Bool.not_true, Bool.not_false, hp14])
            (repeat (first | (with_reducible refine X_seq_k ?_; intro K hK) | with_reducible refine X_block ?_ | with_reducible refine X_scope ?_ | with_reducible refine nogo_n ?_ | with_reducible refine nogo_e ?_ | with_reducible refine nogo_r ?_ | with_reducible refine X_region ?_ | with_reducible refine X_skip ?_ | with_reducible refine X_label ?_ | with_reducible refine X_ret ?_ | with_reducible refine X_exit ?_ | with_reducible refine then_n ?_ | with_reducible refine then_e ?_ | with_reducible refine then_r ?_ | with_reducible refine inb_n ?_ | with_reducible refine inb_r ?_ | with_reducible refine inb_e rfl ?_ | with_reducible refine inb_x rfl ?_ | with_reducible refine XL_nil ?_ | with_reducible refine go_k (by assumption) ?_))
            exact hI.step hinj (i := 16) (by omega) (Drew.refl _)
          | 17, _ =>
            simp only [List.getElem?_toArray, List.getElem?_cons_succ, List.getElem?_cons_zero, Option.some.injEq, Nat.zero_add] at ho
            subst ho
            have hp15 : ρ' 54 = rVal (.slice (some ad) l0.length c0) i k ad xi xk a1 15 := hI.val 15 (by omega) (hd 15 (by decide +kernel))
            simp only [rVal] at hp15
            (refine XL_plain hF _ _ ?_; simp only [plainRun, plain, bin, intBin, un, xv, updO, upd_apply, Option.bind_some, reduceIte, Nat.reduceLT, Nat.reduceEqDiff, reduceCtorEq, List.getElem?_toArray, List.getElem?_cons_zero, List.getElem?_cons_succ, Int.reduceEq, BEq.rfl, Bool.not_true, Bool.not_false, hp15])
            (repeat (first | (with_reducible refine X_seq_k ?_; intro K hK) | with_reducible refine X_block ?_ | with_reducible refine X_scope ?_ | with_reducible refine nogo_n ?_ | with_reducible refine nogo_e ?_ | with_reducible refine nogo_r ?_ | with_reducible refine X_region ?_ | with_reducible refine X_skip ?_ | with_reducible refine X_label ?_ | with_reducible refine X_ret ?_ | with_reducible refine X_exit ?_ | with_reducible refine then_n ?_ | with_reducible refine then_e ?_ | with_reducible refine then_r ?_ | with_reducible refine inb_n ?_ | with_reducible refine inb_r ?_ | with_reducible refine inb_e rfl ?_ | with_reducible refine inb_x rfl ?_ | with_reducible refine XL_nil ?_ | with_reducible refine go_k (by assumption) ?_))
            exact hI.step hinj (i := 17) (by omega) (Drew.refl _)
          | 18, _ =>
            simp only [List.getElem?_toArray, List.getElem?_cons_succ, List.getElem?_cons_zero, Option.some.injEq, Nat.zero_add] at ho
            subst ho
            have hp16 : ρ' 55 = rVal (.slice (some ad) l0.length c0) i k ad xi xk a1 16 := hI.val 16 (by omega) (hd 16 (by decide +kernel))
            simp only [rVal] at hp16
            (refine XL_plain hF _ _ ?_; simp only [plainRun, plain, bin, intBin, un, xv, updO, upd_apply, Option.bind_some, reduceIte, Nat.reduceLT, Nat.reduceEqDiff, reduceCtorEq, List.getElem?_toArray, List.getElem?_cons_zero, List.getElem?_cons_succ, Int.reduceEq, BEq.rfl, Bool.not_true, Bool.not_false, hp16])
            (repeat (first | (with_reducible refine X_seq_k ?_; intro K hK) | with_reducible refine X_block ?_ | with_reducible refine X_scope ?_ | with_reducible refine nogo_n ?_ | with_reducible refine nogo_e ?_ | with_reducible refine nogo_r ?_ | with_reducible refine X_region ?_ | with_reducible refine X_skip ?_ | with_reducible refine X_label ?_ | with_reducible refine X_ret ?_ | with_reducible refine X_exit ?_ | with_reducible refine then_n ?_ | with_reducible refine then_e ?_ | with_reducible refine then_r ?_ | with_reducible refine inb_n ?_ | with_reducible refine inb_r ?_ | with_reducible refine inb_e rfl ?_ | with_reducible refine inb_x rfl ?_ | with_reducible refine XL_nil ?_ | with_reducible refine go_k (by assumption) ?_))
            exact hI.step hinj (i := 18) (by omega) (Drew.refl _)
          | j + 19, hj => exact absurd (show j + 19 < 19 from hj) (by omega)
        · intro b ρ' ds' w' hall hI
          have hk0 : ρ' 0 = .slice (some ad) l0.length c0 := (hI.keep 0 (by decide)).trans hr0'
          have hk1 : ρ' 1 = .int .i64 a1 := (hI.keep 1 (by decide)).trans hr1'
          have hk6 : ρ' 6 = .int .i64 (rSum a1 l0 (l0.take i).zipIdx) := (hI.keep 6 (by decide)).trans hr6'
          have hk7 : ρ' 7 = .int .i64 i := (hI.keep 7 (by decide)).trans hr7'
          have hk8 : ρ' 8 = .int .i64 (rPart a1 ⟨xi, yi⟩ i (l0.take k)) := (hI.keep 8 (by decide)).trans hr8'
          have hk9 : ρ' 9 = .int .i64 k := (hI.keep 9 (by decide)).trans hr9'
          have hk10 : ρ' 10 = .int .i64 (inv ((xi - xk) % 1073741789)) := hI.val 17 (by omega) (hall 17 (by simp))
          obtain rfl : ds' = [] := hI.dse
          have hd2 : Drawn0 w w' := drawn_trans hd1 ⟨hI.drawn⟩
          have hhp : w'.heap = w1.heap := hI.drawn.heap
          clear hI
          (repeat (first | (with_reducible refine X_seq_k ?_; intro K hK) | with_reducible refine X_block ?_ | with_reducible refine X_scope ?_ | with_reducible refine nogo_n ?_ | with_reducible refine nogo_e ?_ | with_reducible refine nogo_r ?_ | with_reducible refine X_region ?_ | with_reducible refine X_skip ?_ | with_reducible refine X_label ?_ | with_reducible refine X_ret ?_ | with_reducible refine X_exit ?_ | with_reducible refine then_n ?_ | with_reducible refine then_e ?_ | with_reducible refine then_r ?_ | with_reducible refine inb_n ?_ | with_reducible refine inb_r ?_ | with_reducible refine inb_e rfl ?_ | with_reducible refine inb_x rfl ?_ | with_reducible refine XL_nil ?_ | with_reducible refine go_k (by assumption) ?_))
          (refine XL_plain hF _ _ ?_; simp only [plainRun, plain, bin, intBin, un, xv, updO, upd_apply, Option.bind_some, reduceIte, Nat.reduceLT, Nat.reduceEqDiff, reduceCtorEq, List.getElem?_toArray, List.getElem?_cons_zero, List.getElem?_cons_succ, Int.reduceEq, BEq.rfl, Bool.not_true, Bool.not_false, hk8, hk1, hk0, hk9])
          refine XL_index hF Try.underlying30 hi38 (a := ad) (l := l0.length) (c := c0) (k := .i64) (i := k) (by simp [xv, upd, hk0]) (by simp [xv, upd, hk9]) (by omega) (by omega) ?_
          refine XL_fieldAdd hF Try.underlying38 rfl hi3 (by rw [hs3]; decide) (a := ad.add (k * 2)) (by simp [xv, upd, updO, hs38]) ?_
          refine XL_load hF (a := ad.add (k * 2)) (by simp [xv, upd, updO]; rfl) (hlk _ hhp) ?_
          refine XL_call hF rfl E13 (rmod_rets xk _) (by simp [xv, upd, updO]) ?_
          rintro v w3 ⟨rfl, hd3⟩
          (refine XL_plain hF _ _ ?_; simp only [plainRun, plain, bin, intBin, un, xv, updO, upd_apply, Option.bind_some, reduceIte, Nat.reduceLT, Nat.reduceEqDiff, reduceCtorEq, List.getElem?_toArray, List.getElem?_cons_zero, List.getElem?_cons_succ, Int.reduceEq, BEq.rfl, Bool.not_true, Bool.not_false, hneg, Int.zero_sub])
          refine XL_call hF rfl E15 (radd_rets a1 (-(xk % 1073741789)) _) (by simp [xv, upd, updO]) ?_
          rintro v w4 ⟨rfl, hd4⟩
          rw [hsub_at]
          (refine XL_plain hF _ _ ?_; simp only [plainRun, plain, bin, intBin, un, xv, updO, upd_apply, Option.bind_some, reduceIte, Nat.reduceLT, Nat.reduceEqDiff, reduceCtorEq, List.getElem?_toArray, List.getElem?_cons_zero, List.getElem?_cons_succ, Int.reduceEq, BEq.rfl, Bool.not_true, Bool.not_false, hk10])
          refine XL_call hF rfl E17 (rmul_rets ((a1 - xk) % 1073741789) (inv ((xi - xk) % 1073741789)) _) (by simp [xv, upd, updO]) ?_
          rintro v w5 ⟨rfl, hd5⟩
          refine XL_call hF rfl E17 (rmul_rets (rPart a1 ⟨xi, yi⟩ i (l0.take k)) ((a1 - xk) % 1073741789 * inv ((xi - xk) % 1073741789) % 1073741789) _) (by simp [xv, upd, updO]) ?_
          rintro v w6 ⟨rfl, hd6⟩
          (refine XL_plain hF _ _ ?_; simp only [plainRun, plain, bin, intBin, un, xv, updO, upd_apply, Option.bind_some, reduceIte, Nat.reduceLT, Nat.reduceEqDiff, reduceCtorEq, List.getElem?_toArray, List.getElem?_cons_zero, List.getElem?_cons_succ, Int.reduceEq, BEq.rfl, Bool.not_true, Bool.not_false])
          (repeat (first | (with_reducible refine X_seq_k ?_; intro K hK) | with_reducible refine X_block ?_ | with_reducible refine X_scope ?_ | with_reducible refine nogo_n ?_ | with_reducible refine nogo_e ?_ | with_reducible refine nogo_r ?_ | with_reducible refine X_region ?_ | with_reducible refine X_skip ?_ | with_reducible refine X_label ?_ | with_reducible refine X_ret ?_ | with_reducible refine X_exit ?_ | with_reducible refine then_n ?_ | with_reducible refine then_e ?_ | with_reducible refine then_r ?_ | with_reducible refine inb_n ?_ | with_reducible refine inb_r ?_ | with_reducible refine inb_e rfl ?_ | with_reducible refine inb_x rfl ?_ | with_reducible refine XL_nil ?_ | with_reducible refine go_k (by assumption) ?_))
          (refine XL_plain hF _ _ ?_; simp only [plainRun, plain, bin, intBin, un, xv, updO, upd_apply, Option.bind_some, reduceIte, Nat.reduceLT, Nat.reduceEqDiff, reduceCtorEq, List.getElem?_toArray, List.getElem?_cons_zero, List.getElem?_cons_succ, Int.reduceEq, BEq.rfl, Bool.not_true, Bool.not_false, hk9, wrap64_in (x := (k : Int) + 1) (by omega) (by omega)])
          (repeat (first | (with_reducible refine X_seq_k ?_; intro K hK) | with_reducible refine X_block ?_ | with_reducible refine X_scope ?_ | with_reducible refine nogo_n ?_ | with_reducible refine nogo_e ?_ | with_reducible refine nogo_r ?_ | with_reducible refine X_region ?_ | with_reducible refine X_skip ?_ | with_reducible refine X_label ?_ | with_reducible refine X_ret ?_ | with_reducible refine X_exit ?_ | with_reducible refine then_n ?_ | with_reducible refine then_e ?_ | with_reducible refine then_r ?_ | with_reducible refine inb_n ?_ | with_reducible refine inb_r ?_ | with_reducible refine inb_e rfl ?_ | with_reducible refine inb_x rfl ?_ | with_reducible refine XL_nil ?_ | with_reducible refine go_k (by assumption) ?_))
          exact ⟨k + 1, ⟨by simp [upd, hk0], by simp [upd, hk1], by simp [upd, hk6], by simp [upd, hk7], by simp [upd, hps], by simp [upd], rfl, hlk0, drawn_trans (drawn_trans (drawn_trans (drawn_trans hd2 hd3) hd4) hd5) hd6⟩, by omega⟩
    · obtain rfl : k = l0.length := by omega
      rw [List.take_length] at r8
      refine X_cond_false (by simp [xv, upd]) ?_
      (repeat (first | (with_reducible refine X_seq_k ?_; intro K hK) | with_reducible refine X_block ?_ | with_reducible refine X_scope ?_ | with_reducible refine nogo_n ?_ | with_reducible refine nogo_e ?_ | with_reducible refine nogo_r ?_ | with_reducible refine X_region ?_ | with_reducible refine X_skip ?_ | with_reducible refine X_label ?_ | with_reducible refine X_ret ?_ | with_reducible refine X_exit ?_ | with_reducible refine then_n ?_ | with_reducible refine then_e ?_ | with_reducible refine then_r ?_ | with_reducible refine inb_n ?_ | with_reducible refine inb_r ?_ | with_reducible refine inb_e rfl ?_ | with_reducible refine inb_x rfl ?_ | with_reducible refine XL_nil ?_ | with_reducible refine go_k (by assumption) ?_))
      (refine XL_plain hF _ _ ?_; simp only [plainRun, plain, bin, intBin, un, xv, updO, upd_apply, Option.bind_some, reduceIte, Nat.reduceLT, Nat.reduceEqDiff, reduceCtorEq, List.getElem?_toArray, List.getElem?_cons_zero, List.getElem?_cons_succ, Int.reduceEq, BEq.rfl, Bool.not_true, Bool.not_false, r6, r8])
      refine XL_call hF rfl E15 (radd_rets (rSum a1 l0 (l0.take i).zipIdx) (rPart a1 p i l0) _) (by simp [xv, upd, updO]) ?_
      rintro v w2 ⟨rfl, hd2⟩
      (refine XL_plain hF _ _ ?_; simp only [plainRun, plain, bin, intBin, un, xv, updO, upd_apply, Option.bind_some, reduceIte, Nat.reduceLT, Nat.reduceEqDiff, reduceCtorEq, List.getElem?_toArray, List.getElem?_cons_zero, List.getElem?_cons_succ, Int.reduceEq, BEq.rfl, Bool.not_true, Bool.not_false])
      (repeat (first | (with_reducible refine X_seq_k ?_; intro K hK) | with_reducible refine X_block ?_ | with_reducible refine X_scope ?_ | with_reducible refine nogo_n ?_ | with_reducible refine nogo_e ?_ | with_reducible refine nogo_r ?_ | with_reducible refine X_region ?_ | with_reducible refine X_skip ?_ | with_reducible refine X_label ?_ | with_reducible refine X_ret ?_ | with_reducible refine X_exit ?_ | with_reducible refine then_n ?_ | with_reducible refine then_e ?_ | with_reducible refine then_r ?_ | with_reducible refine inb_n ?_ | with_reducible refine inb_r ?_ | with_reducible refine inb_e rfl ?_ | with_reducible refine inb_x rfl ?_ | with_reducible refine XL_nil ?_ | with_reducible refine go_k (by assumption) ?_))
      (refine XL_plain hF _ _ ?_; simp only [plainRun, plain, bin, intBin, un, xv, updO, upd_apply, Option.bind_some, reduceIte, Nat.reduceLT, Nat.reduceEqDiff, reduceCtorEq, List.getElem?_toArray, List.getElem?_cons_zero, List.getElem?_cons_succ, Int.reduceEq, BEq.rfl, Bool.not_true, Bool.not_false, r7, wrap64_in (x := (i : Int) + 1) (by omega) (by omega)])
      (repeat (first | (with_reducible refine X_seq_k ?_; intro K hK) | with_reducible refine X_block ?_ | with_reducible refine X_scope ?_ | with_reducible refine nogo_n ?_ | with_reducible refine nogo_e ?_ | with_reducible refine nogo_r ?_ | with_reducible refine X_region ?_ | with_reducible refine X_skip ?_ | with_reducible refine X_label ?_ | with_reducible refine X_ret ?_ | with_reducible refine X_exit ?_ | with_reducible refine then_n ?_ | with_reducible refine then_e ?_ | with_reducible refine then_r ?_ | with_reducible refine inb_n ?_ | with_reducible refine inb_r ?_ | with_reducible refine inb_e rfl ?_ | with_reducible refine inb_x rfl ?_ | with_reducible refine XL_nil ?_ | with_reducible refine go_k (by assumption) ?_))
      exact ⟨i + 1, ⟨by simp [upd, r0], by simp [upd, r1], by simp [upd, hsn], by simp [upd], rfl, hlt, drawn_trans hd1 hd2⟩, by omega⟩
  · obtain rfl : i = l0.length := by omega
    rw [List.take_length] at r6
    refine X_cond_false (by simp [xv, upd]) ?_
    (repeat (first | (with_reducible refine X_seq_k ?_; intro K hK) | with_reducible refine X_block ?_ | with_reducible refine X_scope ?_ | with_reducible refine nogo_n ?_ | with_reducible refine nogo_e ?_ | with_reducible refine nogo_r ?_ | with_reducible refine X_region ?_ | with_reducible refine X_skip ?_ | with_reducible refine X_label ?_ | with_reducible refine X_ret ?_ | with_reducible refine X_exit ?_ | with_reducible refine then_n ?_ | with_reducible refine then_e ?_ | with_reducible refine then_r ?_ | with_reducible refine inb_n ?_ | with_reducible refine inb_r ?_ | with_reducible refine inb_e rfl ?_ | with_reducible refine inb_x rfl ?_ | with_reducible refine XL_nil ?_ | with_reducible refine go_k (by assumption) ?_))
    (refine XL_plain hF _ _ ?_; simp only [plainRun, plain, bin, intBin, un, xv, updO, upd_apply, Option.bind_some, reduceIte, Nat.reduceLT, Nat.reduceEqDiff, reduceCtorEq, List.getElem?_toArray, List.getElem?_cons_zero, List.getElem?_cons_succ, Int.reduceEq, BEq.rfl, Bool.not_true, Bool.not_false, r6])
    (repeat (first | (with_reducible refine X_seq_k ?_; intro K hK) | with_reducible refine X_block ?_ | with_reducible refine X_scope ?_ | with_reducible refine nogo_n ?_ | with_reducible refine nogo_e ?_ | with_reducible refine nogo_r ?_ | with_reducible refine X_region ?_ | with_reducible refine X_skip ?_ | with_reducible refine X_label ?_ | with_reducible refine X_ret ?_ | with_reducible refine X_exit ?_ | with_reducible refine then_n ?_ | with_reducible refine then_e ?_ | with_reducible refine then_r ?_ | with_reducible refine inb_n ?_ | with_reducible refine inb_r ?_ | with_reducible refine inb_e rfl ?_ | with_reducible refine inb_x rfl ?_ | with_reducible refine XL_nil ?_ | with_reducible refine go_k (by assumption) ?_))
    exact body_ret (results2 rfl (by decide) (by decide)) ⟨by simp [upd], hd1⟩
end Go.Proofs.Ytbbffpgnjdejiaa.P
