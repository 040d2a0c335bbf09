import Derived.Test.YtecgklfcblpkdaaShort3
import Derived.Test.YtecgklfcblpkdaaGSane
import Derived.Test.YtecgklfcblpkdaaXStr
import Derived.Test.YtecgklfcblpkdaaXGuard
/- What the set of Violates is: short, and no lesser one is. -/
namespace Go.Proofs.Ytecgklfcblpkdaa.P
open Go.RowKit Go.Proofs.YtecgklfcblpkdaaW.PrintWords Go.Proofs.YtecgklfcblpkdaaW.PrintLast Go.Proofs.YtecgklfcblpkdaaW.PrintMore
open XW
set_option linter.unusedSimpArgs false
set_option linter.unusedVariables false
set_option linter.unusedSectionVars false

/-- a list without its element s, up to j -/
def skL (l : List Int) (s : Int) : Nat → List Int
  | 0 => []
  | j + 1 => if (j : Int) = s then skL l s j else skL l s j ++ [l.getD j 0]
theorem skL_neg (l : List Int) : ∀ j, j ≤ l.length → skL l (-1) j = l.take j
  | 0, _ => by simp [skL]
  | j + 1, h => by rw [skL, if_neg (by omega), skL_neg l j (by omega), take_snocD l j 0 (by omega)]
theorem skL_at (l : List Int) (s : Nat) : ∀ j, j ≤ l.length → skL l s j = (l.take j).eraseIdx s
  | 0, _ => by simp [skL]
  | j + 1, h => by
    rw [skL, skL_at l s j (by omega), take_snocD l j 0 (by omega)]
    by_cases e : (j : Int) = s
    · obtain rfl : j = s := by omega
      rw [if_pos rfl, List.eraseIdx_append_of_length_le (by simp; omega), List.eraseIdx_of_length_le (by simp; omega)]
      simp [show min j l.length = j by omega]
    · rw [if_neg e]
      by_cases e2 : s < j
      · rw [List.eraseIdx_append_of_lt_length (by simp; omega)]
      · rw [List.eraseIdx_of_length_le (by simp; omega), List.eraseIdx_of_length_le (by simp; omega)]
theorem skL_len (l : List Int) (s : Int) : ∀ j, (skL l s j).length ≤ j
  | 0 => by simp [skL]
  | j + 1 => by
    have := skL_len l s j
    rw [skL]; split
    · omega
    · simp; omega
theorem skL_mem (l : List Int) (s : Int) : ∀ j, j ≤ l.length → ∀ x ∈ skL l s j, x ∈ l
  | 0, _, x, hx => by simp [skL] at hx
  | j + 1, h, x, hx => by
    rw [skL] at hx
    split at hx
    · exact skL_mem l s j (by omega) x hx
    · rcases List.mem_append.1 hx with hx | hx
      · exact skL_mem l s j (by omega) x hx
      · rw [List.mem_singleton.1 hx]; exact getD_mem' (by omega)
set_option maxRecDepth 100000 in
theorem less_all : ((List.range 1024).all fun x => (List.range (membs 10 x).length).all fun s => decide (membs 10 (x ^^^ 2 ^ ((membs 10 x).getD s 0).toNat) = (membs 10 x).eraseIdx s) && decide (x ^^^ 2 ^ ((membs 10 x).getD s 0).toNat < x)) = true := by decide +kernel
set_option maxRecDepth 100000 in
theorem pair_all : ((List.range 10).all fun k => (List.range k).all fun i => decide (membs 10 (2 ^ i ||| 2 ^ k) = [(i : Int), (k : Int)]) && decide (2 ^ i ||| 2 ^ k < 2 ^ (k + 1))) = true := by decide +kernel
set_option maxRecDepth 100000 in
theorem inc_all : ((List.range 1024).all fun x => (List.range ((membs 10 x).length - 1)).all fun s => decide ((membs 10 x).getD s 0 < (membs 10 x).getD (s + 1) 0)) = true := by decide +kernel
/-- what Violates found -/
def isLeast (p : List (List Int)) (a : Nat) : Prop := a < 2 ^ p.length ∧ good p a ∧ ∀ x, x < 2 ^ p.length → good p x → x = a ∨ bef a x
theorem vio_found {p : List (List Int)} (h2 : ¬ (p.length < 2 ∨ p.length > 10 ∨ ¬ patOk p)) : (vioF p = ([], false, 0) ∧ ∀ x, x < 2 ^ p.length → ¬ good p x) ∨ ∃ a, isLeast p a ∧ vioF p = (membs 10 a, true, 0) := by
  have hn : p.length ≤ 10 := by omega
  rw [vioF, if_neg h2]
  cases hf : (setsL p.length).find? (shortB p) with
  | none =>
    refine .inl ⟨rfl, fun x hx hg => ?_⟩
    exact absurd hg.2 (List.find?_eq_none.1 hf x ((sets_mem hn).2 ⟨hx, hg.1⟩))
  | some b =>
    obtain ⟨h3, h4, h5⟩ := find_least (sets_pw hn) hf
    have hb := (sets_mem hn).1 h4
    exact .inr ⟨b, ⟨hb.1, ⟨hb.2, h3⟩, fun x hx hg => h5 x ((sets_mem hn).2 ⟨hx, hg.1⟩) hg.2⟩, by simp only []; rw [membs_10 hn hb.1]⟩
theorem pow_1024 {n x : Nat} (hn : n ≤ 10) (hx : x < 2 ^ n) : x < 1024 := Nat.lt_of_lt_of_le hx (Nat.pow_le_pow_right (n := 2) (by decide) hn)
section
variable {p : List (List Int)} {a : Nat} (hn : p.length ≤ 10) (h : isLeast p a)
include hn h
theorem least_2 : 2 ≤ (membs 10 a).length := by rw [← popc_len]; exact h.2.1.1
theorem least_len : (membs 10 a).length ≤ p.length := by rw [← membs_10 hn h.1]; exact membs_len _ _
theorem least_mem : ∀ t ∈ membs 10 a, 0 ≤ t ∧ t < p.length := fun t ht => by rw [← membs_10 hn h.1] at ht; exact membs_mem ht
theorem least_inc (s : Nat) (hs : s + 1 < (membs 10 a).length) : (membs 10 a).getD s 0 < (membs 10 a).getD (s + 1) 0 := by
  have := List.all_eq_true.1 (List.all_eq_true.1 inc_all a (List.mem_range.2 (pow_1024 hn h.1))) s (List.mem_range.2 (by omega))
  exact of_decide_eq_true this
theorem least_short : 2 * sumG p (skL (membs 10 a) (-1) (membs 10 a).length) (p.getD 0 []).length < ((membs 10 a).length : Int) * (((membs 10 a).length : Int) - 1) := by
  have := short_eq p a hn h.1
  rw [h.2.1.2, membs_10 hn h.1] at this
  rw [skL_neg _ _ (Nat.le_refl _), List.take_length]
  exact of_decide_eq_true this.symm
theorem sk_erase (s : Nat) (hs : s < (membs 10 a).length) : (skL (membs 10 a) s (membs 10 a).length).length + 1 = (membs 10 a).length := by
  rw [skL_at _ s _ (Nat.le_refl _), List.take_length, List.length_eraseIdx_of_lt hs]; omega
theorem least_no (s : Nat) (hs : s < (membs 10 a).length) : ¬ 2 * sumG p (skL (membs 10 a) s (membs 10 a).length) (p.getD 0 []).length < ((skL (membs 10 a) s (membs 10 a).length).length : Int) * (((skL (membs 10 a) s (membs 10 a).length).length : Int) - 1) := by
  have he : skL (membs 10 a) s (membs 10 a).length = (membs 10 a).eraseIdx s := by rw [skL_at _ s _ (Nat.le_refl _), List.take_length]
  have hl : ((membs 10 a).eraseIdx s).length + 1 = (membs 10 a).length := by rw [List.length_eraseIdx_of_lt hs]; omega
  have hall := List.all_eq_true.1 (List.all_eq_true.1 less_all a (List.mem_range.2 (pow_1024 hn h.1))) s (List.mem_range.2 hs)
  rw [Bool.and_eq_true] at hall
  have hy := of_decide_eq_true hall.1
  have hlt := of_decide_eq_true hall.2
  generalize a ^^^ 2 ^ ((membs 10 a).getD s 0).toNat = y at *
  rw [he]
  have h2 := least_2 hn h
  by_cases h3 : ((membs 10 a).eraseIdx s).length = 1
  · have := sumG_bd p ((membs 10 a).eraseIdx s) (p.getD 0 []).length
    rw [h3]; omega
  · have hyn : y < 2 ^ p.length := Nat.lt_trans hlt h.1
    intro hc
    have hs := short_eq p y hn hyn
    rw [membs_10 hn hyn, hy, decide_eq_true hc] at hs
    have hg : good p y := ⟨by rw [popc_len, hy]; omega, hs⟩
    rcases h.2.2 y hyn hg with e | e
    · omega
    · have := bef_len e
      rw [hy] at this; omega
end
theorem same_rows_sum {p : List (List Int)} {i k : Nat} (h : p.getD i [] = p.getD k []) : ∀ R, sumG p [(i : Int), (k : Int)] R = 0
  | 0 => rfl
  | R + 1 => by
    rw [sumG, same_rows_sum h R]
    have key : ∀ v, cntV p [(i : Int), (k : Int)] R v = if (p.getD k []).getD R 0 = v then 2 else 0 := fun v => by
      rw [cntV, List.filter_cons, List.filter_cons, List.filter_nil, Int.toNat_natCast, Int.toNat_natCast, h]
      by_cases e : (p.getD k []).getD R 0 = v
      · rw [decide_eq_true e, if_pos e]; rfl
      · rw [decide_eq_false e, if_neg e]; rfl
    rw [key, key]
    split
    · rw [if_neg (by omega)]; rfl
    · split <;> rfl
theorem same_rows {p : List (List Int)} (hn : p.length ≤ 10) {i k : Nat} (hi : i < p.length) (hk : k < p.length) (hne : i ≠ k) (h : p.getD i [] = p.getD k []) : ∃ y, y < 2 ^ p.length ∧ good p y ∧ (membs 10 y).length = 2 := by
  have key : ∀ i k : Nat, i < k → k < p.length → p.getD i [] = p.getD k [] → ∃ y, y < 2 ^ p.length ∧ good p y ∧ (membs 10 y).length = 2 := fun i k hik hk h => by
    have hall := List.all_eq_true.1 (List.all_eq_true.1 pair_all k (List.mem_range.2 (by omega))) i (List.mem_range.2 hik)
    rw [Bool.and_eq_true] at hall
    have hy := of_decide_eq_true hall.1
    have hlt := of_decide_eq_true hall.2
    have hyn : 2 ^ i ||| 2 ^ k < 2 ^ p.length := Nat.lt_of_lt_of_le hlt (Nat.pow_le_pow_right (by decide) hk)
    have hs := short_eq p (2 ^ i ||| 2 ^ k) hn hyn
    rw [membs_10 hn hyn, hy, same_rows_sum h] at hs
    exact ⟨_, hyn, ⟨by rw [popc_len, hy]; exact Nat.le_refl 2, hs⟩, by rw [hy]; rfl⟩
  rcases Nat.lt_or_gt_of_ne hne with h' | h'
  · exact key i k h' hk h
  · exact key k i h' hi h.symm
theorem least_pair {p : List (List Int)} (hn : p.length ≤ 10) {a : Nat} (hl : isLeast p a) {i k : Nat} (hi : i < p.length) (hk : k < p.length) (hne : i ≠ k) (h : p.getD i [] = p.getD k []) : (membs 10 a).length = 2 := by
  obtain ⟨y, h1, h2, h3⟩ := same_rows hn hi hk hne h
  have := least_2 hn hl
  rcases hl.2.2 y h1 h2 with e | e
  · subst e; exact h3
  · have := bef_len e; omega
theorem ints_dec (l l' : List Int) (hl : l.length ≤ 9223372036854775807) : Ev (fun k => fastiref21_SameInts.f k l l') (decide (l = l')) := by
  by_cases he : l.length = l'.length
  · have key : ∀ (d i : Nat), l.length - i ≤ d → i ≤ l.length → l.take i = l'.take i → fastiref21_SameInts.l0 (d + 1) l l' i = some (decide (l = l')) := by
      intro d
      have hend : ∀ k, l.take l.length = l'.take l.length → fastiref21_SameInts.l0 (k + 1) l l' (l.length : Nat) = some (decide (l = l')) := fun k h => by
        rw [fastiref21_SameInts.l0, if_neg (by omega)]
        rw [List.take_length, he, List.take_length] at h
        rw [decide_eq_true h]
      induction d with
      | zero => intro i hd hi h; obtain rfl : i = l.length := by omega
                exact hend _ h
      | succ d ih =>
        intro i hd hi h
        by_cases hlt : i < l.length
        · have e1 : rd l (i : Int) = l.getD i 0 := by rw [rd, Int.toNat_natCast]
          have e2 : rd l' (i : Int) = l'.getD i 0 := by rw [rd, Int.toNat_natCast]
          rw [fastiref21_SameInts.l0, if_pos (by omega), if_pos (by omega), if_pos (by omega), e1, e2, w64 (by omega)]
          by_cases e : l.getD i 0 = l'.getD i 0
          · rw [if_pos e]
            exact ih (i + 1) (by omega) hlt (by rw [take_snocD l i 0 hlt, take_snocD l' i 0 (by omega), h, e])
          · rw [if_neg e, decide_eq_false (fun h2 => e (by rw [h2]))]
        · obtain rfl : i = l.length := by omega
          exact hend _ h
    exact ev_of (fun k => fastiref21_SameInts.mono _ _ k) ⟨l.length + 1, by show fastiref21_SameInts.f _ l l' = _; rw [fastiref21_SameInts.f, if_pos (by omega)]; exact key l.length 0 (by omega) (by omega) rfl⟩
  · exact ⟨0, fun k _ => by show fastiref21_SameInts.f k l l' = _; rw [fastiref21_SameInts.f, if_neg (by omega), decide_eq_false (fun h => he (by rw [h]))]⟩
end Go.Proofs.Ytecgklfcblpkdaa.P

/- PatternsShort: the law's walk. -/
namespace Go.Proofs.Ytecgklfcblpkdaa.P
open Go.RowKit Go.Proofs.YtecgklfcblpkdaaW.PrintWords Go.Proofs.YtecgklfcblpkdaaW.PrintLast Go.Proofs.YtecgklfcblpkdaaW.PrintMore
open XW RegInv
attribute [local irreducible] Addr.add
set_option linter.unusedSimpArgs false
set_option linter.unusedVariables false

theorem E10 : Enters Try.prog 10 := enters Try.func10 (by kernel_rfl) rfl
theorem E11 : Enters Try.prog 11 := enters Try.func11 (by kernel_rfl) rfl
theorem few_rets {A : Option Addr} {c : Nat} {p : List (List Int)} {b : Bool} {k : Nat} (h : fastiref21_Few.f k [] p = some b) (w : World) (hr : Kd.C KL w A p.length p) (hc : p.length ≤ c) : Rets Try.prog 11 #[.slice none 0 0, .slice A p.length c] w fun u w' => u = .bool b ∧ Below w.heap.size w w' :=
  (fastiref21_Few.calls k none 0 [] A c p b w (C44_nil w) (Nat.le_refl _) hr hc h).mono (by rintro e w'' ⟨rfl, hb⟩; exact ⟨_, rfl, rfl, hb.below⟩)
theorem ints_rets {A A' : Option Addr} {c c' : Nat} {l l' : List Int} (w : World) (hC : Kd.C KI w A l.length l) (hc : l.length ≤ c) (hC' : Kd.C KI w A' l'.length l') (hc' : l'.length ≤ c') : Rets Try.prog 17 #[.slice A l.length c, .slice A' l'.length c'] w fun u w' => u = .bool (decide (l = l')) ∧ Below w.heap.size w w' := by
  obtain ⟨K, hK⟩ := ints_dec l l' hC.2.1
  exact (fastiref21_SameInts.calls K A c l A' c' l' _ w hC hc hC' hc' (hK K (Nat.le_refl _))).mono (by rintro _ w' ⟨rfl, hb⟩; exact ⟨_, rfl, rfl, hb.below⟩)
theorem vmax0 {x : Int} (h : -1 ≤ x ∧ x ≤ 1) : max 0 x = if x = 1 then 1 else 0 := by split <;> omega
theorem vmin0 {x : Int} (h : -1 ≤ x ∧ x ≤ 1) : min 0 x = if x = -1 then -1 else 0 := by split <;> omega
set_option maxHeartbeats 16000000 in
theorem short_law (A : Option Addr) (c : Nat) (p : List (List Int)) (a b : Int) (w0 : World) (hr0 : Kd.C KL w0 A p.length p) (hc : p.length ≤ c) (ha : 0 ≤ a ∧ a ≤ 255) (hb : 0 ≤ b ∧ b ≤ 255) :
    Rets Try.prog 7 #[.slice A p.length c, .int .u8 a, .int .u8 b] w0 fun u w' => u = .bool true ∧ Below w0.heap.size w0 w' := by
  have hF := wide_wide
  have hmx := hr0.2.1
  obtain ⟨bf, Kf, hKf⟩ := few_ev [] p
  refine rets_at (n := 196) Try.func7 rfl Try.ntmps7 (by simp) ?_
  (repeat (first | ((with_reducible refine is_AL ?_); (first | ((with_reducible refine is_assign ?_); (refine At_plain hF (by (exact (rfl : _ = some (Value.bool _)))) ?_)) | with_reducible refine At_nil ?_)) | ((with_reducible refine is_At ?_); (first | with_reducible refine At_seq ?_; intro K hK | with_reducible refine At_region ?_ | with_reducible refine At_then_n ?_ | with_reducible refine At_go (by assumption) ?_))))
  refine At_callB hF E10 rfl (vs := #[]) (by simp) (fun w' hw' => sane_rets w') ?_
  (repeat (first | ((with_reducible refine is_AL ?_); (first | ((with_reducible refine is_move ?_); (refine At_plain hF (by (exact (rfl : _ = some (Value.slice _ _ _)))) ?_)) | ((with_reducible refine is_un ?_); (refine At_plain hF (by (exact (rfl : _ = some (Value.bool _)))) ?_)) | with_reducible refine At_nil ?_)) | ((with_reducible refine is_At ?_); (first | with_reducible refine At_seq ?_; intro K hK | with_reducible refine At_region ?_ | with_reducible refine At_skip ?_ | with_reducible refine At_then_n ?_ | with_reducible refine At_go (by assumption) ?_ | ((with_reducible refine is_cond ?_); (refine At_cond_f rfl ?_))))))
  refine At_callB hF E11 rfl (arg2 (by (first | exact (rfl : _ = (Value.int _ _)) | exact (rfl : _ = (Value.bool _)) | exact (rfl : _ = (Value.pointer _)) | exact (rfl : _ = (Value.slice _ _ _)) | exact (rfl : _ = (Value.map _)) | exact (rfl : _ = (Value.func _ _ _)) | exact (rfl : _ = (Value.tuple _)) | exact (rfl : _ = (Value.agg _)) | exact (rfl : _ = (Value.string _)) | exact (rfl : _ = (Value.nilFunc)) | exact (rfl : _ = (Value.nilIface)))) (by (first | exact (rfl : _ = (Value.int _ _)) | exact (rfl : _ = (Value.bool _)) | exact (rfl : _ = (Value.pointer _)) | exact (rfl : _ = (Value.slice _ _ _)) | exact (rfl : _ = (Value.map _)) | exact (rfl : _ = (Value.func _ _ _)) | exact (rfl : _ = (Value.tuple _)) | exact (rfl : _ = (Value.agg _)) | exact (rfl : _ = (Value.string _)) | exact (rfl : _ = (Value.nilFunc)) | exact (rfl : _ = (Value.nilIface))))) (fun w' hw' => few_rets (hKf Kf (Nat.le_refl _)) w' (Kd.C_below hr0 hw'.below) hc) ?_
  cases bf with
  | false =>
    (repeat (first | ((with_reducible refine is_AL ?_); (first | ((with_reducible refine is_assign ?_); (refine At_plain hF (by (exact (rfl : _ = some (Value.bool _)))) ?_)) | ((with_reducible refine is_un ?_); (refine At_plain hF (by (exact (rfl : _ = some (Value.bool _)))) ?_)) | with_reducible refine At_nil ?_)) | ((with_reducible refine is_At ?_); (first | with_reducible refine At_seq ?_; intro K hK | with_reducible refine At_region ?_ | with_reducible refine At_ret ?_ | with_reducible refine At_then_n ?_ | with_reducible refine At_then_r ?_ | with_reducible refine At_go (by assumption) ?_ | ((with_reducible refine is_cond ?_); (refine At_cond_t rfl ?_))))))
    exact At_ret1 rfl (rv_tmp (by decide)) (fun w' hw' => ⟨_, rfl, rfl, hw'.below⟩)
  | true =>
  (repeat (first | ((with_reducible refine is_AL ?_); (first | ((with_reducible refine is_move ?_); (refine At_plain hF (by (exact (rfl : _ = some (Value.slice _ _ _)))) ?_)) | ((with_reducible refine is_un ?_); (refine At_plain hF (by (exact (rfl : _ = some (Value.bool _)))) ?_)) | with_reducible refine At_nil ?_)) | ((with_reducible refine is_At ?_); (first | with_reducible refine At_seq ?_; intro K hK | with_reducible refine At_region ?_ | with_reducible refine At_skip ?_ | with_reducible refine At_then_n ?_ | with_reducible refine At_go (by assumption) ?_ | ((with_reducible refine is_cond ?_); (refine At_cond_f rfl ?_))))))
  refine At_callK hF E20 rfl (arg1 (by (first | exact (rfl : _ = (Value.int _ _)) | exact (rfl : _ = (Value.bool _)) | exact (rfl : _ = (Value.pointer _)) | exact (rfl : _ = (Value.slice _ _ _)) | exact (rfl : _ = (Value.map _)) | exact (rfl : _ = (Value.func _ _ _)) | exact (rfl : _ = (Value.tuple _)) | exact (rfl : _ = (Value.agg _)) | exact (rfl : _ = (Value.string _)) | exact (rfl : _ = (Value.nilFunc)) | exact (rfl : _ = (Value.nilIface))))) (fun w hw => vio_lit (Kd.C_below hr0 hw.below) hc (vioF p).1 (vioF p).2.1 (vioF p).2.2 rfl) ?_
  rintro _ w hb1 ⟨A', c', rfl, hc', hCL⟩
  have hr := Kd.C_below hr0 hb1
  by_cases hbad : p.length < 2 ∨ p.length > 10 ∨ ¬ patOk p
  · have hv : vioF p = ([], false, 210) := by rw [vioF, if_pos hbad]
    rw [hv]
    (repeat (first | ((with_reducible refine is_AL ?_); (first | ((with_reducible refine is_guarded ?_); (refine At_guard_t rfl (by decide) rfl ?_)) | ((with_reducible refine is_move ?_); (refine At_plain hF (by (first | exact (rfl : _ = some (Value.int _ _)) | exact (rfl : _ = some (Value.bool _)) | exact (rfl : _ = some (Value.slice _ _ _)) | exact (rfl : _ = some (Value.tuple _)))) ?_)) | ((with_reducible refine is_bin ?_); (refine At_plain hF (by (exact (rfl : _ = some (Value.bool _)))) ?_)) | ((with_reducible refine is_assign ?_); (refine At_plain hF (by (first | exact (rfl : _ = some (Value.int _ _)) | exact (rfl : _ = some (Value.bool _)) | exact (rfl : _ = some (Value.slice _ _ _)))) ?_)) | ((with_reducible refine is_pick ?_); (refine At_plain hF (by (exact (rfl : _ = some (Value.bool _)))) ?_)) | ((with_reducible refine is_extract ?_); (refine At_plain hF (by (first | exact (rfl : _ = some (Value.int _ _)) | exact (rfl : _ = some (Value.bool _)) | exact (rfl : _ = some (Value.slice _ _ _)))) ?_)) | ((with_reducible refine is_un ?_); (refine At_plain hF (by (exact (rfl : _ = some (Value.bool _)))) ?_)) | ((with_reducible refine is_call ?_); (refine At_len hF rfl ?_)) | with_reducible refine At_nil ?_)) | ((with_reducible refine is_At ?_); (first | with_reducible refine At_seq ?_; intro K hK | with_reducible refine At_region ?_ | with_reducible refine At_ret ?_ | with_reducible refine At_then_n ?_ | with_reducible refine At_then_r ?_ | with_reducible refine At_go (by assumption) ?_ | ((with_reducible refine is_cond ?_); (refine At_cond_t rfl ?_))))))
    exact At_ret1 rfl (rv_tmp (by decide)) (fun w' hw' => ⟨_, rfl, rfl, hb1.trans (Below.mono hw'.below hb1.size)⟩)
  have hok : patOk p := Classical.byContradiction fun h => hbad (.inr (.inr h))
  have hn : p.length ≤ 10 := by omega
  have h2n : 2 ≤ p.length := by omega
  have hwa : IntKind.i64.wrap a = a := wrap64_in (by omega) (by omega)
  have hwb : IntKind.i64.wrap b = b := wrap64_in (by omega) (by omega)
  have he : (vioF p).2.2 = 0 := by
    rcases vio_found hbad with ⟨h, _⟩ | ⟨x, _, h⟩ <;> rw [h]
  rw [he]
  (repeat (first | ((with_reducible refine is_AL ?_); (first | ((with_reducible refine is_move ?_); (refine At_plain hF (by (first | exact (rfl : _ = some (Value.int _ _)) | exact (rfl : _ = some (Value.tuple _)))) ?_)) | ((with_reducible refine is_bin ?_); (refine At_plain hF (by (exact (rfl : _ = some (Value.bool _)))) ?_)) | ((with_reducible refine is_assign ?_); (refine At_plain hF (by (first | exact (rfl : _ = some (Value.int _ _)) | exact (rfl : _ = some (Value.bool _)) | exact (rfl : _ = some (Value.slice _ _ _)))) ?_)) | ((with_reducible refine is_extract ?_); (refine At_plain hF (by (first | exact (rfl : _ = some (Value.int _ _)) | exact (rfl : _ = some (Value.bool _)) | exact (rfl : _ = some (Value.slice _ _ _)))) ?_)) | with_reducible refine At_nil ?_)) | ((with_reducible refine is_At ?_); (first | with_reducible refine At_seq ?_; intro K hK | with_reducible refine At_region ?_ | with_reducible refine At_skip ?_ | with_reducible refine At_then_n ?_ | with_reducible refine At_go (by assumption) ?_ | ((with_reducible refine is_cond ?_); (refine At_cond_f rfl ?_))))))
  refine At_draw hF 12 (by kernel_rfl) (by decide +kernel) ?_; simp only [List.take_succ_cons, List.take_zero, List.drop_succ_cons, List.drop_zero]; (repeat ((with_reducible refine is_AQc ?_); refine AQ_cons (by intro K Q hK; (repeat ((with_reducible refine is_move ?_); (refine At_plain hF (by (exact (rfl : _ = some (Value.int _ _)))) ?_))); exact At_nilK hK) ?_))
  refine AQ_cons (by intro K Q hK; refine At_conv hF Try.underlying5 Try.underlying3 (by exact rfl) ?_; exact At_nilK hK) ?_
  rw [hwa]
  (repeat ((with_reducible refine is_AQc ?_); refine AQ_cons (by intro K Q hK; (repeat (first | ((with_reducible refine is_move ?_); (refine At_plain hF (by (first | exact (rfl : _ = some (Value.int _ _)) | exact (rfl : _ = some (Value.slice _ _ _)))) ?_)) | ((with_reducible refine is_bin ?_); ((with_reducible refine is_brem ?_); (refine At_rem hF rfl rfl (by omega) ?_))) | ((with_reducible refine is_call ?_); (refine At_len hF rfl ?_)))); exact At_nilK hK) ?_))
  refine AQ_cons (by intro K Q hK; refine At_conv hF Try.underlying5 Try.underlying3 (by exact rfl) ?_; exact At_nilK hK) ?_
  rw [hwb]
  (repeat ((with_reducible refine is_AQc ?_); refine AQ_cons (by intro K Q hK; (repeat (first | ((with_reducible refine is_move ?_); (refine At_plain hF (by (exact (rfl : _ = some (Value.slice _ _ _)))) ?_)) | ((with_reducible refine is_bin ?_); ((with_reducible refine is_brem ?_); (refine At_rem hF rfl rfl (by omega) ?_))) | ((with_reducible refine is_assign ?_); (refine At_plain hF (by (exact (rfl : _ = some (Value.int _ _)))) ?_)) | ((with_reducible refine is_call ?_); (refine At_len hF rfl ?_)))); exact At_nilK hK) ?_)); refine AQ_done ?_
  (repeat (first | ((with_reducible refine is_AL ?_); (with_reducible refine At_nil ?_)) | ((with_reducible refine is_At ?_); (first | with_reducible refine At_seq ?_; intro K hK | with_reducible refine At_then_n ?_ | with_reducible refine At_go (by assumption) ?_))))
  have hi0 : 0 ≤ a % (p.length : Int) := Int.emod_nonneg _ (by omega)
  have hi1 : a % (p.length : Int) < p.length := Int.emod_lt_of_pos _ (by omega)
  have hk0 : 0 ≤ b % (p.length : Int) := Int.emod_nonneg _ (by omega)
  have hk1 : b % (p.length : Int) < p.length := Int.emod_lt_of_pos _ (by omega)
  generalize a % (p.length : Int) = I at *
  generalize b % (p.length : Int) = J at *
  obtain ⟨i, rfl⟩ : ∃ i : Nat, I = i := ⟨I.toNat, by omega⟩
  obtain ⟨k, rfl⟩ : ∃ k : Nat, J = k := ⟨J.toNat, by omega⟩
  refine At_merge [(0, .slice A p.length c), (7, .slice A' (vioF p).1.length c'), (8, .bool (vioF p).2.1), (77, .bool false)] [] ?_ ?_
  · intro K' hK'
    refine At_draw hF 23 (by kernel_rfl) (by decide +kernel) ?_; simp only [List.take_succ_cons, List.take_zero, List.drop_succ_cons, List.drop_zero]; (repeat ((with_reducible refine is_AQc ?_); refine AQ_cons (by intro K Q hK; (repeat (first | ((with_reducible refine is_move ?_); (refine At_plain hF (by (first | exact (rfl : _ = some (Value.int _ _)) | exact (rfl : _ = some (Value.bool _)))) ?_)) | ((with_reducible refine is_bin ?_); (refine At_plain hF (by (exact (rfl : _ = some (Value.bool _)))) ?_)))); exact At_nilK hK) ?_))
    by_cases hik : i = k
    · have e : (((i : Nat) : Int) != ((k : Nat) : Int)) = false := by simp [hik]
      rw [e]
      (repeat ((with_reducible refine is_AQc ?_); refine AQ_cons (by intro K Q hK; (repeat (first | ((with_reducible refine is_guarded ?_); (first | refine At_guard_f hF rfl (by decide) rfl rfl ?_ | refine At_guard_u hF rfl (by decide) rfl ?_)) | ((with_reducible refine is_move ?_); (refine At_plain hF (by (exact (rfl : _ = some (Value.bool _)))) ?_)) | ((with_reducible refine is_pick ?_); (refine At_plain hF (by (exact (rfl : _ = some (Value.bool _)))) ?_)))); exact At_nilK hK) ?_)); refine AQ_done ?_
      (repeat (first | ((with_reducible refine is_AL ?_); (with_reducible refine At_nil ?_)) | ((with_reducible refine is_At ?_); (with_reducible refine At_then_n ?_))))
      refine At.sub (List.nil_sublist _) (hK' _ ?_)
      (repeat (first | exact True.intro | (refine And.intro ?_ ?_; focus (show _ = (_ : Value); first | exact rfl | (refine Eq.trans (b := Value.int IntKind.i64 _) rfl (congrArg (Value.int IntKind.i64) ?_); omega)))))
    · have e : (((i : Nat) : Int) != ((k : Nat) : Int)) = true := by simp; omega
      obtain ⟨adi, Ai, ci, hAi, hcelli, hci, hrowi⟩ := CL hr i (by omega)
      obtain ⟨adk, Ak, ck, hAk, hcellk, hck, hrowk⟩ := CL hr k (by omega)
      obtain rfl : adi = adk := by rw [hAi] at hAk; exact Option.some.inj hAk
      rw [e]
      (repeat ((with_reducible refine is_AQc ?_); refine AQ_cons (by intro K Q hK; (repeat (first | ((with_reducible refine is_guarded ?_); (refine At_guard_t rfl (by decide) rfl ?_)) | ((with_reducible refine is_move ?_); (refine At_plain hF (by (first | exact (rfl : _ = some (Value.int _ _)) | exact (rfl : _ = some (Value.slice _ _ _)))) ?_)) | ((with_reducible refine is_index ?_); (refine At_indexC1 hF rfl (by assumption) rfl rfl (by omega) ?_)))); exact At_nilK hK) ?_))
      refine AQ_cons (by intro K Q hK; refine At_guard_t rfl (by decide) rfl ?_; refine At_loadC hF (by exact rfl) hcelli ?_; exact At_nilK hK) ?_
      (repeat ((with_reducible refine is_AQc ?_); refine AQ_cons (by intro K Q hK; (repeat (first | ((with_reducible refine is_guarded ?_); (refine At_guard_t rfl (by decide) rfl ?_)) | ((with_reducible refine is_move ?_); (refine At_plain hF (by (first | exact (rfl : _ = some (Value.int _ _)) | exact (rfl : _ = some (Value.slice _ _ _)))) ?_)) | ((with_reducible refine is_index ?_); (refine At_indexC1 hF rfl (by assumption) rfl rfl (by omega) ?_)))); exact At_nilK hK) ?_))
      refine AQ_cons (by intro K Q hK; refine At_guard_t rfl (by decide) rfl ?_; refine At_loadC hF (by exact rfl) hcellk ?_; exact At_nilK hK) ?_
      refine AQ_cons (by intro K Q hK; refine At_guard_t rfl (by decide) rfl ?_; refine At_callB hF E17 rfl (arg2 (by (first | exact (rfl : _ = (Value.int _ _)) | exact (rfl : _ = (Value.bool _)) | exact (rfl : _ = (Value.pointer _)) | exact (rfl : _ = (Value.slice _ _ _)) | exact (rfl : _ = (Value.map _)) | exact (rfl : _ = (Value.func _ _ _)) | exact (rfl : _ = (Value.tuple _)) | exact (rfl : _ = (Value.agg _)) | exact (rfl : _ = (Value.string _)) | exact (rfl : _ = (Value.nilFunc)) | exact (rfl : _ = (Value.nilIface)))) (by (first | exact (rfl : _ = (Value.int _ _)) | exact (rfl : _ = (Value.bool _)) | exact (rfl : _ = (Value.pointer _)) | exact (rfl : _ = (Value.slice _ _ _)) | exact (rfl : _ = (Value.map _)) | exact (rfl : _ = (Value.func _ _ _)) | exact (rfl : _ = (Value.tuple _)) | exact (rfl : _ = (Value.agg _)) | exact (rfl : _ = (Value.string _)) | exact (rfl : _ = (Value.nilFunc)) | exact (rfl : _ = (Value.nilIface))))) (fun w' hw' => ints_rets w' (Kd.C_below hrowi hw'.below) hci (Kd.C_below hrowk hw'.below) hck) ?_; exact At_nilK hK) ?_
      by_cases hrow : p.getD i [] = p.getD k []
      · rw [decide_eq_true hrow]
        rcases vio_found hbad with ⟨hv, hno⟩ | ⟨x, hl, hv⟩
        · obtain ⟨y, h1, h2, _⟩ := same_rows hn (by omega) (by omega) hik hrow
          exact absurd h2 (hno y h1)
        · have hl2 := least_pair hn hl (by omega) (by omega) hik hrow
          have e1 : (vioF p).2.1 = true := by rw [hv]
          have e2 : (vioF p).1.length = 2 := by rw [hv]; exact hl2
          rw [e1, e2] at hK' ⊢
          (repeat ((with_reducible refine is_AQc ?_); refine AQ_cons (by intro K Q hK; (repeat (first | ((with_reducible refine is_guarded ?_); (refine At_guard_t rfl (by decide) rfl ?_)) | ((with_reducible refine is_move ?_); (refine At_plain hF (by (first | exact (rfl : _ = some (Value.bool _)) | exact (rfl : _ = some (Value.slice _ _ _)))) ?_)) | ((with_reducible refine is_bin ?_); (refine At_plain hF (by (exact (rfl : _ = some (Value.bool _)))) ?_)) | ((with_reducible refine is_pick ?_); (refine At_plain hF (by (exact (rfl : _ = some (Value.bool _)))) ?_)) | ((with_reducible refine is_un ?_); (refine At_plain hF (by (exact (rfl : _ = some (Value.bool _)))) ?_)) | ((with_reducible refine is_call ?_); (refine At_len hF rfl ?_)))); exact At_nilK hK) ?_)); refine AQ_done ?_
          (repeat (first | ((with_reducible refine is_AL ?_); (with_reducible refine At_nil ?_)) | ((with_reducible refine is_At ?_); (with_reducible refine At_then_n ?_))))
          refine At.sub (List.nil_sublist _) (hK' _ ?_)
          (repeat (first | exact True.intro | (refine And.intro ?_ ?_; focus (show _ = (_ : Value); first | exact rfl | (refine Eq.trans (b := Value.int IntKind.i64 _) rfl (congrArg (Value.int IntKind.i64) ?_); omega)))))
      · rw [decide_eq_false hrow]
        (repeat ((with_reducible refine is_AQc ?_); refine AQ_cons (by intro K Q hK; (repeat (first | ((with_reducible refine is_guarded ?_); (first | refine At_guard_f hF rfl (by decide) rfl rfl ?_ | refine At_guard_u hF rfl (by decide) rfl ?_)) | ((with_reducible refine is_move ?_); (refine At_plain hF (by (exact (rfl : _ = some (Value.bool _)))) ?_)) | ((with_reducible refine is_pick ?_); (refine At_plain hF (by (exact (rfl : _ = some (Value.bool _)))) ?_)))); exact At_nilK hK) ?_)); refine AQ_done ?_
        (repeat (first | ((with_reducible refine is_AL ?_); (with_reducible refine At_nil ?_)) | ((with_reducible refine is_At ?_); (with_reducible refine At_then_n ?_))))
        refine At.sub (List.nil_sublist _) (hK' _ ?_)
        (repeat (first | exact True.intro | (refine And.intro ?_ ?_; focus (show _ = (_ : Value); first | exact rfl | (refine Eq.trans (b := Value.int IntKind.i64 _) rfl (congrArg (Value.int IntKind.i64) ?_); omega)))))
  intro ρ0
  try dsimp only
  clear hwa hwb hi0 hi1 hk0 hk1
  rcases vio_found hbad with ⟨hv, _⟩ | ⟨x, hl, hv⟩
  · rw [hv]
    (repeat (first | ((with_reducible refine is_AL ?_); (first | ((with_reducible refine is_move ?_); (refine At_plain hF (by (first | exact (rfl : _ = some (Value.bool _)) | exact (rfl : _ = some (Value.slice _ _ _)))) ?_)) | ((with_reducible refine is_bin ?_); (refine At_plain hF (by (exact (rfl : _ = some (Value.bool _)))) ?_)) | ((with_reducible refine is_assign ?_); (refine At_plain hF (by (exact (rfl : _ = some (Value.bool _)))) ?_)) | ((with_reducible refine is_un ?_); (refine At_plain hF (by (exact (rfl : _ = some (Value.bool _)))) ?_)) | ((with_reducible refine is_call ?_); (refine At_len hF rfl ?_)) | with_reducible refine At_nil ?_)) | ((with_reducible refine is_At ?_); (first | with_reducible refine At_seq ?_; intro K hK | with_reducible refine At_region ?_ | with_reducible refine At_skip ?_ | with_reducible refine At_ret ?_ | with_reducible refine At_then_n ?_ | with_reducible refine At_then_r ?_ | with_reducible refine At_go (by assumption) ?_ | ((with_reducible refine is_cond ?_); (first | refine At_cond_t rfl ?_ | refine At_cond_f rfl ?_))))))
    exact At_ret1 rfl (rv_tmp (by decide)) (fun w' hw' => ⟨_, rfl, rfl, hb1.trans (Below.mono hw'.below hb1.size)⟩)
  rw [hv] at hc' hCL ⊢
  have f1 := least_2 hn hl
  have f2 := least_len hn hl
  have f3 := least_mem hn hl
  have f4 := least_inc hn hl
  have f5 := least_short hn hl
  have f6 := sk_erase hn hl
  have f7 := least_no hn hl
  clear hv hl
  dsimp only at hc' hCL ⊢
  generalize membs 10 x = L at *
  (repeat (first | ((with_reducible refine is_AL ?_); (first | ((with_reducible refine is_move ?_); (refine At_plain hF (by (first | exact (rfl : _ = some (Value.bool _)) | exact (rfl : _ = some (Value.slice _ _ _)))) ?_)) | ((with_reducible refine is_bin ?_); (refine At_plain hF (by (exact (rfl : _ = some (Value.bool _)))) ?_)) | ((with_reducible refine is_un ?_); (refine At_plain hF (by (exact (rfl : _ = some (Value.bool _)))) ?_)) | ((with_reducible refine is_call ?_); (refine At_len hF rfl ?_)) | with_reducible refine At_nil ?_)) | ((with_reducible refine is_At ?_); (first | with_reducible refine At_seq ?_; intro K hK | with_reducible refine At_region ?_ | with_reducible refine At_skip ?_ | with_reducible refine At_then_n ?_ | with_reducible refine At_go (by assumption) ?_ | ((with_reducible refine is_cond ?_); (refine At_cond_f rfl ?_))))))
  (repeat' (first | ((with_reducible refine is_AL ?_); (first | ((with_reducible refine is_guarded ?_); (refine At_guard_t rfl (by decide) rfl ?_)) | ((with_reducible refine is_move ?_); (refine At_plain hF (by (first | exact (rfl : _ = some (Value.int _ _)) | exact (rfl : _ = some (Value.slice _ _ _)))) ?_)) | ((with_reducible refine is_bin ?_); (refine At_plain hF (by (exact (rfl : _ = some (Value.bool _)))) ?_)) | ((with_reducible refine is_pick ?_); (refine At_plain hF (by (exact (rfl : _ = some (Value.bool _)))) ?_)) | ((with_reducible refine is_call ?_); (refine At_len hF rfl ?_)) | with_reducible refine At_nil ?_)) | ((with_reducible refine is_At ?_); (first | with_reducible refine At_seq ?_; intro K hK | with_reducible refine At_block ?_ | with_reducible refine At_region ?_ | with_reducible refine At_skip ?_ | with_reducible refine At_then_n ?_ | with_reducible refine At_go (by assumption) ?_)) | (first | ((with_reducible refine is_guarded ?_); (refine At_guard hF rfl (by decide) rfl ?_ ?_ <;> (intro hg; try (simp only [decide_eq_true_eq, decide_eq_false_iff_not, beq_iff_eq, bne_iff_ne, beq_eq_false_iff_ne, bne_eq_false_iff_eq, ne_eq, Bool.not_eq_true', Bool.not_eq_false', Bool.not_true, Bool.not_false, Decidable.not_not] at hg); try (exfalso; first | omega | exact hg True.intro)))) | ((with_reducible refine is_cond ?_); (refine At_cond rfl ?_ ?_ <;> (intro hg; try (simp only [decide_eq_true_eq, decide_eq_false_iff_not, beq_iff_eq, bne_iff_ne, beq_eq_false_iff_ne, bne_eq_false_iff_eq, ne_eq, Bool.not_eq_true', Bool.not_eq_false', Bool.not_true, Bool.not_false, Decidable.not_not] at hg); try (exfalso; first | omega | exact hg True.intro)))))))
  refine At_loop (fun j : Nat => [(0, .slice A p.length c), (7, .slice A' L.length c'), (93, .slice A' L.length c'), (94, .int .i64 L.length), (95, .int .i64 j)])
    (fun _ => []) (fun j => j ≤ L.length) (fun j => L.length - j) 0 ?_ ?_ (Nat.zero_le _) ?_
  · (repeat (first | exact List.Sublist.refl _ | exact List.Sublist.slnil | refine List.Sublist.cons_cons _ ?_ | refine List.Sublist.cons _ ?_))
  · (repeat (first | exact True.intro | (refine And.intro ?_ ?_; focus (show _ = (_ : Value); first | exact rfl | (refine Eq.trans (b := Value.int IntKind.i64 _) rfl (congrArg (Value.int IntKind.i64) ?_); omega)))))
  intro j hj K hL ρ1
  try dsimp only
  (repeat (first | ((with_reducible refine is_AL ?_); (first | ((with_reducible refine is_bin ?_); (refine At_plain hF (by (exact (rfl : _ = some (Value.bool _)))) ?_)) | with_reducible refine At_nil ?_)) | ((with_reducible refine is_At ?_); (first | with_reducible refine At_seq ?_; intro K hK | with_reducible refine At_region ?_ | with_reducible refine At_then_n ?_ | with_reducible refine At_go (by assumption) ?_))))
  ((with_reducible refine is_cond ?_); (refine At_cond rfl ?_ ?_ <;> (intro hg; try (simp only [decide_eq_true_eq, decide_eq_false_iff_not, beq_iff_eq, bne_iff_ne, beq_eq_false_iff_ne, bne_eq_false_iff_eq, ne_eq, Bool.not_eq_true', Bool.not_eq_false', Bool.not_true, Bool.not_false, Decidable.not_not] at hg); try (exfalso; first | omega | exact hg True.intro))))
  · have hlt : j < L.length := by omega
    obtain ⟨adl, hAl, hcell⟩ := CI hCL j hlt
    have hm := f3 _ (getD_mem' (d := (0 : Int)) hlt)
    (repeat (first | ((with_reducible refine is_AL ?_); (first | ((with_reducible refine is_move ?_); (refine At_plain hF (by (exact (rfl : _ = some (Value.int _ _)))) ?_)) | ((with_reducible refine is_index ?_); (refine At_indexC1 hF rfl (by assumption) rfl rfl (by omega) ?_)))) | ((with_reducible refine is_At ?_); (first | with_reducible refine At_seq ?_; intro K hK | with_reducible refine At_block ?_ | with_reducible refine At_region ?_ | with_reducible refine At_skip ?_ | with_reducible refine At_then_n ?_ | with_reducible refine At_go (by assumption) ?_))))
    refine At_loadC hF (by exact rfl) hcell ?_
    by_cases hj0 : j = 0
    · (repeat' (first | ((with_reducible refine is_AL ?_); (first | ((with_reducible refine is_guarded ?_); (first | refine At_guard_t rfl (by decide) rfl ?_ | refine At_guard_f hF rfl (by decide) rfl rfl ?_)) | ((with_reducible refine is_move ?_); (refine At_plain hF (by (first | exact (rfl : _ = some (Value.int _ _)) | exact (rfl : _ = some (Value.bool _)) | exact (rfl : _ = some (Value.slice _ _ _)))) ?_)) | ((with_reducible refine is_bin ?_); (first | ((with_reducible refine is_badd ?_); (refine At_add hF rfl rfl (by omega) ?_)) | refine At_plain hF (by (exact (rfl : _ = some (Value.bool _)))) ?_)) | ((with_reducible refine is_assign ?_); (refine At_plain hF (by (exact (rfl : _ = some (Value.int _ _)))) ?_)) | ((with_reducible refine is_pick ?_); (refine At_plain hF (by (exact (rfl : _ = some (Value.bool _)))) ?_)) | ((with_reducible refine is_call ?_); (refine At_len hF rfl ?_)) | with_reducible refine At_nil ?_)) | ((with_reducible refine is_At ?_); (first | with_reducible refine At_seq ?_; intro K hK | with_reducible refine At_region ?_ | with_reducible refine At_skip ?_ | with_reducible refine At_then_n ?_ | with_reducible refine At_inb_n ?_ | with_reducible refine At_go (by assumption) ?_ | ((with_reducible refine is_cond ?_); (refine At_cond_f rfl ?_)))) | ((with_reducible refine is_guarded ?_); (refine At_guard hF rfl (by decide) rfl ?_ ?_ <;> (intro hg; try (simp only [decide_eq_true_eq, decide_eq_false_iff_not, beq_iff_eq, bne_iff_ne, beq_eq_false_iff_ne, bne_eq_false_iff_eq, ne_eq, Bool.not_eq_true', Bool.not_eq_false', Bool.not_true, Bool.not_false, Decidable.not_not] at hg); try (exfalso; first | omega | exact hg True.intro))))))
      refine At.sub (List.nil_sublist _) (hL (j + 1) _ hlt (by omega) ?_)
      (repeat (first | exact True.intro | (refine And.intro ?_ ?_; focus (show _ = (_ : Value); first | exact rfl | (refine Eq.trans (b := Value.int IntKind.i64 _) rfl (congrArg (Value.int IntKind.i64) ?_); omega)))))
    · obtain ⟨adl2, hAl2, hcell2⟩ := CI hCL (j - 1) (by omega)
      obtain rfl : adl = adl2 := by rw [hAl] at hAl2; exact Option.some.inj hAl2
      rw [show j - 1 = ((j : Int) - 1).toNat by omega] at hcell2
      have hinc := f4 (j - 1) (by omega)
      rw [show j - 1 + 1 = j by omega, show j - 1 = ((j : Int) - 1).toNat by omega] at hinc
      (repeat' (first | ((with_reducible refine is_AL ?_); (first | ((with_reducible refine is_guarded ?_); (refine At_guard_t rfl (by decide) rfl ?_)) | ((with_reducible refine is_move ?_); (refine At_plain hF (by (first | exact (rfl : _ = some (Value.int _ _)) | exact (rfl : _ = some (Value.bool _)) | exact (rfl : _ = some (Value.slice _ _ _)))) ?_)) | ((with_reducible refine is_bin ?_); (first | ((with_reducible refine is_bsub ?_); (refine At_sub hF rfl rfl (by omega) ?_)) | refine At_plain hF (by (exact (rfl : _ = some (Value.bool _)))) ?_)) | ((with_reducible refine is_assign ?_); (refine At_plain hF (by (exact (rfl : _ = some (Value.int _ _)))) ?_)) | ((with_reducible refine is_pick ?_); (refine At_plain hF (by (exact (rfl : _ = some (Value.bool _)))) ?_)) | ((with_reducible refine is_call ?_); (refine At_len hF rfl ?_)) | ((with_reducible refine is_index ?_); (refine At_indexC1i hF rfl (by assumption) rfl rfl (by omega) (by omega) ?_)) | with_reducible refine At_nil ?_)) | ((with_reducible refine is_At ?_); (first | with_reducible refine At_seq ?_; intro K hK | with_reducible refine At_region ?_ | with_reducible refine At_then_n ?_ | with_reducible refine At_go (by assumption) ?_)) | ((with_reducible refine is_guarded ?_); (refine At_guard hF rfl (by decide) rfl ?_ ?_ <;> (intro hg; try (simp only [decide_eq_true_eq, decide_eq_false_iff_not, beq_iff_eq, bne_iff_ne, beq_eq_false_iff_ne, bne_eq_false_iff_eq, ne_eq, Bool.not_eq_true', Bool.not_eq_false', Bool.not_true, Bool.not_false, Decidable.not_not] at hg); try (exfalso; first | omega | exact hg True.intro))))))
      refine At_loadC hF (by exact rfl) hcell2 ?_
      (repeat' (first | ((with_reducible refine is_AL ?_); (first | ((with_reducible refine is_guarded ?_); (refine At_guard_t rfl (by decide) rfl ?_)) | ((with_reducible refine is_move ?_); (refine At_plain hF (by (exact (rfl : _ = some (Value.int _ _)))) ?_)) | ((with_reducible refine is_bin ?_); (first | ((with_reducible refine is_badd ?_); (refine At_add hF rfl rfl (by omega) ?_)) | refine At_plain hF (by (exact (rfl : _ = some (Value.bool _)))) ?_)) | ((with_reducible refine is_pick ?_); (refine At_plain hF (by (exact (rfl : _ = some (Value.bool _)))) ?_)) | with_reducible refine At_nil ?_)) | ((with_reducible refine is_At ?_); (first | with_reducible refine At_region ?_ | with_reducible refine At_skip ?_ | with_reducible refine At_then_n ?_ | with_reducible refine At_inb_n ?_ | with_reducible refine At_go (by assumption) ?_)) | ((with_reducible refine is_cond ?_); (refine At_cond rfl ?_ ?_ <;> (intro hg; try (simp only [decide_eq_true_eq, decide_eq_false_iff_not, beq_iff_eq, bne_iff_ne, beq_eq_false_iff_ne, bne_eq_false_iff_eq, ne_eq, Bool.not_eq_true', Bool.not_eq_false', Bool.not_true, Bool.not_false, Decidable.not_not] at hg); try (exfalso; first | omega | exact hg True.intro))))))
      refine At.sub (List.nil_sublist _) (hL (j + 1) _ hlt (by omega) ?_)
      (repeat (first | exact True.intro | (refine And.intro ?_ ?_; focus (show _ = (_ : Value); first | exact rfl | (refine Eq.trans (b := Value.int IntKind.i64 _) rfl (congrArg (Value.int IntKind.i64) ?_); omega)))))
  obtain rfl : j = L.length := by omega
  clear hL
  (repeat (first | ((with_reducible refine is_AL ?_); (first | ((with_reducible refine is_assign ?_); (refine At_plain hF (by (exact (rfl : _ = some (Value.int _ _)))) ?_)) | with_reducible refine At_nil ?_)) | ((with_reducible refine is_At ?_); (first | with_reducible refine At_seq ?_; intro K hK | with_reducible refine At_block ?_ | with_reducible refine At_region ?_ | with_reducible refine At_exit ?_ | with_reducible refine At_then_n ?_ | with_reducible refine At_then_e ?_ | with_reducible refine At_inb_e rfl ?_ | with_reducible refine At_go (by assumption) ?_))))
  refine At_loop (fun k : Nat => [(0, .slice A p.length c), (7, .slice A' L.length c'), (14, .int .i64 ((k : Int) - 1))])
    (fun _ => []) (fun k => k ≤ L.length + 1) (fun k => L.length + 1 - k) 0 ?_ ?_ (Nat.zero_le _) ?_
  · (repeat (first | exact List.Sublist.refl _ | exact List.Sublist.slnil | refine List.Sublist.cons_cons _ ?_ | refine List.Sublist.cons _ ?_))
  · (repeat (first | exact True.intro | (refine And.intro ?_ ?_; focus (show _ = (_ : Value); first | exact rfl | (refine Eq.trans (b := Value.int IntKind.i64 _) rfl (congrArg (Value.int IntKind.i64) ?_); omega)))))
  intro k hk K hL ρ2
  try dsimp only
  obtain ⟨s, hse⟩ : ∃ s : Int, s = (k : Int) - 1 := ⟨_, rfl⟩
  rw [← hse]
  (repeat (first | ((with_reducible refine is_AL ?_); (first | ((with_reducible refine is_move ?_); (refine At_plain hF (by (first | exact (rfl : _ = some (Value.int _ _)) | exact (rfl : _ = some (Value.slice _ _ _)))) ?_)) | ((with_reducible refine is_bin ?_); (refine At_plain hF (by (exact (rfl : _ = some (Value.bool _)))) ?_)) | ((with_reducible refine is_call ?_); (refine At_len hF rfl ?_)) | with_reducible refine At_nil ?_)) | ((with_reducible refine is_At ?_); (first | with_reducible refine At_seq ?_; intro K hK | with_reducible refine At_region ?_ | with_reducible refine At_then_n ?_ | with_reducible refine At_go (by assumption) ?_))))
  ((with_reducible refine is_cond ?_); (refine At_cond rfl ?_ ?_ <;> (intro hg; try (simp only [decide_eq_true_eq, decide_eq_false_iff_not, beq_iff_eq, bne_iff_ne, beq_eq_false_iff_ne, bne_eq_false_iff_eq, ne_eq, Bool.not_eq_true', Bool.not_eq_false', Bool.not_true, Bool.not_false, Decidable.not_not] at hg); try (exfalso; first | omega | exact hg True.intro))))
  · have hS1 : 1 ≤ (skL L s L.length).length := by
      rcases Nat.eq_zero_or_pos k with h | h
      · rw [show s = -1 by omega, skL_neg _ _ (Nat.le_refl _), List.take_length]; omega
      · have := f6 (k - 1) (by omega)
        rw [show ((k - 1 : Nat) : Int) = s by omega] at this; omega
    have hS2 := skL_len L s L.length
    have hS3 : ∀ x ∈ skL L s L.length, 0 ≤ x ∧ x < p.length := fun x hx => f3 x (skL_mem L s L.length (Nat.le_refl _) x hx)
    have hcond : (decide (2 * sumG p (skL L s L.length) (p.getD 0 []).length < ((skL L s L.length).length : Int) * (((skL L s L.length).length : Int) - 1)) != decide (s < 0)) = false := by
      rcases Nat.eq_zero_or_pos k with h | h
      · rw [show s = -1 by omega, decide_eq_true (p := (-1 : Int) < 0) (by decide)]
        rw [show (skL L (-1) L.length).length = L.length by rw [skL_neg _ _ (Nat.le_refl _), List.take_length], decide_eq_true f5]; rfl
      · have := f7 (k - 1) (by omega)
        rw [show ((k - 1 : Nat) : Int) = s by omega] at this
        rw [decide_eq_false this, decide_eq_false (by omega)]; rfl
    have hW : (p.getD 0 []).length ≤ 64 := (hok.2 _ (getD_mem' (by omega))).2.1
    refine At.newNil 3 1 (sc (Value.int .i64)) (fun _ => rfl) ?_
    (repeat (first | ((with_reducible refine is_AL ?_); (first | ((with_reducible refine is_move ?_); (refine At_plain hF (by (first | exact (rfl : _ = some (Value.int _ _)) | exact (rfl : _ = some (Value.slice _ _ _)))) ?_)) | ((with_reducible refine is_assign ?_); (refine At_plain hF (by (exact (rfl : _ = some (Value.slice _ _ _)))) ?_)) | ((with_reducible refine is_call ?_); (refine At_len hF rfl ?_)) | with_reducible refine At_nil ?_)) | ((with_reducible refine is_At ?_); (first | with_reducible refine At_seq ?_; intro K hK | with_reducible refine At_block ?_ | with_reducible refine At_region ?_ | with_reducible refine At_skip ?_ | with_reducible refine At_then_n ?_ | with_reducible refine At_go (by assumption) ?_))))
    refine At_loop (fun st : Nat × Option Nat × Nat => [(0, .slice A p.length c), (7, .slice A' L.length c'), (14, .int .i64 s), (15, rowV st.2.1 (skL L s st.1).length st.2.2), (128, .slice A' L.length c'), (129, .int .i64 L.length), (130, .int .i64 st.1)])
      (fun st => [.row 3 1 (sc (Value.int .i64)) st.2.1 st.2.2 (skL L s st.1)]) (fun st => st.1 ≤ L.length) (fun st => L.length - st.1) (0, none, 0) ?_ ?_ (Nat.zero_le _) ?_
    · (repeat (first | exact List.Sublist.refl _ | exact List.Sublist.slnil | refine List.Sublist.cons_cons _ ?_ | refine List.Sublist.cons _ ?_))
    · (repeat (first | exact True.intro | (refine And.intro ?_ ?_; focus (show _ = (_ : Value); first | exact rfl | (refine Eq.trans (b := Value.int IntKind.i64 _) rfl (congrArg (Value.int IntKind.i64) ?_); omega)))))
    rintro ⟨j, A2, c2⟩ hj K4 hL4 ρ3
    simp only at hj
    try dsimp only
    (repeat (first | ((with_reducible refine is_AL ?_); (first | ((with_reducible refine is_bin ?_); (refine At_plain hF (by (exact (rfl : _ = some (Value.bool _)))) ?_)) | with_reducible refine At_nil ?_)) | ((with_reducible refine is_At ?_); (first | with_reducible refine At_seq ?_; intro K hK | with_reducible refine At_region ?_ | with_reducible refine At_then_n ?_ | with_reducible refine At_go (by assumption) ?_))))
    ((with_reducible refine is_cond ?_); (refine At_cond rfl ?_ ?_ <;> (intro hg; try (simp only [decide_eq_true_eq, decide_eq_false_iff_not, beq_iff_eq, bne_iff_ne, beq_eq_false_iff_ne, bne_eq_false_iff_eq, ne_eq, Bool.not_eq_true', Bool.not_eq_false', Bool.not_true, Bool.not_false, Decidable.not_not] at hg); try (exfalso; first | omega | exact hg True.intro))))
    · have hlt : j < L.length := by omega
      obtain ⟨adl, hAl, hcell⟩ := CI hCL j hlt
      have hsk : skL L s (j + 1) = if (j : Int) = s then skL L s j else skL L s j ++ [L.getD j 0] := rfl
      have hkl := skL_len L s j
      (repeat (first | ((with_reducible refine is_AL ?_); (first | ((with_reducible refine is_move ?_); (refine At_plain hF (by (exact (rfl : _ = some (Value.int _ _)))) ?_)) | ((with_reducible refine is_index ?_); (refine At_indexC1 hF rfl (by assumption) rfl rfl (by omega) ?_)))) | ((with_reducible refine is_At ?_); (first | with_reducible refine At_seq ?_; intro K hK | with_reducible refine At_block ?_ | with_reducible refine At_region ?_ | with_reducible refine At_skip ?_ | with_reducible refine At_then_n ?_ | with_reducible refine At_go (by assumption) ?_))))
      refine At_loadC hF (by exact rfl) hcell ?_
      (repeat (first | ((with_reducible refine is_AL ?_); (first | ((with_reducible refine is_move ?_); (refine At_plain hF (by (exact (rfl : _ = some (Value.int _ _)))) ?_)) | ((with_reducible refine is_bin ?_); (refine At_plain hF (by (exact (rfl : _ = some (Value.bool _)))) ?_)) | ((with_reducible refine is_assign ?_); (refine At_plain hF (by (exact (rfl : _ = some (Value.int _ _)))) ?_)) | with_reducible refine At_nil ?_)) | ((with_reducible refine is_At ?_); (first | with_reducible refine At_seq ?_; intro K hK | with_reducible refine At_region ?_ | with_reducible refine At_then_n ?_ | with_reducible refine At_go (by assumption) ?_))))
      ((with_reducible refine is_cond ?_); (refine At_cond rfl ?_ ?_ <;> (intro hg; try (simp only [decide_eq_true_eq, decide_eq_false_iff_not, beq_iff_eq, bne_iff_ne, beq_eq_false_iff_ne, bne_eq_false_iff_eq, ne_eq, Bool.not_eq_true', Bool.not_eq_false', Bool.not_true, Bool.not_false, Decidable.not_not] at hg); try (exfalso; first | omega | exact hg True.intro))))
      · rw [if_neg (by omega)] at hsk
        ((repeat (first | ((with_reducible refine is_AL ?_); ((with_reducible refine is_move ?_); (refine At_plain hF (by (first | exact (rfl : _ = some (Value.int _ _)) | exact (rfl : _ = some (Value.slice _ _ _)))) ?_))) | ((with_reducible refine is_At ?_); (with_reducible refine At_region ?_)))); ((with_reducible refine is_bslice ?_); (refine At_slice1_1 hF (by decide) (by (exact (rfl : _ = (Value.int _ _)))) rfl ?_; intro bl)); (repeat (first | ((with_reducible refine is_AL ?_); ((with_reducible refine is_move ?_); (refine At_plain hF (by (first | exact (rfl : _ = some (Value.int _ _)) | exact (rfl : _ = some (Value.slice _ _ _)))) ?_))) | ((with_reducible refine is_At ?_); (with_reducible refine At_region ?_)))))
        refine At_append_1 hF 0 rfl rfl rfl rfl (x0 := L.getD j 0) rfl (by decide) (by simp [Value.one1]) (by simp only [TS.bytes]; omega) (by omega) ?_
        intro A3 c3
        rw [← hsk, show (skL L s j).length + 1 = (skL L s (j + 1)).length by rw [hsk]; simp]
        (repeat (first | ((with_reducible refine is_AL ?_); (first | ((with_reducible refine is_move ?_); (refine At_plain hF (by (exact (rfl : _ = some (Value.int _ _)))) ?_)) | ((with_reducible refine is_bin ?_); ((with_reducible refine is_badd ?_); (refine At_add hF rfl rfl (by omega) ?_))) | ((with_reducible refine is_assign ?_); (refine At_plain hF (by (exact (rfl : _ = some (Value.slice _ _ _)))) ?_)) | with_reducible refine At_nil ?_)) | ((with_reducible refine is_At ?_); (first | with_reducible refine At_region ?_ | with_reducible refine At_then_n ?_ | with_reducible refine At_inb_n ?_ | with_reducible refine At_go (by assumption) ?_))))
        refine At.sub ?_ (hL4 (j + 1, A3, c3) _ hlt (by simp only; omega) ?_)
        · (repeat (first | exact List.Sublist.refl _ | exact List.Sublist.slnil | refine List.Sublist.cons_cons _ ?_ | refine List.Sublist.cons _ ?_))
        · (repeat (first | exact True.intro | (refine And.intro ?_ ?_; focus (show _ = (_ : Value); first | exact rfl | (refine Eq.trans (b := Value.int IntKind.i64 _) rfl (congrArg (Value.int IntKind.i64) ?_); omega)))))
      · rw [if_pos (by omega)] at hsk
        rw [← hsk]
        (repeat (first | ((with_reducible refine is_AL ?_); (first | ((with_reducible refine is_move ?_); (refine At_plain hF (by (exact (rfl : _ = some (Value.int _ _)))) ?_)) | ((with_reducible refine is_bin ?_); ((with_reducible refine is_badd ?_); (refine At_add hF rfl rfl (by omega) ?_))) | with_reducible refine At_nil ?_)) | ((with_reducible refine is_At ?_); (first | with_reducible refine At_region ?_ | with_reducible refine At_skip ?_ | with_reducible refine At_then_n ?_ | with_reducible refine At_inb_n ?_ | with_reducible refine At_go (by assumption) ?_))))
        refine At.sub ?_ (hL4 (j + 1, A2, c2) _ hlt (by simp only; omega) ?_)
        · (repeat (first | exact List.Sublist.refl _ | exact List.Sublist.slnil | refine List.Sublist.cons_cons _ ?_ | refine List.Sublist.cons _ ?_))
        · (repeat (first | exact True.intro | (refine And.intro ?_ ?_; focus (show _ = (_ : Value); first | exact rfl | (refine Eq.trans (b := Value.int IntKind.i64 _) rfl (congrArg (Value.int IntKind.i64) ?_); omega)))))
    obtain rfl : j = L.length := by omega
    clear hL4
    generalize skL L s L.length = S at *
    refine At_open 0 rfl (by omega) ?_
    rintro b2 junk rfl hj1 hj2 hj3
    simp only [List.set_cons_zero]
    obtain ⟨ad0, A0, c0, hA0, hcell0, hc0, hrow0⟩ := CL hr 0 (by omega)
    (repeat (first | ((with_reducible refine is_AL ?_); (first | ((with_reducible refine is_move ?_); (refine At_plain hF (by (exact (rfl : _ = some (Value.slice _ _ _)))) ?_)) | ((with_reducible refine is_assign ?_); (refine At_plain hF (by (exact (rfl : _ = some (Value.int _ _)))) ?_)) | ((with_reducible refine is_index ?_); (refine At_indexC1i hF rfl (by assumption) rfl rfl (by omega) (by omega) ?_)) | with_reducible refine At_nil ?_)) | ((with_reducible refine is_At ?_); (first | with_reducible refine At_seq ?_; intro K hK | with_reducible refine At_region ?_ | with_reducible refine At_exit ?_ | with_reducible refine At_then_n ?_ | with_reducible refine At_then_e ?_ | with_reducible refine At_inb_e rfl ?_ | with_reducible refine At_go (by assumption) ?_))))
    refine At_loadC hF (by exact rfl) hcell0 ?_
    (repeat (first | ((with_reducible refine is_AL ?_); (first | ((with_reducible refine is_move ?_); (refine At_plain hF (by (exact (rfl : _ = some (Value.int _ _)))) ?_)) | ((with_reducible refine is_call ?_); (refine At_len hF rfl ?_)) | with_reducible refine At_nil ?_)) | ((with_reducible refine is_At ?_); (first | with_reducible refine At_block ?_ | with_reducible refine At_then_n ?_ | with_reducible refine At_go (by assumption) ?_))))
    refine At_loop (fun r : Nat => [(0, .slice A p.length c), (7, .slice A' L.length c'), (14, .int .i64 s), (15, .slice (some ⟨b2, 0, none⟩) S.length c2), (18, .int .i64 (sumG p S r)), (146, .int .i64 (p.getD 0 []).length), (147, .int .i64 r)])
      (fun _ => [.obj b2 (.cells (buf (sc (Value.int .i64)) S junk) 3 (0, 0))]) (fun r => r ≤ (p.getD 0 []).length) (fun r => (p.getD 0 []).length - r) 0 ?_ ?_ (Nat.zero_le _) ?_
    · (repeat (first | exact List.Sublist.refl _ | exact List.Sublist.slnil | refine List.Sublist.cons_cons _ ?_ | refine List.Sublist.cons _ ?_))
    · (repeat (first | exact True.intro | (refine And.intro ?_ ?_; focus (show _ = (_ : Value); first | exact rfl | (refine Eq.trans (b := Value.int IntKind.i64 _) rfl (congrArg (Value.int IntKind.i64) ?_); omega)))))
    intro r hr1 K6 hL6 ρ4
    try dsimp only
    (repeat (first | ((with_reducible refine is_AL ?_); (first | ((with_reducible refine is_bin ?_); (refine At_plain hF (by (exact (rfl : _ = some (Value.bool _)))) ?_)) | with_reducible refine At_nil ?_)) | ((with_reducible refine is_At ?_); (first | with_reducible refine At_seq ?_; intro K hK | with_reducible refine At_region ?_ | with_reducible refine At_then_n ?_ | with_reducible refine At_go (by assumption) ?_))))
    ((with_reducible refine is_cond ?_); (refine At_cond rfl ?_ ?_ <;> (intro hg; try (simp only [decide_eq_true_eq, decide_eq_false_iff_not, beq_iff_eq, bne_iff_ne, beq_eq_false_iff_ne, bne_eq_false_iff_eq, ne_eq, Bool.not_eq_true', Bool.not_eq_false', Bool.not_true, Bool.not_false, Decidable.not_not] at hg); try (exfalso; first | omega | exact hg True.intro))))
    · have hlt : r < (p.getD 0 []).length := by omega
      (repeat (first | ((with_reducible refine is_AL ?_); (first | ((with_reducible refine is_move ?_); (refine At_plain hF (by (first | exact (rfl : _ = some (Value.int _ _)) | exact (rfl : _ = some (Value.slice _ _ _)))) ?_)) | ((with_reducible refine is_assign ?_); (refine At_plain hF (by (exact (rfl : _ = some (Value.int _ _)))) ?_)) | ((with_reducible refine is_call ?_); (refine At_len hF rfl ?_)) | with_reducible refine At_nil ?_)) | ((with_reducible refine is_At ?_); (first | with_reducible refine At_seq ?_; intro K hK | with_reducible refine At_block ?_ | with_reducible refine At_region ?_ | with_reducible refine At_skip ?_ | with_reducible refine At_then_n ?_ | with_reducible refine At_go (by assumption) ?_))))
      refine At_loop (fun i : Nat => [(0, .slice A p.length c), (7, .slice A' L.length c'), (14, .int .i64 s), (15, .slice (some ⟨b2, 0, none⟩) S.length c2), (18, .int .i64 (sumG p S r)), (146, .int .i64 (p.getD 0 []).length), (147, .int .i64 r), (19, .int .i64 r), (20, .int .i64 (cntV p (S.take i) r 1)), (21, .int .i64 (cntV p (S.take i) r (-1))), (150, .slice (some ⟨b2, 0, none⟩) S.length c2), (151, .int .i64 S.length), (152, .int .i64 i)])
        (fun _ => [.obj b2 (.cells (buf (sc (Value.int .i64)) S junk) 3 (0, 0))]) (fun i => i ≤ S.length) (fun i => S.length - i) 0 ?_ ?_ (Nat.zero_le _) ?_
      · (repeat (first | exact List.Sublist.refl _ | exact List.Sublist.slnil | refine List.Sublist.cons_cons _ ?_ | refine List.Sublist.cons _ ?_))
      · (repeat (first | exact True.intro | (refine And.intro ?_ ?_; focus (show _ = (_ : Value); first | exact rfl | (refine Eq.trans (b := Value.int IntKind.i64 _) rfl (congrArg (Value.int IntKind.i64) ?_); omega)))))
      intro i hi K8 hL8 ρ5
      try dsimp only
      (repeat (first | ((with_reducible refine is_AL ?_); (first | ((with_reducible refine is_bin ?_); (refine At_plain hF (by (exact (rfl : _ = some (Value.bool _)))) ?_)) | with_reducible refine At_nil ?_)) | ((with_reducible refine is_At ?_); (first | with_reducible refine At_seq ?_; intro K hK | with_reducible refine At_region ?_ | with_reducible refine At_then_n ?_ | with_reducible refine At_go (by assumption) ?_))))
      ((with_reducible refine is_cond ?_); (refine At_cond rfl ?_ ?_ <;> (intro hg; try (simp only [decide_eq_true_eq, decide_eq_false_iff_not, beq_iff_eq, bne_iff_ne, beq_eq_false_iff_ne, bne_eq_false_iff_eq, ne_eq, Bool.not_eq_true', Bool.not_eq_false', Bool.not_true, Bool.not_false, Decidable.not_not] at hg); try (exfalso; first | omega | exact hg True.intro))))
      · have hlt2 : i < S.length := by omega
        have ht := hS3 _ (getD_mem' (d := (0 : Int)) hlt2)
        have hb1 : cntV p (S.take i) r 1 ≤ 10 := by
          have := cntV_bd p (S.take i) r 1
          rw [List.length_take] at this; omega
        have hb2 : cntV p (S.take i) r (-1) ≤ 10 := by
          have := cntV_bd p (S.take i) r (-1)
          rw [List.length_take] at this; omega
        have hs1 := cntV_succ p S i r 1 hlt2
        have hs2 := cntV_succ p S i r (-1) hlt2
        obtain ⟨adp, A9, c9, hA9, hcell9, hc9, hrow9⟩ := CL hr (S.getD i 0).toNat (by omega)
        obtain rfl : ad0 = adp := by rw [hA0] at hA9; exact Option.some.inj hA9
        clear hA9
        have hrk := hok.2 _ (getD_mem' (l := p) (k := (S.getD i 0).toNat) (d := ([] : List Int)) (by omega))
        have hv := hrk.2.2 _ (getD_mem' (d := (0 : Int)) (k := r) (by rw [hrk.1]; exact hlt))
        obtain ⟨adr, hAr, hcellr⟩ := CI hrow9 r (by rw [hrk.1]; exact hlt)
        have hlen := hrk.1
        have hm1 := vmax0 hv
        have hm2 := vmin0 hv
        have hs1' : (cntV p (S.take (i + 1)) r 1 : Int) = cntV p (S.take i) r 1 + max 0 ((p.getD (S.getD i 0).toNat []).getD r 0) := by
          rw [hs1, hm1]; split <;> simp
        have hs2' : (cntV p (S.take (i + 1)) r (-1) : Int) = cntV p (S.take i) r (-1) - min 0 ((p.getD (S.getD i 0).toNat []).getD r 0) := by
          rw [hs2, hm2]; split <;> simp
        clear hm1 hm2 hs1 hs2
        generalize (p.getD (S.getD i 0).toNat []).getD r 0 = v at *
        generalize (p.getD (S.getD i 0).toNat []).length = w1 at *
        have ht2 : 0 ≤ S.getD i default ∧ S.getD i default < p.length := ht
        have hcell9' : w.cell? (ad0.add (S.getD i default).toNat) = some (Value.slice A9 w1 c9) := hcell9
        clear hcell9 ht
        (repeat (first | ((with_reducible refine is_AL ?_); (first | ((with_reducible refine is_move ?_); (refine At_plain hF (by (first | exact (rfl : _ = some (Value.int _ _)) | exact (rfl : _ = some (Value.slice _ _ _)))) ?_)) | ((with_reducible refine is_assign ?_); (refine At_plain hF (by (exact (rfl : _ = some (Value.int _ _)))) ?_)) | ((with_reducible refine is_load ?_); (refine At_load hF 0 (by exact rfl) rfl (by (exact buf_getI _ (by omega))) ?_)) | ((with_reducible refine is_index ?_); (first | refine At_indexS1 hF rfl rfl rfl (by omega) ?_ | refine At_indexC1i hF rfl (by assumption) rfl rfl (by omega) (by omega) ?_)) | with_reducible refine At_nil ?_)) | ((with_reducible refine is_At ?_); (first | with_reducible refine At_seq ?_; intro K hK | with_reducible refine At_block ?_ | with_reducible refine At_region ?_ | with_reducible refine At_skip ?_ | with_reducible refine At_then_n ?_ | with_reducible refine At_go (by assumption) ?_))))
        refine At_loadC hF (by exact rfl) hcell9' ?_
        (repeat ((with_reducible refine is_AL ?_); (first | ((with_reducible refine is_move ?_); (refine At_plain hF (by (exact (rfl : _ = some (Value.int _ _)))) ?_)) | ((with_reducible refine is_index ?_); (refine At_indexC1 hF rfl (by assumption) rfl rfl (by omega) ?_)))))
        refine At_loadC hF (by exact rfl) hcellr ?_
        (repeat (first | ((with_reducible refine is_AL ?_); (first | ((with_reducible refine is_move ?_); (refine At_plain hF (by (first | exact (rfl : _ = some (Value.int _ _)) | exact (rfl : _ = some (Value.slice _ _ _)))) ?_)) | ((with_reducible refine is_bin ?_); ((with_reducible refine is_badd ?_); (refine At_add hF rfl rfl (by omega) ?_))) | ((with_reducible refine is_assign ?_); (refine At_plain hF (by (exact (rfl : _ = some (Value.int _ _)))) ?_)) | ((with_reducible refine is_call ?_); (refine At_max hF rfl rfl ?_)) | ((with_reducible refine is_index ?_); (refine At_indexC1i hF rfl (by assumption) rfl rfl (by omega) (by omega) ?_)) | with_reducible refine At_nil ?_)) | ((with_reducible refine is_At ?_); (first | with_reducible refine At_region ?_ | with_reducible refine At_then_n ?_ | with_reducible refine At_go (by assumption) ?_))))
        refine At_loadC hF (by exact rfl) hcell9' ?_
        (repeat ((with_reducible refine is_AL ?_); (first | ((with_reducible refine is_move ?_); (refine At_plain hF (by (exact (rfl : _ = some (Value.int _ _)))) ?_)) | ((with_reducible refine is_index ?_); (refine At_indexC1 hF rfl (by assumption) rfl rfl (by omega) ?_)))))
        refine At_loadC hF (by exact rfl) hcellr ?_
        (repeat (first | ((with_reducible refine is_AL ?_); (first | ((with_reducible refine is_move ?_); (refine At_plain hF (by (exact (rfl : _ = some (Value.int _ _)))) ?_)) | ((with_reducible refine is_bin ?_); (first | ((with_reducible refine is_badd ?_); (refine At_add hF rfl rfl (by omega) ?_)) | ((with_reducible refine is_bsub ?_); (refine At_sub hF rfl rfl (by omega) ?_)))) | ((with_reducible refine is_assign ?_); (refine At_plain hF (by (exact (rfl : _ = some (Value.int _ _)))) ?_)) | ((with_reducible refine is_call ?_); (refine At_min hF rfl rfl ?_)) | with_reducible refine At_nil ?_)) | ((with_reducible refine is_At ?_); (first | with_reducible refine At_region ?_ | with_reducible refine At_then_n ?_ | with_reducible refine At_inb_n ?_ | with_reducible refine At_go (by assumption) ?_))))
        refine At.sub ?_ (hL8 (i + 1) _ hlt2 (by omega) ?_)
        · (repeat (first | exact List.Sublist.refl _ | exact List.Sublist.slnil | refine List.Sublist.cons_cons _ ?_ | refine List.Sublist.cons _ ?_))
        · (repeat (first | exact True.intro | (refine And.intro ?_ ?_; focus (show _ = (_ : Value); first | exact rfl | (refine Eq.trans (b := Value.int IntKind.i64 _) rfl (congrArg (Value.int IntKind.i64) ?_); omega)))))
      obtain rfl : i = S.length := by omega
      clear hL8
      have hb1 := cntV_bd p S r 1
      have hb2 := cntV_bd p S r (-1)
      have hsb := sumG_bd p S r
      have hsb2 : (r : Int) * S.length ≤ 64 * 10 := Int.mul_le_mul (by omega) (by omega) (by omega) (by omega)
      have hsn : sumG p S (r + 1) = sumG p S r + min (cntV p S r 1 : Int) (cntV p S r (-1)) := rfl
      rw [List.take_length]
      (repeat (first | ((with_reducible refine is_AL ?_); (first | ((with_reducible refine is_move ?_); (refine At_plain hF (by (exact (rfl : _ = some (Value.int _ _)))) ?_)) | ((with_reducible refine is_bin ?_); ((with_reducible refine is_badd ?_); (refine At_add hF rfl rfl (by omega) ?_))) | ((with_reducible refine is_assign ?_); (refine At_plain hF (by (exact (rfl : _ = some (Value.int _ _)))) ?_)) | ((with_reducible refine is_call ?_); (refine At_min hF rfl rfl ?_)) | with_reducible refine At_nil ?_)) | ((with_reducible refine is_At ?_); (first | with_reducible refine At_region ?_ | with_reducible refine At_exit ?_ | with_reducible refine At_then_n ?_ | with_reducible refine At_then_e ?_ | with_reducible refine At_inb_n ?_ | with_reducible refine At_inb_e rfl ?_ | with_reducible refine At_go (by assumption) ?_))))
      refine At.sub ?_ (hL6 (r + 1) _ hlt (by omega) ?_)
      · (repeat (first | exact List.Sublist.refl _ | exact List.Sublist.slnil | refine List.Sublist.cons_cons _ ?_ | refine List.Sublist.cons _ ?_))
      · (repeat (first | exact True.intro | (refine And.intro ?_ ?_; focus (show _ = (_ : Value); first | exact rfl | (refine Eq.trans (b := Value.int IntKind.i64 _) rfl (congrArg (Value.int IntKind.i64) ?_); omega)))))
    obtain rfl : r = (p.getD 0 []).length := by omega
    clear hL6
    have hsb := sumG_bd p S (p.getD 0 []).length
    have hsb2 : ((p.getD 0 []).length : Int) * S.length ≤ 64 * 10 := Int.mul_le_mul (by omega) (by omega) (by omega) (by omega)
    have hsb3 : 0 ≤ (S.length : Int) * ((S.length : Int) - 1) ∧ (S.length : Int) * ((S.length : Int) - 1) ≤ 10 * 10 := ⟨Int.mul_nonneg (by omega) (by omega), Int.mul_le_mul (by omega) (by omega) (by omega) (by omega)⟩
    (repeat (first | ((with_reducible refine is_AL ?_); (first | ((with_reducible refine is_move ?_); (refine At_plain hF (by (first | exact (rfl : _ = some (Value.int _ _)) | exact (rfl : _ = some (Value.bool _)) | exact (rfl : _ = some (Value.slice _ _ _)))) ?_)) | ((with_reducible refine is_bin ?_); (first | ((with_reducible refine is_bsub ?_); (refine At_sub hF rfl rfl (by omega) ?_)) | ((with_reducible refine is_bmul ?_); (refine At_mul hF rfl rfl (by omega) ?_)) | refine At_plain hF (by (exact (rfl : _ = some (Value.bool _)))) ?_ | refine At_neB hF (by kernel_rfl) rfl rfl ?_)) | ((with_reducible refine is_assign ?_); (refine At_plain hF (by (exact (rfl : _ = some (Value.bool _)))) ?_)) | ((with_reducible refine is_call ?_); (refine At_len hF rfl ?_)) | with_reducible refine At_nil ?_)) | ((with_reducible refine is_At ?_); (first | with_reducible refine At_seq ?_; intro K hK | with_reducible refine At_region ?_ | with_reducible refine At_exit ?_ | with_reducible refine At_then_n ?_ | with_reducible refine At_then_e ?_ | with_reducible refine At_inb_e rfl ?_ | with_reducible refine At_go (by assumption) ?_))))
    rw [hcond]
    (repeat (first | ((with_reducible refine is_AL ?_); (first | ((with_reducible refine is_move ?_); (refine At_plain hF (by (exact (rfl : _ = some (Value.int _ _)))) ?_)) | ((with_reducible refine is_bin ?_); ((with_reducible refine is_badd ?_); (refine At_add hF rfl rfl (by omega) ?_))) | ((with_reducible refine is_assign ?_); (refine At_plain hF (by (exact (rfl : _ = some (Value.int _ _)))) ?_)) | with_reducible refine At_nil ?_)) | ((with_reducible refine is_At ?_); (first | with_reducible refine At_region ?_ | with_reducible refine At_skip ?_ | with_reducible refine At_then_n ?_ | with_reducible refine At_inb_n ?_ | with_reducible refine At_go (by assumption) ?_ | ((with_reducible refine is_cond ?_); (refine At_cond_f rfl ?_))))))
    refine At.sub (List.nil_sublist _) (hL (k + 1) _ (by omega) (by omega) ?_)
    (repeat (first | exact True.intro | (refine And.intro ?_ ?_; focus (show _ = (_ : Value); first | exact rfl | (refine Eq.trans (b := Value.int IntKind.i64 _) rfl (congrArg (Value.int IntKind.i64) ?_); omega)))))
  obtain rfl : k = L.length + 1 := by omega
  (repeat (first | ((with_reducible refine is_AL ?_); (first | ((with_reducible refine is_assign ?_); (refine At_plain hF (by (exact (rfl : _ = some (Value.bool _)))) ?_)) | with_reducible refine At_nil ?_)) | ((with_reducible refine is_At ?_); (first | with_reducible refine At_seq ?_; intro K hK | with_reducible refine At_region ?_ | with_reducible refine At_ret ?_ | with_reducible refine At_exit ?_ | with_reducible refine At_then_n ?_ | with_reducible refine At_then_e ?_ | with_reducible refine At_inb_e rfl ?_ | with_reducible refine At_go (by assumption) ?_))))
  exact At_ret1 rfl (rv_tmp (by decide)) (fun w' hw' => ⟨_, rfl, rfl, hb1.trans (Below.mono hw'.below hb1.size)⟩)
end Go.Proofs.Ytecgklfcblpkdaa.P

/- PatternsShort: the law's contract. -/
namespace Go.Proofs.Ytecgklfcblpkdaa.P
open Go.RowKit Go.Proofs.YtecgklfcblpkdaaW.PrintWords Go.Proofs.YtecgklfcblpkdaaW.PrintLast Go.Proofs.YtecgklfcblpkdaaW.PrintMore
open XW
theorem u8_in {a : Int} (h : (Lit.int .u8 a).wf = true) : 0 ≤ a ∧ a ≤ 255 := by
  simp only [Lit.wf, Bool.and_eq_true, decide_eq_true_eq] at h
  exact h
theorem law_PatternsShort.calls (A : Option Addr) (c : Nat) (p : List (List Int)) (a b : Int) (r : Bool) (w : World) (hr : Kd.C KL w A p.length p) (hc : p.length ≤ c) (h : r = true ∧ (Lit.int .u8 a).wf = true ∧ (Lit.int .u8 b).wf = true) :
    Calls Try.prog 7 #[.slice A p.length c, .int .u8 a, .int .u8 b] w fun e w' => e = .returned (.bool r) ∧ Below w.heap.size w w' := by
  obtain ⟨rfl, ha, hb⟩ := h
  exact (short_law A c p a b w hr hc (u8_in ha) (u8_in hb)).mono (by rintro e w' ⟨u, rfl, rfl, hb⟩; exact ⟨rfl, hb⟩)
end Go.Proofs.Ytecgklfcblpkdaa.P
