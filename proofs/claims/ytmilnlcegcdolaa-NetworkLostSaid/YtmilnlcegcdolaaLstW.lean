/- NetworkLost returns true. -/
import Derived.Test.YtmilnlcegcdolaaSaneW
import Derived.Test.YtmilnlcegcdolaaNetQ
import Derived.Test.YtmilnlcegcdolaaXMergeB
import Derived.Test.YtmilnlcegcdolaaXStr
namespace Go.Proofs.Ytmilnlcegcdolaa.P
open Go.RowKit Go.Proofs.YtmilnlcegcdolaaW.PrintWords
open XW RegInv
attribute [local irreducible] Addr.add
set_option linter.unusedSimpArgs false
set_option linter.unusedVariables false

abbrev nb (b : Nat) (A : Option Addr) (c : Nat) (B : Option Addr) (d : Nat) (q : List PKT) (a : List (Int × Int)) : Res := .obj b (.cells #[.slice A q.length c, .slice B a.length d] 25)
set_option maxHeartbeats 8000000 in
set_option maxRecDepth 20000 in
theorem netLost_rets (N : NET) (at0 : Int) (h0 : 0 ≤ at0 ∧ at0 ≤ 18446744073709551615) (w : World) (h : N.ok w) : Rets Try.prog 8 #[N.v, .int .u64 at0] w fun u w' => u = .bool true ∧ Below w.heap.size w w' := by
  have hF := wide_wide
  have hmx : N.q.length ≤ 9223372036854775807 := Nat.le_trans h.q.2.1 (by decide)
  refine rets_at (n := 113) Try.func8 rfl Try.ntmps8 (by simp) ?_
  rw [show N.v = .agg #[.slice N.A N.q.length N.c, .slice N.B N.a.length N.d] from rfl]
  ((repeat (first | ((with_reducible refine is_AL ?_); (first | ((with_reducible refine is_assign ?_); (refine At_plain hF (by (exact (rfl : _ = some (Value.bool _)))) ?_)) | with_reducible refine At_nil ?_)) | ((with_reducible refine is_At ?_); (first | with_reducible refine At_seq ?_; intro K hK | with_reducible refine At_region ?_ | with_reducible refine At_then_n ?_ | with_reducible refine At_go (by assumption) ?_)))); ((with_reducible refine is_box ?_); (refine At_boxA hF rfl ?_; intro b2)); (repeat (first | ((with_reducible refine is_AL ?_); (first | ((with_reducible refine is_assign ?_); (refine At_plain hF (by (exact (rfl : _ = some (Value.bool _)))) ?_)) | with_reducible refine At_nil ?_)) | ((with_reducible refine is_At ?_); (first | with_reducible refine At_seq ?_; intro K hK | with_reducible refine At_region ?_ | with_reducible refine At_then_n ?_ | with_reducible refine At_go (by assumption) ?_)))))
  refine At_callB hF E9 rfl (vs := #[]) (by simp) (fun w' hw' => sane_rets w') ?_
  (repeat (first | ((with_reducible refine is_AL ?_); (first | ((with_reducible refine is_un ?_); (refine At_plain hF (by (exact (rfl : _ = some (Value.bool _)))) ?_)) | ((with_reducible refine is_load ?_); (refine At_loadB hF 0 rfl rfl rfl ?_)) | with_reducible refine At_nil ?_)) | ((with_reducible refine is_At ?_); (first | with_reducible refine At_seq ?_; intro K hK | with_reducible refine At_region ?_ | with_reducible refine At_skip ?_ | with_reducible refine At_then_n ?_ | with_reducible refine At_go (by assumption) ?_ | ((with_reducible refine is_cond ?_); (refine At_cond_f rfl ?_))))))
  refine At_callB hF E10 rfl (arg1 (by (first | exact (rfl : _ = (Value.int _ _)) | exact (rfl : _ = (Value.bool _)) | exact (rfl : _ = (Value.pointer _)) | exact (rfl : _ = (Value.slice _ _ _)) | exact (rfl : _ = (Value.map _)) | exact (rfl : _ = (Value.func _ _ _)) | exact (rfl : _ = (Value.tuple _)) | exact (rfl : _ = (Value.agg _)) | exact (rfl : _ = (Value.string _)) | exact (rfl : _ = (Value.nilFunc)) | exact (rfl : _ = (Value.nilIface))))) (fun w' hw' => few_rets N w') ?_
  have hfew := few_q (N := N)
  generalize fewB N = fb at *
  cases fb with
  | false =>
    (repeat (first | ((with_reducible refine is_AL ?_); (first | ((with_reducible refine is_guarded ?_); (refine At_guard_f hF rfl (by decide) rfl rfl ?_)) | ((with_reducible refine is_move ?_); (refine At_plain hF (by (exact (rfl : _ = some (Value.bool _)))) ?_)) | ((with_reducible refine is_assign ?_); (refine At_plain hF (by (exact (rfl : _ = some (Value.bool _)))) ?_)) | ((with_reducible refine is_pick ?_); (refine At_plain hF (by (exact (rfl : _ = some (Value.bool _)))) ?_)) | ((with_reducible refine is_un ?_); (refine At_plain hF (by (exact (rfl : _ = some (Value.bool _)))) ?_)) | with_reducible refine At_nil ?_)) | ((with_reducible refine is_At ?_); (first | with_reducible refine At_seq ?_; intro K hK | with_reducible refine At_region ?_ | with_reducible refine At_ret ?_ | with_reducible refine At_then_n ?_ | with_reducible refine At_then_r ?_ | with_reducible refine At_go (by assumption) ?_ | ((with_reducible refine is_cond ?_); (refine At_cond_t rfl ?_))))))
    exact At_ret1 rfl (rv_tmp (by decide)) (fun w' hw' => ⟨_, rfl, rfl, hw'.below⟩)
  | true =>
    have hfew := hfew rfl
    (repeat ((with_reducible refine is_AL ?_); (first | ((with_reducible refine is_guarded ?_); (refine At_guard_t rfl (by decide) rfl ?_)) | ((with_reducible refine is_move ?_); (refine At_plain hF (by (exact (rfl : _ = some (Value.bool _)))) ?_)) | ((with_reducible refine is_un ?_); (refine At_plain hF (by (exact (rfl : _ = some (Value.bool _)))) ?_)) | ((with_reducible refine is_load ?_); (refine At_loadB hF 0 rfl rfl rfl ?_)))))
    refine At_callB hF E13 rfl (arg1 (by (first | exact (rfl : _ = (Value.int _ _)) | exact (rfl : _ = (Value.bool _)) | exact (rfl : _ = (Value.pointer _)) | exact (rfl : _ = (Value.slice _ _ _)) | exact (rfl : _ = (Value.map _)) | exact (rfl : _ = (Value.func _ _ _)) | exact (rfl : _ = (Value.tuple _)) | exact (rfl : _ = (Value.agg _)) | exact (rfl : _ = (Value.string _)) | exact (rfl : _ = (Value.nilFunc)) | exact (rfl : _ = (Value.nilIface))))) (fun w' hw' => check_rets N w' (h.below hw'.below)) ?_
    by_cases hok : okN N.q N.a
    case neg =>
      rw [show chkN N.q N.a = 60 from if_neg hok]
      (repeat (first | ((with_reducible refine is_AL ?_); (first | ((with_reducible refine is_guarded ?_); (first | refine At_guard_t rfl (by decide) rfl ?_ | refine At_guard_f hF rfl (by decide) rfl rfl ?_)) | ((with_reducible refine is_move ?_); (refine At_plain hF (by (exact (rfl : _ = some (Value.bool _)))) ?_)) | ((with_reducible refine is_bin ?_); (refine At_plain hF (by (exact (rfl : _ = some (Value.bool _)))) ?_)) | ((with_reducible refine is_assign ?_); (refine At_plain hF (by (exact (rfl : _ = some (Value.bool _)))) ?_)) | ((with_reducible refine is_pick ?_); (refine At_plain hF (by (exact (rfl : _ = some (Value.bool _)))) ?_)) | with_reducible refine At_nil ?_)) | ((with_reducible refine is_At ?_); (first | with_reducible refine At_seq ?_; intro K hK | with_reducible refine At_region ?_ | with_reducible refine At_ret ?_ | with_reducible refine At_then_n ?_ | with_reducible refine At_then_r ?_ | with_reducible refine At_go (by assumption) ?_ | ((with_reducible refine is_cond ?_); (refine At_cond_t rfl ?_))))))
      exact At_ret1 rfl (rv_tmp (by decide)) (fun w' hw' => ⟨_, rfl, rfl, hw'.below⟩)
    rw [show chkN N.q N.a = 0 from if_pos hok]
    (repeat (first | ((with_reducible refine is_AL ?_); (first | ((with_reducible refine is_guarded ?_); (refine At_guard_t rfl (by decide) rfl ?_)) | ((with_reducible refine is_move ?_); (refine At_plain hF (by (exact (rfl : _ = some (Value.bool _)))) ?_)) | ((with_reducible refine is_bin ?_); (refine At_plain hF (by (exact (rfl : _ = some (Value.bool _)))) ?_)) | ((with_reducible refine is_pick ?_); (refine At_plain hF (by (exact (rfl : _ = some (Value.bool _)))) ?_)) | ((with_reducible refine is_call ?_); (refine At_len hF rfl ?_)) | ((with_reducible refine is_field ?_); (refine At_field hF rfl ?_)) | ((with_reducible refine is_load ?_); (refine At_load hF 0 (by exact rfl) rfl (by (exact (rfl : _ = some (Value.slice _ _ _)))) ?_)) | with_reducible refine At_nil ?_)) | ((with_reducible refine is_At ?_); (first | with_reducible refine At_then_n ?_ | with_reducible refine At_go (by assumption) ?_))))
    by_cases hl : N.q.length = 0
    · rw [show ((N.q.length : Int) == 0) = true by rw [beq_iff_eq]; omega]
      (repeat (first | ((with_reducible refine is_AL ?_); (first | ((with_reducible refine is_assign ?_); (refine At_plain hF (by (exact (rfl : _ = some (Value.bool _)))) ?_)) | with_reducible refine At_nil ?_)) | ((with_reducible refine is_At ?_); (first | with_reducible refine At_seq ?_; intro K hK | with_reducible refine At_region ?_ | with_reducible refine At_ret ?_ | with_reducible refine At_then_n ?_ | with_reducible refine At_then_r ?_ | with_reducible refine At_go (by assumption) ?_ | ((with_reducible refine is_cond ?_); (refine At_cond_t rfl ?_))))))
      exact At_ret1 rfl (rv_tmp (by decide)) (fun w' hw' => ⟨_, rfl, rfl, hw'.below⟩)
    rw [show ((N.q.length : Int) == 0) = false by rw [beq_eq_false_iff_ne]; omega]
    (repeat (first | ((with_reducible refine is_AL ?_); (first | ((with_reducible refine is_move ?_); (refine At_plain hF (by (exact (rfl : _ = some (Value.int _ _)))) ?_)) | ((with_reducible refine is_call ?_); (refine At_len hF rfl ?_)) | ((with_reducible refine is_field ?_); (refine At_field hF rfl ?_)) | ((with_reducible refine is_load ?_); (refine At_load hF 0 (by exact rfl) rfl (by (exact (rfl : _ = some (Value.slice _ _ _)))) ?_)))) | ((with_reducible refine is_At ?_); (first | with_reducible refine At_seq ?_; intro K hK | with_reducible refine At_region ?_ | with_reducible refine At_skip ?_ | with_reducible refine At_then_n ?_ | with_reducible refine At_go (by assumption) ?_ | ((with_reducible refine is_cond ?_); (refine At_cond_f rfl ?_))))))
    refine At_conv hF Try.underlying3 Try.underlying42 (by exact rfl) ?_
    rw [show IntKind.u64.wrap (N.q.length : Int) = N.q.length by rw [IntKind.wrap_u64]; omega]
    refine At_remK hF (k := .u64) (a := at0) (b := N.q.length) (by exact rfl) (by exact rfl) ⟨h0.1, by omega⟩ ?_
    refine At_conv hF Try.underlying42 Try.underlying3 (by exact rfl) ?_
    obtain ⟨k, hk, hkl⟩ : ∃ k : Nat, at0 % (N.q.length : Int) = k ∧ k < N.q.length := by
      have h1 := Int.emod_nonneg at0 (show (N.q.length : Int) ≠ 0 by omega)
      have h2 := Int.emod_lt_of_pos at0 (show (0 : Int) < N.q.length by omega)
      exact ⟨(at0 % N.q.length).toNat, by omega, by omega⟩
    rw [hk, show IntKind.i64.wrap (k : Int) = k by rw [IntKind.wrap_i64]; omega]
    have hp := getD_mem' (d := zP) hkl
    have hr4 := rep_ok hok hkl (by omega)
    have hsn := snd_ok (okN_erase hok k) (hok.2.1 _ hp) (Nat.lt_of_le_of_lt (List.length_eraseIdx_le _ _) (by omega))
    have hlo := los_ok (okN_snoc hok (hok.2.1 _ hp) (by omega)) (show k < (N.q ++ [N.q.getD k zP]).length by simp; omega)
    rw [erase_snoc hkl] at hlo
    obtain ⟨ad, hA, hrd, hcell⟩ := CP h.q k hkl
    have hde := del_ok hok hkl
    generalize N.q.getD k zP = p at *
    generalize dlvQ N.q N.a k = o at *
    (repeat (first | ((with_reducible refine is_AL ?_); (first | ((with_reducible refine is_move ?_); (refine At_plain hF (by (exact (rfl : _ = some (Value.int _ _)))) ?_)) | ((with_reducible refine is_assign ?_); (refine At_plain hF (by (exact (rfl : _ = some (Value.int _ _)))) ?_)) | ((with_reducible refine is_load ?_); (refine At_loadB hF 0 rfl rfl rfl ?_)) | with_reducible refine At_nil ?_)) | ((with_reducible refine is_At ?_); (first | with_reducible refine At_seq ?_; intro K hK | with_reducible refine At_region ?_ | with_reducible refine At_then_n ?_ | with_reducible refine At_go (by assumption) ?_))))
    refine At_deliver hF rfl 1 (T := []) rfl N k (arg2 (by (first | exact (rfl : _ = (Value.int _ _)) | exact (rfl : _ = (Value.bool _)) | exact (rfl : _ = (Value.pointer _)) | exact (rfl : _ = (Value.slice _ _ _)) | exact (rfl : _ = (Value.map _)) | exact (rfl : _ = (Value.func _ _ _)) | exact (rfl : _ = (Value.tuple _)) | exact (rfl : _ = (Value.agg _)) | exact (rfl : _ = (Value.string _)) | exact (rfl : _ = (Value.nilFunc)) | exact (rfl : _ = (Value.nilIface)))) (by (first | exact (rfl : _ = (Value.int _ _)) | exact (rfl : _ = (Value.bool _)) | exact (rfl : _ = (Value.pointer _)) | exact (rfl : _ = (Value.slice _ _ _)) | exact (rfl : _ = (Value.map _)) | exact (rfl : _ = (Value.func _ _ _)) | exact (rfl : _ = (Value.tuple _)) | exact (rfl : _ = (Value.agg _)) | exact (rfl : _ = (Value.string _)) | exact (rfl : _ = (Value.nilFunc)) | exact (rfl : _ = (Value.nilIface))))) (Kn.of h) hde ?_
    intro A1 c1 B1 d1 T1 hs1 hk1 _
    simp only [List.take_succ_cons, List.take_zero, List.cons_append, List.nil_append, retP]
    ((repeat (first | ((with_reducible refine is_AL ?_); (first | ((with_reducible refine is_move ?_); (refine At_plain hF (by (first | exact (rfl : _ = some (Value.int _ _)) | exact (rfl : _ = some (Value.tuple _)))) ?_)) | ((with_reducible refine is_assign ?_); (refine At_plain hF (by (exact (rfl : _ = some (Value.int _ _)))) ?_)) | ((with_reducible refine is_extract ?_); (refine At_plain hF (by (first | exact (rfl : _ = some (Value.int _ _)) | exact (rfl : _ = some (Value.agg _)))) ?_)) | ((with_reducible refine is_load ?_); (refine At_loadB hF 2 rfl rfl rfl ?_)) | ((with_reducible refine is_store ?_); (first | refine At_storeB_0 hF rfl rfl rfl rfl (by simp [Value.one1, epair]) ?_ | refine At_storeB_1 hF rfl rfl rfl rfl (by simp [Value.one1, epair]) ?_)) | with_reducible refine At_nil ?_)) | ((with_reducible refine is_At ?_); (first | with_reducible refine At_seq ?_; intro K hK | with_reducible refine At_region ?_ | with_reducible refine At_then_n ?_ | with_reducible refine At_go (by assumption) ?_)))); ((with_reducible refine is_alloc ?_); (refine At_alloc hF (by (exact (rfl : _ = List.toArray (_ :: _)))) ?_; intro b6)); (repeat (first | ((with_reducible refine is_AL ?_); (first | ((with_reducible refine is_move ?_); (refine At_plain hF (by (first | exact (rfl : _ = some (Value.int _ _)) | exact (rfl : _ = some (Value.tuple _)))) ?_)) | ((with_reducible refine is_assign ?_); (refine At_plain hF (by (exact (rfl : _ = some (Value.int _ _)))) ?_)) | ((with_reducible refine is_extract ?_); (refine At_plain hF (by (first | exact (rfl : _ = some (Value.int _ _)) | exact (rfl : _ = some (Value.agg _)))) ?_)) | ((with_reducible refine is_load ?_); (refine At_loadB hF 2 rfl rfl rfl ?_)) | ((with_reducible refine is_store ?_); (first | refine At_storeB_0 hF rfl rfl rfl rfl (by simp [Value.one1, epair]) ?_ | refine At_storeB_1 hF rfl rfl rfl rfl (by simp [Value.one1, epair]) ?_)) | with_reducible refine At_nil ?_)) | ((with_reducible refine is_At ?_); (first | with_reducible refine At_seq ?_; intro K hK | with_reducible refine At_region ?_ | with_reducible refine At_then_n ?_ | with_reducible refine At_go (by assumption) ?_)))); ((with_reducible refine is_alloc ?_); (refine At_alloc hF (by (exact (rfl : _ = List.toArray (_ :: _)))) ?_; intro b7)); (repeat (first | ((with_reducible refine is_AL ?_); (first | ((with_reducible refine is_move ?_); (refine At_plain hF (by (first | exact (rfl : _ = some (Value.int _ _)) | exact (rfl : _ = some (Value.tuple _)))) ?_)) | ((with_reducible refine is_assign ?_); (refine At_plain hF (by (exact (rfl : _ = some (Value.int _ _)))) ?_)) | ((with_reducible refine is_extract ?_); (refine At_plain hF (by (first | exact (rfl : _ = some (Value.int _ _)) | exact (rfl : _ = some (Value.agg _)))) ?_)) | ((with_reducible refine is_load ?_); (refine At_loadB hF 2 rfl rfl rfl ?_)) | ((with_reducible refine is_store ?_); (first | refine At_storeB_0 hF rfl rfl rfl rfl (by simp [Value.one1, epair]) ?_ | refine At_storeB_1 hF rfl rfl rfl rfl (by simp [Value.one1, epair]) ?_)) | with_reducible refine At_nil ?_)) | ((with_reducible refine is_At ?_); (first | with_reducible refine At_seq ?_; intro K hK | with_reducible refine At_region ?_ | with_reducible refine At_then_n ?_ | with_reducible refine At_go (by assumption) ?_)))))
    refine At_lose hF rfl 3 (T := T1) rfl N k (arg2 (by (first | exact (rfl : _ = (Value.int _ _)) | exact (rfl : _ = (Value.bool _)) | exact (rfl : _ = (Value.pointer _)) | exact (rfl : _ = (Value.slice _ _ _)) | exact (rfl : _ = (Value.map _)) | exact (rfl : _ = (Value.func _ _ _)) | exact (rfl : _ = (Value.tuple _)) | exact (rfl : _ = (Value.agg _)) | exact (rfl : _ = (Value.string _)) | exact (rfl : _ = (Value.nilFunc)) | exact (rfl : _ = (Value.nilIface)))) (by (first | exact (rfl : _ = (Value.int _ _)) | exact (rfl : _ = (Value.bool _)) | exact (rfl : _ = (Value.pointer _)) | exact (rfl : _ = (Value.slice _ _ _)) | exact (rfl : _ = (Value.map _)) | exact (rfl : _ = (Value.func _ _ _)) | exact (rfl : _ = (Value.tuple _)) | exact (rfl : _ = (Value.agg _)) | exact (rfl : _ = (Value.string _)) | exact (rfl : _ = (Value.nilFunc)) | exact (rfl : _ = (Value.nilIface))))) (Kn.of h) (los_ok hok hkl) ?_
    intro A2 c2 B2 d2 T2 hs2 hk2
    replace hk1 := hk1.mono hs2
    simp only [List.take_succ_cons, List.take_zero, List.cons_append, List.nil_append, retN]
    ((repeat (first | ((with_reducible refine is_AL ?_); (first | ((with_reducible refine is_move ?_); (refine At_plain hF (by (first | exact (rfl : _ = some (Value.int _ _)) | exact (rfl : _ = some (Value.tuple _)))) ?_)) | ((with_reducible refine is_assign ?_); (refine At_plain hF (by (exact (rfl : _ = some (Value.int _ _)))) ?_)) | ((with_reducible refine is_extract ?_); (refine At_plain hF (by (first | exact (rfl : _ = some (Value.int _ _)) | exact (rfl : _ = some (Value.agg _)))) ?_)) | ((with_reducible refine is_load ?_); (refine At_loadB hF 3 rfl rfl rfl ?_)) | ((with_reducible refine is_store ?_); (refine At_storeB_0 hF rfl rfl rfl rfl (by simp [Value.one1, epair]) ?_)) | with_reducible refine At_nil ?_)) | ((with_reducible refine is_At ?_); (first | with_reducible refine At_seq ?_; intro K hK | with_reducible refine At_region ?_ | with_reducible refine At_then_n ?_ | with_reducible refine At_go (by assumption) ?_)))); ((with_reducible refine is_alloc ?_); (refine At_alloc hF (by (exact (rfl : _ = List.toArray (_ :: _)))) ?_; intro b9)); (repeat (first | ((with_reducible refine is_AL ?_); (first | ((with_reducible refine is_move ?_); (refine At_plain hF (by (first | exact (rfl : _ = some (Value.int _ _)) | exact (rfl : _ = some (Value.tuple _)))) ?_)) | ((with_reducible refine is_assign ?_); (refine At_plain hF (by (exact (rfl : _ = some (Value.int _ _)))) ?_)) | ((with_reducible refine is_extract ?_); (refine At_plain hF (by (first | exact (rfl : _ = some (Value.int _ _)) | exact (rfl : _ = some (Value.agg _)))) ?_)) | ((with_reducible refine is_load ?_); (refine At_loadB hF 3 rfl rfl rfl ?_)) | ((with_reducible refine is_store ?_); (refine At_storeB_0 hF rfl rfl rfl rfl (by simp [Value.one1, epair]) ?_)) | with_reducible refine At_nil ?_)) | ((with_reducible refine is_At ?_); (first | with_reducible refine At_seq ?_; intro K hK | with_reducible refine At_region ?_ | with_reducible refine At_then_n ?_ | with_reducible refine At_go (by assumption) ?_)))))
    refine At_repeat hF rfl 4 (T := T2) rfl N k (arg2 (by (first | exact (rfl : _ = (Value.int _ _)) | exact (rfl : _ = (Value.bool _)) | exact (rfl : _ = (Value.pointer _)) | exact (rfl : _ = (Value.slice _ _ _)) | exact (rfl : _ = (Value.map _)) | exact (rfl : _ = (Value.func _ _ _)) | exact (rfl : _ = (Value.tuple _)) | exact (rfl : _ = (Value.agg _)) | exact (rfl : _ = (Value.string _)) | exact (rfl : _ = (Value.nilFunc)) | exact (rfl : _ = (Value.nilIface)))) (by (first | exact (rfl : _ = (Value.int _ _)) | exact (rfl : _ = (Value.bool _)) | exact (rfl : _ = (Value.pointer _)) | exact (rfl : _ = (Value.slice _ _ _)) | exact (rfl : _ = (Value.map _)) | exact (rfl : _ = (Value.func _ _ _)) | exact (rfl : _ = (Value.tuple _)) | exact (rfl : _ = (Value.agg _)) | exact (rfl : _ = (Value.string _)) | exact (rfl : _ = (Value.nilFunc)) | exact (rfl : _ = (Value.nilIface))))) (Kn.of h) hr4 ?_
    intro A3 c3 B3 d3 T3 hs3 hk3
    replace hk1 := hk1.mono hs3
    replace hk2 := hk2.mono hs3
    simp only [List.take_succ_cons, List.take_zero, List.cons_append, List.nil_append, retN]
    ((repeat (first | ((with_reducible refine is_AL ?_); (first | ((with_reducible refine is_move ?_); (refine At_plain hF (by (first | exact (rfl : _ = some (Value.int _ _)) | exact (rfl : _ = some (Value.tuple _)))) ?_)) | ((with_reducible refine is_assign ?_); (refine At_plain hF (by (exact (rfl : _ = some (Value.int _ _)))) ?_)) | ((with_reducible refine is_extract ?_); (refine At_plain hF (by (first | exact (rfl : _ = some (Value.int _ _)) | exact (rfl : _ = some (Value.agg _)))) ?_)) | ((with_reducible refine is_load ?_); (refine At_loadB hF 0 rfl rfl rfl ?_)) | ((with_reducible refine is_store ?_); (refine At_storeB_0 hF rfl rfl rfl rfl (by simp [Value.one1, epair]) ?_)) | with_reducible refine At_nil ?_)) | ((with_reducible refine is_At ?_); (first | with_reducible refine At_seq ?_; intro K hK | with_reducible refine At_region ?_ | with_reducible refine At_then_n ?_ | with_reducible refine At_go (by assumption) ?_)))); ((with_reducible refine is_alloc ?_); (refine At_alloc hF (by (exact (rfl : _ = List.toArray (_ :: _)))) ?_; intro b11)); (repeat (first | ((with_reducible refine is_AL ?_); (first | ((with_reducible refine is_move ?_); (refine At_plain hF (by (first | exact (rfl : _ = some (Value.int _ _)) | exact (rfl : _ = some (Value.tuple _)))) ?_)) | ((with_reducible refine is_assign ?_); (refine At_plain hF (by (exact (rfl : _ = some (Value.int _ _)))) ?_)) | ((with_reducible refine is_extract ?_); (refine At_plain hF (by (first | exact (rfl : _ = some (Value.int _ _)) | exact (rfl : _ = some (Value.agg _)))) ?_)) | ((with_reducible refine is_load ?_); (refine At_loadB hF 0 rfl rfl rfl ?_)) | ((with_reducible refine is_store ?_); (refine At_storeB_0 hF rfl rfl rfl rfl (by simp [Value.one1, epair]) ?_)) | with_reducible refine At_nil ?_)) | ((with_reducible refine is_At ?_); (first | with_reducible refine At_seq ?_; intro K hK | with_reducible refine At_region ?_ | with_reducible refine At_then_n ?_ | with_reducible refine At_go (by assumption) ?_)))))
    refine At_lose hF rfl 5 (T := T3) rfl ⟨A3, c3, B3, d3, N.q ++ [p], N.a⟩ k (arg2 (by (first | exact (rfl : _ = (Value.int _ _)) | exact (rfl : _ = (Value.bool _)) | exact (rfl : _ = (Value.pointer _)) | exact (rfl : _ = (Value.slice _ _ _)) | exact (rfl : _ = (Value.map _)) | exact (rfl : _ = (Value.func _ _ _)) | exact (rfl : _ = (Value.tuple _)) | exact (rfl : _ = (Value.agg _)) | exact (rfl : _ = (Value.string _)) | exact (rfl : _ = (Value.nilFunc)) | exact (rfl : _ = (Value.nilIface)))) (by (first | exact (rfl : _ = (Value.int _ _)) | exact (rfl : _ = (Value.bool _)) | exact (rfl : _ = (Value.pointer _)) | exact (rfl : _ = (Value.slice _ _ _)) | exact (rfl : _ = (Value.map _)) | exact (rfl : _ = (Value.func _ _ _)) | exact (rfl : _ = (Value.tuple _)) | exact (rfl : _ = (Value.agg _)) | exact (rfl : _ = (Value.string _)) | exact (rfl : _ = (Value.nilFunc)) | exact (rfl : _ = (Value.nilIface))))) hk3 hlo ?_
    intro A4 c4 B4 d4 T4 hs4 hk4
    replace hk1 := hk1.mono hs4
    replace hk2 := hk2.mono hs4
    simp only [List.take_succ_cons, List.take_zero, List.cons_append, List.nil_append, retN]
    ((repeat (first | ((with_reducible refine is_AL ?_); (first | ((with_reducible refine is_move ?_); (refine At_plain hF (by (exact (rfl : _ = some (Value.tuple _)))) ?_)) | ((with_reducible refine is_assign ?_); (refine At_plain hF (by (exact (rfl : _ = some (Value.int _ _)))) ?_)) | ((with_reducible refine is_extract ?_); (refine At_plain hF (by (first | exact (rfl : _ = some (Value.int _ _)) | exact (rfl : _ = some (Value.agg _)))) ?_)) | ((with_reducible refine is_store ?_); (refine At_storeB_0 hF rfl rfl rfl rfl (by simp [Value.one1, epair]) ?_)) | with_reducible refine At_nil ?_)) | ((with_reducible refine is_At ?_); (first | with_reducible refine At_seq ?_; intro K hK | with_reducible refine At_then_n ?_ | with_reducible refine At_go (by assumption) ?_)))); ((with_reducible refine is_alloc ?_); (refine At_alloc hF (by (exact (rfl : _ = List.toArray (_ :: _)))) ?_; intro b13)); (repeat (first | ((with_reducible refine is_AL ?_); (first | ((with_reducible refine is_move ?_); (refine At_plain hF (by (exact (rfl : _ = some (Value.tuple _)))) ?_)) | ((with_reducible refine is_assign ?_); (refine At_plain hF (by (exact (rfl : _ = some (Value.int _ _)))) ?_)) | ((with_reducible refine is_extract ?_); (refine At_plain hF (by (first | exact (rfl : _ = some (Value.int _ _)) | exact (rfl : _ = some (Value.agg _)))) ?_)) | ((with_reducible refine is_store ?_); (refine At_storeB_0 hF rfl rfl rfl rfl (by simp [Value.one1, epair]) ?_)) | with_reducible refine At_nil ?_)) | ((with_reducible refine is_At ?_); (first | with_reducible refine At_seq ?_; intro K hK | with_reducible refine At_then_n ?_ | with_reducible refine At_go (by assumption) ?_)))))
    refine At_mergeU (σ := (Option Addr × Nat × Option Addr × Nat × Nat) × List Res) (fun s => [(8, .int .i64 0), (10, .int .i64 0), (12, .int .i64 0), (14, .int .i64 0), (16, .int .i64 0), (2, .pointer (some ⟨b2, 0, none⟩)), (7, .pointer (some ⟨b7, 0, none⟩)), (9, .pointer (some ⟨b9, 0, none⟩)), (11, .pointer (some ⟨b11, 0, none⟩)), (13, .pointer (some ⟨b13, 0, none⟩)), (15, .pointer (some ⟨s.1.2.2.2.2, 0, none⟩))])
      (fun s => nb s.1.2.2.2.2 s.1.1 s.1.2.1 s.1.2.2.1 s.1.2.2.2.1 (N.q.eraseIdx k ++ [p]) N.a :: nb b13 A4 c4 B4 d4 (N.q.eraseIdx k ++ [p]) N.a :: nb b11 A3 c3 B3 d3 (N.q ++ [p]) N.a :: nb b9 A2 c2 B2 d2 (N.q.eraseIdx k) N.a :: nb b7 A1 c1 B1 d1 (N.q.eraseIdx k) N.a :: nb b2 N.A N.c N.B N.d N.q N.a :: s.2)
      (fun s => T4.Sublist s.2 ∧ Kn w s.2 ⟨s.1.1, s.1.2.1, s.1.2.2.1, s.1.2.2.2.1, N.q.eraseIdx k ++ [p], N.a⟩) ?_ ?_
    · intro K' hK'
      refine At_drawF hF 12 [0, 1, 2, 3, 4, 5] [] [6, 7, 8, 9, 10, 11] (nb b9 A2 c2 B2 d2 (N.q.eraseIdx k) N.a :: nb b2 N.A N.c N.B N.d N.q N.a :: []) (by kernel_rfl) (by decide +kernel) (by decide +kernel) ?_; simp only [List.drop_succ_cons, List.drop_zero]; (repeat ((with_reducible refine is_AQF ?_); first | refine AQF_early (by decide) (by exact (rfl : _ = some (Oper.mk _ _ _ _ _ _))) (by intro K Q hK; (repeat (first | ((with_reducible refine is_move ?_); (refine At_plain hF (by (exact (rfl : _ = some (Value.int _ _)))) ?_)) | ((with_reducible refine is_field ?_); (refine At_field hF rfl ?_)) | ((with_reducible refine is_load ?_); (first | refine At_load hF 1 (by exact rfl) rfl (by (exact (rfl : _ = some (Value.slice _ _ _)))) ?_ | refine At_loadB hF 0 rfl rfl rfl ?_)) | ((with_reducible refine is_index ?_); (refine At_indexC hF rfl (by assumption) rfl (by omega) ?_)))); exact At_nilK hK) ?_ | refine AQF_late (by decide) (by exact (rfl : _ = some (Oper.mk _ _ _ _ _ _))) (by intro E K Q hK; simp only [List.cons_append, List.nil_append] at hK ⊢; (repeat (first | ((with_reducible refine is_move ?_); (refine At_plain hF (by (exact (rfl : _ = some (Value.int _ _)))) ?_)) | ((with_reducible refine is_field ?_); (refine At_field hF rfl ?_)) | ((with_reducible refine is_load ?_); (first | refine At_load hF 1 (by exact rfl) rfl (by (exact (rfl : _ = some (Value.slice _ _ _)))) ?_ | refine At_loadB hF 0 rfl rfl rfl ?_)) | ((with_reducible refine is_index ?_); (refine At_indexC hF rfl (by assumption) rfl (by omega) ?_)))); exact At_nilK hK) ?_))
      refine AQF_late (by decide) (by exact (rfl : _ = some (Oper.mk _ _ _ _ _ _))) (by intro E K Q hK; simp only [List.cons_append, List.nil_append] at hK ⊢; refine At_loadCS (vs := [.int .i64 p.f, .int .i64 p.t, .slice p.A p.l p.c]) hF (by exact rfl) (by exact rfl) hcell ?_; exact At_nilK hK) ?_
      refine AQF_doneF ?_
      refine FAt_step (l := [6, 10]) (by (repeat (first | exact List.Sublist.refl _ | exact List.Sublist.slnil | refine List.Sublist.cons_cons _ ?_ | refine List.Sublist.cons _ ?_ | exact List.nil_sublist _))) (by decide +kernel) ?_
      refine AT_all ?_ ?_
      · refine FAt_op (by exact (rfl : _ = some (Oper.mk _ _ _ _ _ _))) ?_
        intro K Q' hK
        (first | refine At_send hF rfl 6 (T := T4) rfl ⟨A2, c2, B2, d2, N.q.eraseIdx k, N.a⟩ p (arg2 (by (first | exact (rfl : _ = (Value.int _ _)) | exact (rfl : _ = (Value.bool _)) | exact (rfl : _ = (Value.pointer _)) | exact (rfl : _ = (Value.slice _ _ _)) | exact (rfl : _ = (Value.map _)) | exact (rfl : _ = (Value.func _ _ _)) | exact (rfl : _ = (Value.tuple _)) | exact (rfl : _ = (Value.agg _)) | exact (rfl : _ = (Value.string _)) | exact (rfl : _ = (Value.nilFunc)) | exact (rfl : _ = (Value.nilIface)))) (by (first | exact (rfl : _ = (Value.int _ _)) | exact (rfl : _ = (Value.bool _)) | exact (rfl : _ = (Value.pointer _)) | exact (rfl : _ = (Value.slice _ _ _)) | exact (rfl : _ = (Value.map _)) | exact (rfl : _ = (Value.func _ _ _)) | exact (rfl : _ = (Value.tuple _)) | exact (rfl : _ = (Value.agg _)) | exact (rfl : _ = (Value.string _)) | exact (rfl : _ = (Value.nilFunc)) | exact (rfl : _ = (Value.nilIface))))) hk2 (Kp.of hrd) hsn ?_ | refine At_send hF rfl 7 (T := T4) rfl ⟨A2, c2, B2, d2, N.q.eraseIdx k, N.a⟩ p (arg2 (by (first | exact (rfl : _ = (Value.int _ _)) | exact (rfl : _ = (Value.bool _)) | exact (rfl : _ = (Value.pointer _)) | exact (rfl : _ = (Value.slice _ _ _)) | exact (rfl : _ = (Value.map _)) | exact (rfl : _ = (Value.func _ _ _)) | exact (rfl : _ = (Value.tuple _)) | exact (rfl : _ = (Value.agg _)) | exact (rfl : _ = (Value.string _)) | exact (rfl : _ = (Value.nilFunc)) | exact (rfl : _ = (Value.nilIface)))) (by (first | exact (rfl : _ = (Value.int _ _)) | exact (rfl : _ = (Value.bool _)) | exact (rfl : _ = (Value.pointer _)) | exact (rfl : _ = (Value.slice _ _ _)) | exact (rfl : _ = (Value.map _)) | exact (rfl : _ = (Value.func _ _ _)) | exact (rfl : _ = (Value.tuple _)) | exact (rfl : _ = (Value.agg _)) | exact (rfl : _ = (Value.string _)) | exact (rfl : _ = (Value.nilFunc)) | exact (rfl : _ = (Value.nilIface))))) hk2 (Kp.of hrd) hsn ?_)
        intro A5 c5 B5 d5 T5 hs5 hk5
        simp only [List.take_succ_cons, List.take_zero, List.cons_append, List.nil_append, retN]
        refine At_nilK (hK _ _ ?_)
        refine FAt_step (l := [7, 10]) (by (repeat (first | exact List.Sublist.refl _ | exact List.Sublist.slnil | refine List.Sublist.cons_cons _ ?_ | refine List.Sublist.cons _ ?_ | exact List.nil_sublist _))) (by decide +kernel) ?_
        refine AT_all ?_ ?_
        · refine FAt_op (by exact (rfl : _ = some (Oper.mk _ _ _ _ _ _))) ?_
          intro K Q' hK
          (repeat ((with_reducible refine is_move ?_); (refine At_plain hF (by (exact (rfl : _ = some (Value.tuple _)))) ?_)))
          refine At_nilK (hK _ _ ?_)
          refine FAt_step (l := [8, 9, 10]) (by (repeat (first | exact List.Sublist.refl _ | exact List.Sublist.slnil | refine List.Sublist.cons_cons _ ?_ | refine List.Sublist.cons _ ?_ | exact List.nil_sublist _))) (by decide +kernel) ?_
          refine AT_all ?_ ?_
          · refine FAt_op (by exact (rfl : _ = some (Oper.mk _ _ _ _ _ _))) ?_
            intro K Q' hK
            (repeat ((with_reducible refine is_extract ?_); (refine At_plain hF (by (exact (rfl : _ = some (Value.agg _)))) ?_)))
            refine At_nilK (hK _ _ ?_)
            refine FAt_step (l := [9, 10]) (by (repeat (first | exact List.Sublist.refl _ | exact List.Sublist.slnil | refine List.Sublist.cons_cons _ ?_ | refine List.Sublist.cons _ ?_ | exact List.nil_sublist _))) (by decide +kernel) ?_
            refine AT_all ?_ ?_
            · refine FAt_op (by exact (rfl : _ = some (Oper.mk _ _ _ _ _ _))) ?_
              intro K Q' hK
              (repeat ((with_reducible refine is_extract ?_); (refine At_plain hF (by (exact (rfl : _ = some (Value.int _ _)))) ?_)))
              refine At_nilK (hK _ _ ?_)
              refine FAt_step (l := [10]) (by (repeat (first | exact List.Sublist.refl _ | exact List.Sublist.slnil | refine List.Sublist.cons_cons _ ?_ | refine List.Sublist.cons _ ?_ | exact List.nil_sublist _))) (by decide +kernel) ?_
              refine AT_all1 ?_
              · refine FAt_op (by exact (rfl : _ = some (Oper.mk _ _ _ _ _ _))) ?_
                intro K Q' hK
                refine At_alloc hF (cs := #[.slice none 0 0, .slice none 0 0]) (by exact rfl) ?_
                intro b15
                refine At_nilK (hK _ _ ?_)
                refine FAt_step (l := [11]) (by (repeat (first | exact List.Sublist.refl _ | exact List.Sublist.slnil | refine List.Sublist.cons_cons _ ?_ | refine List.Sublist.cons _ ?_ | exact List.nil_sublist _))) (by decide +kernel) ?_
                refine AT_all1 ?_
                · refine FAt_op (by exact (rfl : _ = some (Oper.mk _ _ _ _ _ _))) ?_
                  intro K Q' hK
                  (repeat ((with_reducible refine is_store ?_); (refine At_storeB_0 hF rfl rfl rfl rfl (by simp [Value.one1, epair]) ?_)))
                  refine At_nilK (hK _ _ ?_)
                  refine FAt_done (by (repeat (first | exact List.Sublist.refl _ | exact List.Sublist.slnil | refine List.Sublist.cons_cons _ ?_ | refine List.Sublist.cons _ ?_ | exact List.nil_sublist _))) (by decide +kernel) ?_
                  (repeat (first | ((with_reducible refine is_AL ?_); (first | ((with_reducible refine is_assign ?_); (refine At_plain hF (by (exact (rfl : _ = some (Value.int _ _)))) ?_)) | with_reducible refine At_nil ?_)) | ((with_reducible refine is_At ?_); (with_reducible refine At_then_n ?_))))
                  refine At.sub ?_ (hK' ((A5, c5, B5, d5, b15), T5) _ ⟨hs5, hk5⟩ ?_)
                  focus (repeat (first | exact List.Sublist.refl _ | exact List.Sublist.slnil | refine List.Sublist.cons_cons _ ?_ | refine List.Sublist.cons _ ?_ | exact List.nil_sublist _))
                  (repeat (first | exact True.intro | (refine And.intro ?_ ?_; focus (show _ = (_ : Value); first | exact rfl | (refine Eq.trans (b := Value.int IntKind.i64 _) rfl (congrArg (Value.int IntKind.i64) ?_); omega)))))
            refine AT_all1 ?_
            · refine FAt_op (by exact (rfl : _ = some (Oper.mk _ _ _ _ _ _))) ?_
              intro K Q' hK
              refine At_alloc hF (cs := #[.slice none 0 0, .slice none 0 0]) (by exact rfl) ?_
              intro b15
              refine At_nilK (hK _ _ ?_)
              refine FAt_step (l := [9, 11]) (by (repeat (first | exact List.Sublist.refl _ | exact List.Sublist.slnil | refine List.Sublist.cons_cons _ ?_ | refine List.Sublist.cons _ ?_ | exact List.nil_sublist _))) (by decide +kernel) ?_
              refine AT_all ?_ ?_
              · refine FAt_op (by exact (rfl : _ = some (Oper.mk _ _ _ _ _ _))) ?_
                intro K Q' hK
                (repeat ((with_reducible refine is_extract ?_); (refine At_plain hF (by (exact (rfl : _ = some (Value.int _ _)))) ?_)))
                refine At_nilK (hK _ _ ?_)
                refine FAt_step (l := [11]) (by (repeat (first | exact List.Sublist.refl _ | exact List.Sublist.slnil | refine List.Sublist.cons_cons _ ?_ | refine List.Sublist.cons _ ?_ | exact List.nil_sublist _))) (by decide +kernel) ?_
                refine AT_all1 ?_
                · refine FAt_op (by exact (rfl : _ = some (Oper.mk _ _ _ _ _ _))) ?_
                  intro K Q' hK
                  (repeat ((with_reducible refine is_store ?_); (refine At_storeB_0 hF rfl rfl rfl rfl (by simp [Value.one1, epair]) ?_)))
                  refine At_nilK (hK _ _ ?_)
                  refine FAt_done (by (repeat (first | exact List.Sublist.refl _ | exact List.Sublist.slnil | refine List.Sublist.cons_cons _ ?_ | refine List.Sublist.cons _ ?_ | exact List.nil_sublist _))) (by decide +kernel) ?_
                  (repeat (first | ((with_reducible refine is_AL ?_); (first | ((with_reducible refine is_assign ?_); (refine At_plain hF (by (exact (rfl : _ = some (Value.int _ _)))) ?_)) | with_reducible refine At_nil ?_)) | ((with_reducible refine is_At ?_); (with_reducible refine At_then_n ?_))))
                  refine At.sub ?_ (hK' ((A5, c5, B5, d5, b15), T5) _ ⟨hs5, hk5⟩ ?_)
                  focus (repeat (first | exact List.Sublist.refl _ | exact List.Sublist.slnil | refine List.Sublist.cons_cons _ ?_ | refine List.Sublist.cons _ ?_ | exact List.nil_sublist _))
                  (repeat (first | exact True.intro | (refine And.intro ?_ ?_; focus (show _ = (_ : Value); first | exact rfl | (refine Eq.trans (b := Value.int IntKind.i64 _) rfl (congrArg (Value.int IntKind.i64) ?_); omega)))))
              refine AT_all1 ?_
              · refine FAt_op (by exact (rfl : _ = some (Oper.mk _ _ _ _ _ _))) ?_
                intro K Q' hK
                (repeat ((with_reducible refine is_store ?_); (refine At_storeB_0 hF rfl rfl rfl rfl (by simp [Value.one1, epair]) ?_)))
                refine At_nilK (hK _ _ ?_)
                refine FAt_step (l := [9]) (by (repeat (first | exact List.Sublist.refl _ | exact List.Sublist.slnil | refine List.Sublist.cons_cons _ ?_ | refine List.Sublist.cons _ ?_ | exact List.nil_sublist _))) (by decide +kernel) ?_
                refine AT_all1 ?_
                · refine FAt_op (by exact (rfl : _ = some (Oper.mk _ _ _ _ _ _))) ?_
                  intro K Q' hK
                  (repeat ((with_reducible refine is_extract ?_); (refine At_plain hF (by (exact (rfl : _ = some (Value.int _ _)))) ?_)))
                  refine At_nilK (hK _ _ ?_)
                  refine FAt_done (by (repeat (first | exact List.Sublist.refl _ | exact List.Sublist.slnil | refine List.Sublist.cons_cons _ ?_ | refine List.Sublist.cons _ ?_ | exact List.nil_sublist _))) (by decide +kernel) ?_
                  (repeat (first | ((with_reducible refine is_AL ?_); (first | ((with_reducible refine is_assign ?_); (refine At_plain hF (by (exact (rfl : _ = some (Value.int _ _)))) ?_)) | with_reducible refine At_nil ?_)) | ((with_reducible refine is_At ?_); (with_reducible refine At_then_n ?_))))
                  refine At.sub ?_ (hK' ((A5, c5, B5, d5, b15), T5) _ ⟨hs5, hk5⟩ ?_)
                  focus (repeat (first | exact List.Sublist.refl _ | exact List.Sublist.slnil | refine List.Sublist.cons_cons _ ?_ | refine List.Sublist.cons _ ?_ | exact List.nil_sublist _))
                  (repeat (first | exact True.intro | (refine And.intro ?_ ?_; focus (show _ = (_ : Value); first | exact rfl | (refine Eq.trans (b := Value.int IntKind.i64 _) rfl (congrArg (Value.int IntKind.i64) ?_); omega)))))
          refine AT_all ?_ ?_
          · refine FAt_op (by exact (rfl : _ = some (Oper.mk _ _ _ _ _ _))) ?_
            intro K Q' hK
            (repeat ((with_reducible refine is_extract ?_); (refine At_plain hF (by (exact (rfl : _ = some (Value.int _ _)))) ?_)))
            refine At_nilK (hK _ _ ?_)
            refine FAt_step (l := [8, 10]) (by (repeat (first | exact List.Sublist.refl _ | exact List.Sublist.slnil | refine List.Sublist.cons_cons _ ?_ | refine List.Sublist.cons _ ?_ | exact List.nil_sublist _))) (by decide +kernel) ?_
            refine AT_all ?_ ?_
            · refine FAt_op (by exact (rfl : _ = some (Oper.mk _ _ _ _ _ _))) ?_
              intro K Q' hK
              (repeat ((with_reducible refine is_extract ?_); (refine At_plain hF (by (exact (rfl : _ = some (Value.agg _)))) ?_)))
              refine At_nilK (hK _ _ ?_)
              refine FAt_step (l := [10]) (by (repeat (first | exact List.Sublist.refl _ | exact List.Sublist.slnil | refine List.Sublist.cons_cons _ ?_ | refine List.Sublist.cons _ ?_ | exact List.nil_sublist _))) (by decide +kernel) ?_
              refine AT_all1 ?_
              · refine FAt_op (by exact (rfl : _ = some (Oper.mk _ _ _ _ _ _))) ?_
                intro K Q' hK
                refine At_alloc hF (cs := #[.slice none 0 0, .slice none 0 0]) (by exact rfl) ?_
                intro b15
                refine At_nilK (hK _ _ ?_)
                refine FAt_step (l := [11]) (by (repeat (first | exact List.Sublist.refl _ | exact List.Sublist.slnil | refine List.Sublist.cons_cons _ ?_ | refine List.Sublist.cons _ ?_ | exact List.nil_sublist _))) (by decide +kernel) ?_
                refine AT_all1 ?_
                · refine FAt_op (by exact (rfl : _ = some (Oper.mk _ _ _ _ _ _))) ?_
                  intro K Q' hK
                  (repeat ((with_reducible refine is_store ?_); (refine At_storeB_0 hF rfl rfl rfl rfl (by simp [Value.one1, epair]) ?_)))
                  refine At_nilK (hK _ _ ?_)
                  refine FAt_done (by (repeat (first | exact List.Sublist.refl _ | exact List.Sublist.slnil | refine List.Sublist.cons_cons _ ?_ | refine List.Sublist.cons _ ?_ | exact List.nil_sublist _))) (by decide +kernel) ?_
                  (repeat (first | ((with_reducible refine is_AL ?_); (first | ((with_reducible refine is_assign ?_); (refine At_plain hF (by (exact (rfl : _ = some (Value.int _ _)))) ?_)) | with_reducible refine At_nil ?_)) | ((with_reducible refine is_At ?_); (with_reducible refine At_then_n ?_))))
                  refine At.sub ?_ (hK' ((A5, c5, B5, d5, b15), T5) _ ⟨hs5, hk5⟩ ?_)
                  focus (repeat (first | exact List.Sublist.refl _ | exact List.Sublist.slnil | refine List.Sublist.cons_cons _ ?_ | refine List.Sublist.cons _ ?_ | exact List.nil_sublist _))
                  (repeat (first | exact True.intro | (refine And.intro ?_ ?_; focus (show _ = (_ : Value); first | exact rfl | (refine Eq.trans (b := Value.int IntKind.i64 _) rfl (congrArg (Value.int IntKind.i64) ?_); omega)))))
            refine AT_all1 ?_
            · refine FAt_op (by exact (rfl : _ = some (Oper.mk _ _ _ _ _ _))) ?_
              intro K Q' hK
              refine At_alloc hF (cs := #[.slice none 0 0, .slice none 0 0]) (by exact rfl) ?_
              intro b15
              refine At_nilK (hK _ _ ?_)
              refine FAt_step (l := [8]) (by (repeat (first | exact List.Sublist.refl _ | exact List.Sublist.slnil | refine List.Sublist.cons_cons _ ?_ | refine List.Sublist.cons _ ?_ | exact List.nil_sublist _))) (by decide +kernel) ?_
              refine AT_all1 ?_
              · refine FAt_op (by exact (rfl : _ = some (Oper.mk _ _ _ _ _ _))) ?_
                intro K Q' hK
                (repeat ((with_reducible refine is_extract ?_); (refine At_plain hF (by (exact (rfl : _ = some (Value.agg _)))) ?_)))
                refine At_nilK (hK _ _ ?_)
                refine FAt_step (l := [11]) (by (repeat (first | exact List.Sublist.refl _ | exact List.Sublist.slnil | refine List.Sublist.cons_cons _ ?_ | refine List.Sublist.cons _ ?_ | exact List.nil_sublist _))) (by decide +kernel) ?_
                refine AT_all1 ?_
                · refine FAt_op (by exact (rfl : _ = some (Oper.mk _ _ _ _ _ _))) ?_
                  intro K Q' hK
                  (repeat ((with_reducible refine is_store ?_); (refine At_storeB_0 hF rfl rfl rfl rfl (by simp [Value.one1, epair]) ?_)))
                  refine At_nilK (hK _ _ ?_)
                  refine FAt_done (by (repeat (first | exact List.Sublist.refl _ | exact List.Sublist.slnil | refine List.Sublist.cons_cons _ ?_ | refine List.Sublist.cons _ ?_ | exact List.nil_sublist _))) (by decide +kernel) ?_
                  (repeat (first | ((with_reducible refine is_AL ?_); (first | ((with_reducible refine is_assign ?_); (refine At_plain hF (by (exact (rfl : _ = some (Value.int _ _)))) ?_)) | with_reducible refine At_nil ?_)) | ((with_reducible refine is_At ?_); (with_reducible refine At_then_n ?_))))
                  refine At.sub ?_ (hK' ((A5, c5, B5, d5, b15), T5) _ ⟨hs5, hk5⟩ ?_)
                  focus (repeat (first | exact List.Sublist.refl _ | exact List.Sublist.slnil | refine List.Sublist.cons_cons _ ?_ | refine List.Sublist.cons _ ?_ | exact List.nil_sublist _))
                  (repeat (first | exact True.intro | (refine And.intro ?_ ?_; focus (show _ = (_ : Value); first | exact rfl | (refine Eq.trans (b := Value.int IntKind.i64 _) rfl (congrArg (Value.int IntKind.i64) ?_); omega)))))
          refine AT_all1 ?_
          · refine FAt_op (by exact (rfl : _ = some (Oper.mk _ _ _ _ _ _))) ?_
            intro K Q' hK
            refine At_alloc hF (cs := #[.slice none 0 0, .slice none 0 0]) (by exact rfl) ?_
            intro b15
            refine At_nilK (hK _ _ ?_)
            refine FAt_step (l := [8, 9]) (by (repeat (first | exact List.Sublist.refl _ | exact List.Sublist.slnil | refine List.Sublist.cons_cons _ ?_ | refine List.Sublist.cons _ ?_ | exact List.nil_sublist _))) (by decide +kernel) ?_
            refine AT_all ?_ ?_
            · refine FAt_op (by exact (rfl : _ = some (Oper.mk _ _ _ _ _ _))) ?_
              intro K Q' hK
              (repeat ((with_reducible refine is_extract ?_); (refine At_plain hF (by (exact (rfl : _ = some (Value.agg _)))) ?_)))
              refine At_nilK (hK _ _ ?_)
              refine FAt_step (l := [9, 11]) (by (repeat (first | exact List.Sublist.refl _ | exact List.Sublist.slnil | refine List.Sublist.cons_cons _ ?_ | refine List.Sublist.cons _ ?_ | exact List.nil_sublist _))) (by decide +kernel) ?_
              refine AT_all ?_ ?_
              · refine FAt_op (by exact (rfl : _ = some (Oper.mk _ _ _ _ _ _))) ?_
                intro K Q' hK
                (repeat ((with_reducible refine is_extract ?_); (refine At_plain hF (by (exact (rfl : _ = some (Value.int _ _)))) ?_)))
                refine At_nilK (hK _ _ ?_)
                refine FAt_step (l := [11]) (by (repeat (first | exact List.Sublist.refl _ | exact List.Sublist.slnil | refine List.Sublist.cons_cons _ ?_ | refine List.Sublist.cons _ ?_ | exact List.nil_sublist _))) (by decide +kernel) ?_
                refine AT_all1 ?_
                · refine FAt_op (by exact (rfl : _ = some (Oper.mk _ _ _ _ _ _))) ?_
                  intro K Q' hK
                  (repeat ((with_reducible refine is_store ?_); (refine At_storeB_0 hF rfl rfl rfl rfl (by simp [Value.one1, epair]) ?_)))
                  refine At_nilK (hK _ _ ?_)
                  refine FAt_done (by (repeat (first | exact List.Sublist.refl _ | exact List.Sublist.slnil | refine List.Sublist.cons_cons _ ?_ | refine List.Sublist.cons _ ?_ | exact List.nil_sublist _))) (by decide +kernel) ?_
                  (repeat (first | ((with_reducible refine is_AL ?_); (first | ((with_reducible refine is_assign ?_); (refine At_plain hF (by (exact (rfl : _ = some (Value.int _ _)))) ?_)) | with_reducible refine At_nil ?_)) | ((with_reducible refine is_At ?_); (with_reducible refine At_then_n ?_))))
                  refine At.sub ?_ (hK' ((A5, c5, B5, d5, b15), T5) _ ⟨hs5, hk5⟩ ?_)
                  focus (repeat (first | exact List.Sublist.refl _ | exact List.Sublist.slnil | refine List.Sublist.cons_cons _ ?_ | refine List.Sublist.cons _ ?_ | exact List.nil_sublist _))
                  (repeat (first | exact True.intro | (refine And.intro ?_ ?_; focus (show _ = (_ : Value); first | exact rfl | (refine Eq.trans (b := Value.int IntKind.i64 _) rfl (congrArg (Value.int IntKind.i64) ?_); omega)))))
              refine AT_all1 ?_
              · refine FAt_op (by exact (rfl : _ = some (Oper.mk _ _ _ _ _ _))) ?_
                intro K Q' hK
                (repeat ((with_reducible refine is_store ?_); (refine At_storeB_0 hF rfl rfl rfl rfl (by simp [Value.one1, epair]) ?_)))
                refine At_nilK (hK _ _ ?_)
                refine FAt_step (l := [9]) (by (repeat (first | exact List.Sublist.refl _ | exact List.Sublist.slnil | refine List.Sublist.cons_cons _ ?_ | refine List.Sublist.cons _ ?_ | exact List.nil_sublist _))) (by decide +kernel) ?_
                refine AT_all1 ?_
                · refine FAt_op (by exact (rfl : _ = some (Oper.mk _ _ _ _ _ _))) ?_
                  intro K Q' hK
                  (repeat ((with_reducible refine is_extract ?_); (refine At_plain hF (by (exact (rfl : _ = some (Value.int _ _)))) ?_)))
                  refine At_nilK (hK _ _ ?_)
                  refine FAt_done (by (repeat (first | exact List.Sublist.refl _ | exact List.Sublist.slnil | refine List.Sublist.cons_cons _ ?_ | refine List.Sublist.cons _ ?_ | exact List.nil_sublist _))) (by decide +kernel) ?_
                  (repeat (first | ((with_reducible refine is_AL ?_); (first | ((with_reducible refine is_assign ?_); (refine At_plain hF (by (exact (rfl : _ = some (Value.int _ _)))) ?_)) | with_reducible refine At_nil ?_)) | ((with_reducible refine is_At ?_); (with_reducible refine At_then_n ?_))))
                  refine At.sub ?_ (hK' ((A5, c5, B5, d5, b15), T5) _ ⟨hs5, hk5⟩ ?_)
                  focus (repeat (first | exact List.Sublist.refl _ | exact List.Sublist.slnil | refine List.Sublist.cons_cons _ ?_ | refine List.Sublist.cons _ ?_ | exact List.nil_sublist _))
                  (repeat (first | exact True.intro | (refine And.intro ?_ ?_; focus (show _ = (_ : Value); first | exact rfl | (refine Eq.trans (b := Value.int IntKind.i64 _) rfl (congrArg (Value.int IntKind.i64) ?_); omega)))))
            refine AT_all1 ?_
            · refine FAt_op (by exact (rfl : _ = some (Oper.mk _ _ _ _ _ _))) ?_
              intro K Q' hK
              (repeat ((with_reducible refine is_extract ?_); (refine At_plain hF (by (exact (rfl : _ = some (Value.int _ _)))) ?_)))
              refine At_nilK (hK _ _ ?_)
              refine FAt_step (l := [8]) (by (repeat (first | exact List.Sublist.refl _ | exact List.Sublist.slnil | refine List.Sublist.cons_cons _ ?_ | refine List.Sublist.cons _ ?_ | exact List.nil_sublist _))) (by decide +kernel) ?_
              refine AT_all1 ?_
              · refine FAt_op (by exact (rfl : _ = some (Oper.mk _ _ _ _ _ _))) ?_
                intro K Q' hK
                (repeat ((with_reducible refine is_extract ?_); (refine At_plain hF (by (exact (rfl : _ = some (Value.agg _)))) ?_)))
                refine At_nilK (hK _ _ ?_)
                refine FAt_step (l := [11]) (by (repeat (first | exact List.Sublist.refl _ | exact List.Sublist.slnil | refine List.Sublist.cons_cons _ ?_ | refine List.Sublist.cons _ ?_ | exact List.nil_sublist _))) (by decide +kernel) ?_
                refine AT_all1 ?_
                · refine FAt_op (by exact (rfl : _ = some (Oper.mk _ _ _ _ _ _))) ?_
                  intro K Q' hK
                  (repeat ((with_reducible refine is_store ?_); (refine At_storeB_0 hF rfl rfl rfl rfl (by simp [Value.one1, epair]) ?_)))
                  refine At_nilK (hK _ _ ?_)
                  refine FAt_done (by (repeat (first | exact List.Sublist.refl _ | exact List.Sublist.slnil | refine List.Sublist.cons_cons _ ?_ | refine List.Sublist.cons _ ?_ | exact List.nil_sublist _))) (by decide +kernel) ?_
                  (repeat (first | ((with_reducible refine is_AL ?_); (first | ((with_reducible refine is_assign ?_); (refine At_plain hF (by (exact (rfl : _ = some (Value.int _ _)))) ?_)) | with_reducible refine At_nil ?_)) | ((with_reducible refine is_At ?_); (with_reducible refine At_then_n ?_))))
                  refine At.sub ?_ (hK' ((A5, c5, B5, d5, b15), T5) _ ⟨hs5, hk5⟩ ?_)
                  focus (repeat (first | exact List.Sublist.refl _ | exact List.Sublist.slnil | refine List.Sublist.cons_cons _ ?_ | refine List.Sublist.cons _ ?_ | exact List.nil_sublist _))
                  (repeat (first | exact True.intro | (refine And.intro ?_ ?_; focus (show _ = (_ : Value); first | exact rfl | (refine Eq.trans (b := Value.int IntKind.i64 _) rfl (congrArg (Value.int IntKind.i64) ?_); omega)))))
        refine AT_all1 ?_
        · refine FAt_op (by exact (rfl : _ = some (Oper.mk _ _ _ _ _ _))) ?_
          intro K Q' hK
          refine At_alloc hF (cs := #[.slice none 0 0, .slice none 0 0]) (by exact rfl) ?_
          intro b15
          refine At_nilK (hK _ _ ?_)
          refine FAt_step (l := [7]) (by (repeat (first | exact List.Sublist.refl _ | exact List.Sublist.slnil | refine List.Sublist.cons_cons _ ?_ | refine List.Sublist.cons _ ?_ | exact List.nil_sublist _))) (by decide +kernel) ?_
          refine AT_all1 ?_
          · refine FAt_op (by exact (rfl : _ = some (Oper.mk _ _ _ _ _ _))) ?_
            intro K Q' hK
            (repeat ((with_reducible refine is_move ?_); (refine At_plain hF (by (exact (rfl : _ = some (Value.tuple _)))) ?_)))
            refine At_nilK (hK _ _ ?_)
            refine FAt_step (l := [8, 9]) (by (repeat (first | exact List.Sublist.refl _ | exact List.Sublist.slnil | refine List.Sublist.cons_cons _ ?_ | refine List.Sublist.cons _ ?_ | exact List.nil_sublist _))) (by decide +kernel) ?_
            refine AT_all ?_ ?_
            · refine FAt_op (by exact (rfl : _ = some (Oper.mk _ _ _ _ _ _))) ?_
              intro K Q' hK
              (repeat ((with_reducible refine is_extract ?_); (refine At_plain hF (by (exact (rfl : _ = some (Value.agg _)))) ?_)))
              refine At_nilK (hK _ _ ?_)
              refine FAt_step (l := [9, 11]) (by (repeat (first | exact List.Sublist.refl _ | exact List.Sublist.slnil | refine List.Sublist.cons_cons _ ?_ | refine List.Sublist.cons _ ?_ | exact List.nil_sublist _))) (by decide +kernel) ?_
              refine AT_all ?_ ?_
              · refine FAt_op (by exact (rfl : _ = some (Oper.mk _ _ _ _ _ _))) ?_
                intro K Q' hK
                (repeat ((with_reducible refine is_extract ?_); (refine At_plain hF (by (exact (rfl : _ = some (Value.int _ _)))) ?_)))
                refine At_nilK (hK _ _ ?_)
                refine FAt_step (l := [11]) (by (repeat (first | exact List.Sublist.refl _ | exact List.Sublist.slnil | refine List.Sublist.cons_cons _ ?_ | refine List.Sublist.cons _ ?_ | exact List.nil_sublist _))) (by decide +kernel) ?_
                refine AT_all1 ?_
                · refine FAt_op (by exact (rfl : _ = some (Oper.mk _ _ _ _ _ _))) ?_
                  intro K Q' hK
                  (repeat ((with_reducible refine is_store ?_); (refine At_storeB_0 hF rfl rfl rfl rfl (by simp [Value.one1, epair]) ?_)))
                  refine At_nilK (hK _ _ ?_)
                  refine FAt_done (by (repeat (first | exact List.Sublist.refl _ | exact List.Sublist.slnil | refine List.Sublist.cons_cons _ ?_ | refine List.Sublist.cons _ ?_ | exact List.nil_sublist _))) (by decide +kernel) ?_
                  (repeat (first | ((with_reducible refine is_AL ?_); (first | ((with_reducible refine is_assign ?_); (refine At_plain hF (by (exact (rfl : _ = some (Value.int _ _)))) ?_)) | with_reducible refine At_nil ?_)) | ((with_reducible refine is_At ?_); (with_reducible refine At_then_n ?_))))
                  refine At.sub ?_ (hK' ((A5, c5, B5, d5, b15), T5) _ ⟨hs5, hk5⟩ ?_)
                  focus (repeat (first | exact List.Sublist.refl _ | exact List.Sublist.slnil | refine List.Sublist.cons_cons _ ?_ | refine List.Sublist.cons _ ?_ | exact List.nil_sublist _))
                  (repeat (first | exact True.intro | (refine And.intro ?_ ?_; focus (show _ = (_ : Value); first | exact rfl | (refine Eq.trans (b := Value.int IntKind.i64 _) rfl (congrArg (Value.int IntKind.i64) ?_); omega)))))
              refine AT_all1 ?_
              · refine FAt_op (by exact (rfl : _ = some (Oper.mk _ _ _ _ _ _))) ?_
                intro K Q' hK
                (repeat ((with_reducible refine is_store ?_); (refine At_storeB_0 hF rfl rfl rfl rfl (by simp [Value.one1, epair]) ?_)))
                refine At_nilK (hK _ _ ?_)
                refine FAt_step (l := [9]) (by (repeat (first | exact List.Sublist.refl _ | exact List.Sublist.slnil | refine List.Sublist.cons_cons _ ?_ | refine List.Sublist.cons _ ?_ | exact List.nil_sublist _))) (by decide +kernel) ?_
                refine AT_all1 ?_
                · refine FAt_op (by exact (rfl : _ = some (Oper.mk _ _ _ _ _ _))) ?_
                  intro K Q' hK
                  (repeat ((with_reducible refine is_extract ?_); (refine At_plain hF (by (exact (rfl : _ = some (Value.int _ _)))) ?_)))
                  refine At_nilK (hK _ _ ?_)
                  refine FAt_done (by (repeat (first | exact List.Sublist.refl _ | exact List.Sublist.slnil | refine List.Sublist.cons_cons _ ?_ | refine List.Sublist.cons _ ?_ | exact List.nil_sublist _))) (by decide +kernel) ?_
                  (repeat (first | ((with_reducible refine is_AL ?_); (first | ((with_reducible refine is_assign ?_); (refine At_plain hF (by (exact (rfl : _ = some (Value.int _ _)))) ?_)) | with_reducible refine At_nil ?_)) | ((with_reducible refine is_At ?_); (with_reducible refine At_then_n ?_))))
                  refine At.sub ?_ (hK' ((A5, c5, B5, d5, b15), T5) _ ⟨hs5, hk5⟩ ?_)
                  focus (repeat (first | exact List.Sublist.refl _ | exact List.Sublist.slnil | refine List.Sublist.cons_cons _ ?_ | refine List.Sublist.cons _ ?_ | exact List.nil_sublist _))
                  (repeat (first | exact True.intro | (refine And.intro ?_ ?_; focus (show _ = (_ : Value); first | exact rfl | (refine Eq.trans (b := Value.int IntKind.i64 _) rfl (congrArg (Value.int IntKind.i64) ?_); omega)))))
            refine AT_all1 ?_
            · refine FAt_op (by exact (rfl : _ = some (Oper.mk _ _ _ _ _ _))) ?_
              intro K Q' hK
              (repeat ((with_reducible refine is_extract ?_); (refine At_plain hF (by (exact (rfl : _ = some (Value.int _ _)))) ?_)))
              refine At_nilK (hK _ _ ?_)
              refine FAt_step (l := [8]) (by (repeat (first | exact List.Sublist.refl _ | exact List.Sublist.slnil | refine List.Sublist.cons_cons _ ?_ | refine List.Sublist.cons _ ?_ | exact List.nil_sublist _))) (by decide +kernel) ?_
              refine AT_all1 ?_
              · refine FAt_op (by exact (rfl : _ = some (Oper.mk _ _ _ _ _ _))) ?_
                intro K Q' hK
                (repeat ((with_reducible refine is_extract ?_); (refine At_plain hF (by (exact (rfl : _ = some (Value.agg _)))) ?_)))
                refine At_nilK (hK _ _ ?_)
                refine FAt_step (l := [11]) (by (repeat (first | exact List.Sublist.refl _ | exact List.Sublist.slnil | refine List.Sublist.cons_cons _ ?_ | refine List.Sublist.cons _ ?_ | exact List.nil_sublist _))) (by decide +kernel) ?_
                refine AT_all1 ?_
                · refine FAt_op (by exact (rfl : _ = some (Oper.mk _ _ _ _ _ _))) ?_
                  intro K Q' hK
                  (repeat ((with_reducible refine is_store ?_); (refine At_storeB_0 hF rfl rfl rfl rfl (by simp [Value.one1, epair]) ?_)))
                  refine At_nilK (hK _ _ ?_)
                  refine FAt_done (by (repeat (first | exact List.Sublist.refl _ | exact List.Sublist.slnil | refine List.Sublist.cons_cons _ ?_ | refine List.Sublist.cons _ ?_ | exact List.nil_sublist _))) (by decide +kernel) ?_
                  (repeat (first | ((with_reducible refine is_AL ?_); (first | ((with_reducible refine is_assign ?_); (refine At_plain hF (by (exact (rfl : _ = some (Value.int _ _)))) ?_)) | with_reducible refine At_nil ?_)) | ((with_reducible refine is_At ?_); (with_reducible refine At_then_n ?_))))
                  refine At.sub ?_ (hK' ((A5, c5, B5, d5, b15), T5) _ ⟨hs5, hk5⟩ ?_)
                  focus (repeat (first | exact List.Sublist.refl _ | exact List.Sublist.slnil | refine List.Sublist.cons_cons _ ?_ | refine List.Sublist.cons _ ?_ | exact List.nil_sublist _))
                  (repeat (first | exact True.intro | (refine And.intro ?_ ?_; focus (show _ = (_ : Value); first | exact rfl | (refine Eq.trans (b := Value.int IntKind.i64 _) rfl (congrArg (Value.int IntKind.i64) ?_); omega)))))
      refine AT_all1 ?_
      · refine FAt_op (by exact (rfl : _ = some (Oper.mk _ _ _ _ _ _))) ?_
        intro K Q' hK
        refine At_alloc hF (cs := #[.slice none 0 0, .slice none 0 0]) (by exact rfl) ?_
        intro b15
        refine At_nilK (hK _ _ ?_)
        refine FAt_step (l := [6]) (by (repeat (first | exact List.Sublist.refl _ | exact List.Sublist.slnil | refine List.Sublist.cons_cons _ ?_ | refine List.Sublist.cons _ ?_ | exact List.nil_sublist _))) (by decide +kernel) ?_
        refine AT_all1 ?_
        · refine FAt_op (by exact (rfl : _ = some (Oper.mk _ _ _ _ _ _))) ?_
          intro K Q' hK
          (first | refine At_send hF rfl 6 (T := T4) rfl ⟨A2, c2, B2, d2, N.q.eraseIdx k, N.a⟩ p (arg2 (by (first | exact (rfl : _ = (Value.int _ _)) | exact (rfl : _ = (Value.bool _)) | exact (rfl : _ = (Value.pointer _)) | exact (rfl : _ = (Value.slice _ _ _)) | exact (rfl : _ = (Value.map _)) | exact (rfl : _ = (Value.func _ _ _)) | exact (rfl : _ = (Value.tuple _)) | exact (rfl : _ = (Value.agg _)) | exact (rfl : _ = (Value.string _)) | exact (rfl : _ = (Value.nilFunc)) | exact (rfl : _ = (Value.nilIface)))) (by (first | exact (rfl : _ = (Value.int _ _)) | exact (rfl : _ = (Value.bool _)) | exact (rfl : _ = (Value.pointer _)) | exact (rfl : _ = (Value.slice _ _ _)) | exact (rfl : _ = (Value.map _)) | exact (rfl : _ = (Value.func _ _ _)) | exact (rfl : _ = (Value.tuple _)) | exact (rfl : _ = (Value.agg _)) | exact (rfl : _ = (Value.string _)) | exact (rfl : _ = (Value.nilFunc)) | exact (rfl : _ = (Value.nilIface))))) hk2 (Kp.of hrd) hsn ?_ | refine At_send hF rfl 7 (T := T4) rfl ⟨A2, c2, B2, d2, N.q.eraseIdx k, N.a⟩ p (arg2 (by (first | exact (rfl : _ = (Value.int _ _)) | exact (rfl : _ = (Value.bool _)) | exact (rfl : _ = (Value.pointer _)) | exact (rfl : _ = (Value.slice _ _ _)) | exact (rfl : _ = (Value.map _)) | exact (rfl : _ = (Value.func _ _ _)) | exact (rfl : _ = (Value.tuple _)) | exact (rfl : _ = (Value.agg _)) | exact (rfl : _ = (Value.string _)) | exact (rfl : _ = (Value.nilFunc)) | exact (rfl : _ = (Value.nilIface)))) (by (first | exact (rfl : _ = (Value.int _ _)) | exact (rfl : _ = (Value.bool _)) | exact (rfl : _ = (Value.pointer _)) | exact (rfl : _ = (Value.slice _ _ _)) | exact (rfl : _ = (Value.map _)) | exact (rfl : _ = (Value.func _ _ _)) | exact (rfl : _ = (Value.tuple _)) | exact (rfl : _ = (Value.agg _)) | exact (rfl : _ = (Value.string _)) | exact (rfl : _ = (Value.nilFunc)) | exact (rfl : _ = (Value.nilIface))))) hk2 (Kp.of hrd) hsn ?_)
          intro A5 c5 B5 d5 T5 hs5 hk5
          simp only [List.take_succ_cons, List.take_zero, List.cons_append, List.nil_append, retN]
          refine At_nilK (hK _ _ ?_)
          refine FAt_step (l := [7]) (by (repeat (first | exact List.Sublist.refl _ | exact List.Sublist.slnil | refine List.Sublist.cons_cons _ ?_ | refine List.Sublist.cons _ ?_ | exact List.nil_sublist _))) (by decide +kernel) ?_
          refine AT_all1 ?_
          · refine FAt_op (by exact (rfl : _ = some (Oper.mk _ _ _ _ _ _))) ?_
            intro K Q' hK
            (repeat ((with_reducible refine is_move ?_); (refine At_plain hF (by (exact (rfl : _ = some (Value.tuple _)))) ?_)))
            refine At_nilK (hK _ _ ?_)
            refine FAt_step (l := [8, 9]) (by (repeat (first | exact List.Sublist.refl _ | exact List.Sublist.slnil | refine List.Sublist.cons_cons _ ?_ | refine List.Sublist.cons _ ?_ | exact List.nil_sublist _))) (by decide +kernel) ?_
            refine AT_all ?_ ?_
            · refine FAt_op (by exact (rfl : _ = some (Oper.mk _ _ _ _ _ _))) ?_
              intro K Q' hK
              (repeat ((with_reducible refine is_extract ?_); (refine At_plain hF (by (exact (rfl : _ = some (Value.agg _)))) ?_)))
              refine At_nilK (hK _ _ ?_)
              refine FAt_step (l := [9, 11]) (by (repeat (first | exact List.Sublist.refl _ | exact List.Sublist.slnil | refine List.Sublist.cons_cons _ ?_ | refine List.Sublist.cons _ ?_ | exact List.nil_sublist _))) (by decide +kernel) ?_
              refine AT_all ?_ ?_
              · refine FAt_op (by exact (rfl : _ = some (Oper.mk _ _ _ _ _ _))) ?_
                intro K Q' hK
                (repeat ((with_reducible refine is_extract ?_); (refine At_plain hF (by (exact (rfl : _ = some (Value.int _ _)))) ?_)))
                refine At_nilK (hK _ _ ?_)
                refine FAt_step (l := [11]) (by (repeat (first | exact List.Sublist.refl _ | exact List.Sublist.slnil | refine List.Sublist.cons_cons _ ?_ | refine List.Sublist.cons _ ?_ | exact List.nil_sublist _))) (by decide +kernel) ?_
                refine AT_all1 ?_
                · refine FAt_op (by exact (rfl : _ = some (Oper.mk _ _ _ _ _ _))) ?_
                  intro K Q' hK
                  (repeat ((with_reducible refine is_store ?_); (refine At_storeB_0 hF rfl rfl rfl rfl (by simp [Value.one1, epair]) ?_)))
                  refine At_nilK (hK _ _ ?_)
                  refine FAt_done (by (repeat (first | exact List.Sublist.refl _ | exact List.Sublist.slnil | refine List.Sublist.cons_cons _ ?_ | refine List.Sublist.cons _ ?_ | exact List.nil_sublist _))) (by decide +kernel) ?_
                  (repeat (first | ((with_reducible refine is_AL ?_); (first | ((with_reducible refine is_assign ?_); (refine At_plain hF (by (exact (rfl : _ = some (Value.int _ _)))) ?_)) | with_reducible refine At_nil ?_)) | ((with_reducible refine is_At ?_); (with_reducible refine At_then_n ?_))))
                  refine At.sub ?_ (hK' ((A5, c5, B5, d5, b15), T5) _ ⟨hs5, hk5⟩ ?_)
                  focus (repeat (first | exact List.Sublist.refl _ | exact List.Sublist.slnil | refine List.Sublist.cons_cons _ ?_ | refine List.Sublist.cons _ ?_ | exact List.nil_sublist _))
                  (repeat (first | exact True.intro | (refine And.intro ?_ ?_; focus (show _ = (_ : Value); first | exact rfl | (refine Eq.trans (b := Value.int IntKind.i64 _) rfl (congrArg (Value.int IntKind.i64) ?_); omega)))))
              refine AT_all1 ?_
              · refine FAt_op (by exact (rfl : _ = some (Oper.mk _ _ _ _ _ _))) ?_
                intro K Q' hK
                (repeat ((with_reducible refine is_store ?_); (refine At_storeB_0 hF rfl rfl rfl rfl (by simp [Value.one1, epair]) ?_)))
                refine At_nilK (hK _ _ ?_)
                refine FAt_step (l := [9]) (by (repeat (first | exact List.Sublist.refl _ | exact List.Sublist.slnil | refine List.Sublist.cons_cons _ ?_ | refine List.Sublist.cons _ ?_ | exact List.nil_sublist _))) (by decide +kernel) ?_
                refine AT_all1 ?_
                · refine FAt_op (by exact (rfl : _ = some (Oper.mk _ _ _ _ _ _))) ?_
                  intro K Q' hK
                  (repeat ((with_reducible refine is_extract ?_); (refine At_plain hF (by (exact (rfl : _ = some (Value.int _ _)))) ?_)))
                  refine At_nilK (hK _ _ ?_)
                  refine FAt_done (by (repeat (first | exact List.Sublist.refl _ | exact List.Sublist.slnil | refine List.Sublist.cons_cons _ ?_ | refine List.Sublist.cons _ ?_ | exact List.nil_sublist _))) (by decide +kernel) ?_
                  (repeat (first | ((with_reducible refine is_AL ?_); (first | ((with_reducible refine is_assign ?_); (refine At_plain hF (by (exact (rfl : _ = some (Value.int _ _)))) ?_)) | with_reducible refine At_nil ?_)) | ((with_reducible refine is_At ?_); (with_reducible refine At_then_n ?_))))
                  refine At.sub ?_ (hK' ((A5, c5, B5, d5, b15), T5) _ ⟨hs5, hk5⟩ ?_)
                  focus (repeat (first | exact List.Sublist.refl _ | exact List.Sublist.slnil | refine List.Sublist.cons_cons _ ?_ | refine List.Sublist.cons _ ?_ | exact List.nil_sublist _))
                  (repeat (first | exact True.intro | (refine And.intro ?_ ?_; focus (show _ = (_ : Value); first | exact rfl | (refine Eq.trans (b := Value.int IntKind.i64 _) rfl (congrArg (Value.int IntKind.i64) ?_); omega)))))
            refine AT_all1 ?_
            · refine FAt_op (by exact (rfl : _ = some (Oper.mk _ _ _ _ _ _))) ?_
              intro K Q' hK
              (repeat ((with_reducible refine is_extract ?_); (refine At_plain hF (by (exact (rfl : _ = some (Value.int _ _)))) ?_)))
              refine At_nilK (hK _ _ ?_)
              refine FAt_step (l := [8]) (by (repeat (first | exact List.Sublist.refl _ | exact List.Sublist.slnil | refine List.Sublist.cons_cons _ ?_ | refine List.Sublist.cons _ ?_ | exact List.nil_sublist _))) (by decide +kernel) ?_
              refine AT_all1 ?_
              · refine FAt_op (by exact (rfl : _ = some (Oper.mk _ _ _ _ _ _))) ?_
                intro K Q' hK
                (repeat ((with_reducible refine is_extract ?_); (refine At_plain hF (by (exact (rfl : _ = some (Value.agg _)))) ?_)))
                refine At_nilK (hK _ _ ?_)
                refine FAt_step (l := [11]) (by (repeat (first | exact List.Sublist.refl _ | exact List.Sublist.slnil | refine List.Sublist.cons_cons _ ?_ | refine List.Sublist.cons _ ?_ | exact List.nil_sublist _))) (by decide +kernel) ?_
                refine AT_all1 ?_
                · refine FAt_op (by exact (rfl : _ = some (Oper.mk _ _ _ _ _ _))) ?_
                  intro K Q' hK
                  (repeat ((with_reducible refine is_store ?_); (refine At_storeB_0 hF rfl rfl rfl rfl (by simp [Value.one1, epair]) ?_)))
                  refine At_nilK (hK _ _ ?_)
                  refine FAt_done (by (repeat (first | exact List.Sublist.refl _ | exact List.Sublist.slnil | refine List.Sublist.cons_cons _ ?_ | refine List.Sublist.cons _ ?_ | exact List.nil_sublist _))) (by decide +kernel) ?_
                  (repeat (first | ((with_reducible refine is_AL ?_); (first | ((with_reducible refine is_assign ?_); (refine At_plain hF (by (exact (rfl : _ = some (Value.int _ _)))) ?_)) | with_reducible refine At_nil ?_)) | ((with_reducible refine is_At ?_); (with_reducible refine At_then_n ?_))))
                  refine At.sub ?_ (hK' ((A5, c5, B5, d5, b15), T5) _ ⟨hs5, hk5⟩ ?_)
                  focus (repeat (first | exact List.Sublist.refl _ | exact List.Sublist.slnil | refine List.Sublist.cons_cons _ ?_ | refine List.Sublist.cons _ ?_ | exact List.nil_sublist _))
                  (repeat (first | exact True.intro | (refine And.intro ?_ ?_; focus (show _ = (_ : Value); first | exact rfl | (refine Eq.trans (b := Value.int IntKind.i64 _) rfl (congrArg (Value.int IntKind.i64) ?_); omega)))))
    rintro ⟨⟨A5, c5, B5, d5, b15⟩, T5⟩ ρ1 ⟨hs5, hk5⟩
    dsimp only at hs5 hk5 ⊢
    replace hk1 := hk1.mono hs5
    replace hk2 := hk2.mono hs5
    replace hk4 := hk4.mono hs5
    refine At_go (by assumption) ?_
    (repeat (first | ((with_reducible refine is_AL ?_); (first | ((with_reducible refine is_guarded ?_); (refine At_guard_t rfl (by decide) rfl ?_)) | ((with_reducible refine is_move ?_); (refine At_plain hF (by (first | exact (rfl : _ = some (Value.int _ _)) | exact (rfl : _ = some (Value.bool _)))) ?_)) | ((with_reducible refine is_bin ?_); (refine At_plain hF (by (exact (rfl : _ = some (Value.bool _)))) ?_)) | ((with_reducible refine is_pick ?_); (refine At_plain hF (by (exact (rfl : _ = some (Value.bool _)))) ?_)) | ((with_reducible refine is_load ?_); (first | refine At_loadB hF 3 rfl rfl rfl ?_ | refine At_loadB hF 4 rfl rfl rfl ?_)))) | ((with_reducible refine is_At ?_); (first | with_reducible refine At_seq ?_; intro K hK | with_reducible refine At_region ?_))))
    refine At_callB hF E15 rfl (arg2 (by (first | exact (rfl : _ = (Value.int _ _)) | exact (rfl : _ = (Value.bool _)) | exact (rfl : _ = (Value.pointer _)) | exact (rfl : _ = (Value.slice _ _ _)) | exact (rfl : _ = (Value.map _)) | exact (rfl : _ = (Value.func _ _ _)) | exact (rfl : _ = (Value.tuple _)) | exact (rfl : _ = (Value.agg _)) | exact (rfl : _ = (Value.string _)) | exact (rfl : _ = (Value.nilFunc)) | exact (rfl : _ = (Value.nilIface)))) (by (first | exact (rfl : _ = (Value.int _ _)) | exact (rfl : _ = (Value.bool _)) | exact (rfl : _ = (Value.pointer _)) | exact (rfl : _ = (Value.slice _ _ _)) | exact (rfl : _ = (Value.map _)) | exact (rfl : _ = (Value.func _ _ _)) | exact (rfl : _ = (Value.tuple _)) | exact (rfl : _ = (Value.agg _)) | exact (rfl : _ = (Value.string _)) | exact (rfl : _ = (Value.nilFunc)) | exact (rfl : _ = (Value.nilIface))))) (fun w' hw' => sameN_rets ⟨A1, c1, B1, d1, N.q.eraseIdx k, N.a⟩ ⟨A2, c2, B2, d2, N.q.eraseIdx k, N.a⟩ w' (hk1.at 6 rfl hw') (hk2.at 6 rfl hw') rfl rfl) ?_
    (repeat ((with_reducible refine is_AL ?_); (first | ((with_reducible refine is_guarded ?_); (refine At_guard_t rfl (by decide) rfl ?_)) | ((with_reducible refine is_move ?_); (refine At_plain hF (by (exact (rfl : _ = some (Value.bool _)))) ?_)) | ((with_reducible refine is_pick ?_); (refine At_plain hF (by (exact (rfl : _ = some (Value.bool _)))) ?_)) | ((with_reducible refine is_load ?_); (first | refine At_loadB hF 0 rfl rfl rfl ?_ | refine At_loadB hF 1 rfl rfl rfl ?_)))))
    refine At_callB hF E15 rfl (arg2 (by (first | exact (rfl : _ = (Value.int _ _)) | exact (rfl : _ = (Value.bool _)) | exact (rfl : _ = (Value.pointer _)) | exact (rfl : _ = (Value.slice _ _ _)) | exact (rfl : _ = (Value.map _)) | exact (rfl : _ = (Value.func _ _ _)) | exact (rfl : _ = (Value.tuple _)) | exact (rfl : _ = (Value.agg _)) | exact (rfl : _ = (Value.string _)) | exact (rfl : _ = (Value.nilFunc)) | exact (rfl : _ = (Value.nilIface)))) (by (first | exact (rfl : _ = (Value.int _ _)) | exact (rfl : _ = (Value.bool _)) | exact (rfl : _ = (Value.pointer _)) | exact (rfl : _ = (Value.slice _ _ _)) | exact (rfl : _ = (Value.map _)) | exact (rfl : _ = (Value.func _ _ _)) | exact (rfl : _ = (Value.tuple _)) | exact (rfl : _ = (Value.agg _)) | exact (rfl : _ = (Value.string _)) | exact (rfl : _ = (Value.nilFunc)) | exact (rfl : _ = (Value.nilIface))))) (fun w' hw' => sameN_rets ⟨A4, c4, B4, d4, N.q.eraseIdx k ++ [p], N.a⟩ ⟨A5, c5, B5, d5, N.q.eraseIdx k ++ [p], N.a⟩ w' (hk4.at 6 rfl hw') (hk5.at 6 rfl hw') rfl rfl) ?_
    (repeat (first | ((with_reducible refine is_AL ?_); (first | ((with_reducible refine is_guarded ?_); (refine At_guard_t rfl (by decide) rfl ?_)) | ((with_reducible refine is_move ?_); (refine At_plain hF (by (exact (rfl : _ = some (Value.bool _)))) ?_)) | ((with_reducible refine is_bin ?_); (first | ((with_reducible refine is_badd ?_); (refine At_add hF rfl rfl (by omega) ?_)) | refine At_plain hF (by (exact (rfl : _ = some (Value.bool _)))) ?_)) | ((with_reducible refine is_assign ?_); (refine At_plain hF (by (exact (rfl : _ = some (Value.bool _)))) ?_)) | ((with_reducible refine is_pick ?_); (refine At_plain hF (by (exact (rfl : _ = some (Value.bool _)))) ?_)) | ((with_reducible refine is_call ?_); (refine At_len hF rfl ?_)) | ((with_reducible refine is_field ?_); (refine At_field hF rfl ?_)) | ((with_reducible refine is_load ?_); (first | refine At_load hF 2 (by exact rfl) rfl (by (exact (rfl : _ = some (Value.slice _ _ _)))) ?_ | refine At_load hF 5 (by exact rfl) rfl (by (exact (rfl : _ = some (Value.slice _ _ _)))) ?_)) | with_reducible refine At_nil ?_)) | ((with_reducible refine is_At ?_); (first | with_reducible refine At_ret ?_ | with_reducible refine At_then_n ?_ | with_reducible refine At_go (by assumption) ?_))))
    rw [show (((N.q ++ [p]).length : Int) == (N.q.length : Int) + 1) = true by rw [beq_iff_eq, List.length_append]; simp]
    skip
    exact At_ret1 rfl (rv_tmp (by decide)) (fun w' hw' => ⟨_, rfl, rfl, hw'.below⟩)
theorem law_NetworkLost.calls (N : NET) (at0 : Int) (hw : (Lit.int .u64 at0).wf = true) (w : World) (h : N.ok w) : Calls Try.prog 8 #[N.v, .int .u64 at0] w fun e w' => e = .returned (.bool true) ∧ Below w.heap.size w w' := by
  simp only [Lit.wf, Bool.and_eq_true, decide_eq_true_eq] at hw
  exact (netLost_rets N at0 hw w h).mono (by rintro e w' ⟨u, rfl, rfl, hb⟩; exact ⟨rfl, hb⟩)
end Go.Proofs.Ytmilnlcegcdolaa.P
