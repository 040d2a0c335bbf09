/- CarryCounts: the law's walk. -/
import Derived.Test.YtcjpghiceebkfaaCntFacts
import Derived.Test.YtcjpghiceebkfaaRightLaw
import Derived.Test.YtcjpghiceebkfaaXDrawT
namespace Go.Proofs.Ytcjpghiceebkfaa.P
open Go.RowKit Go.Proofs.YtcjpghiceebkfaaW.PrintWords Go.Proofs.YtcjpghiceebkfaaW.PrintLast Go.Proofs.YtcjpghiceebkfaaW.PrintMore
open XW RegInv
attribute [local irreducible] Addr.add
set_option linter.unusedSimpArgs false
set_option linter.unusedVariables false

theorem E9 : Enters Try.prog 9 := enters Try.func9 (by kernel_rfl) rfl
theorem E21 : Enters Try.prog 21 := enters Try.func21 (by kernel_rfl) rfl
theorem E13 : Enters Try.prog 13 := enters Try.func13 (by kernel_rfl) rfl
theorem sane_rets (w : World) : Rets Try.prog 9 #[] w fun u w' => u = .bool true ∧ Below w.heap.size w w' :=
  (fastilaw22_sane.calls 20 true w sane_at).mono (by rintro e w'' ⟨rfl, hb⟩; exact ⟨_, rfl, rfl, hb⟩)
theorem right_rets (n : Int) (A : Option Addr) (c : Nat) (m : List S45) (w : World) (hr : Kd.C k45 w A m.length m) (hc : m.length ≤ c) : Rets Try.prog 21 #[.int .i64 n, .slice A m.length c] w fun u w' => u = .bool (decide ((m.length : Int) ≤ 700) && rightB n m) ∧ Below w.heap.size w w' :=
  (fastilaw22_right.calls (2 * m.length + 2) n A c m _ w hr hc (Pure.right_law _ n m (Nat.le_refl _))).mono (by rintro e w'' ⟨rfl, hb⟩; exact ⟨_, rfl, rfl, hb⟩)
set_option maxHeartbeats 8000000 in
theorem counts_rets (n : Int) (A : Option Addr) (c : Nat) (m : List S45) (w : World) (hr : Kd.C k45 w A m.length m) (hc : m.length ≤ c) :
    Rets Try.prog 5 #[.int .i64 n, .slice A m.length c] w fun u w' => u = .bool true ∧ Below w.heap.size w w' := by
  have hF := wide_wide
  have hmx := hr.2.1
  refine rets_at (n := 167) Try.func5 rfl Try.ntmps5 (by simp) ?_
  (repeat (first | ((with_reducible refine is_AL ?_); (first | ((with_reducible refine is_assign ?_); (refine At_plain hF (by (exact (rfl : _ = some (Value.bool _)))) ?_)) | with_reducible refine At_nil ?_)) | ((with_reducible refine is_At ?_); (first | with_reducible refine At_seq ?_; intro K hK | with_reducible refine At_region ?_ | with_reducible refine At_then_n ?_ | with_reducible refine At_go (by assumption) ?_))))
  refine At_callB hF E9 rfl (vs := #[]) (by simp) (fun w' hw' => sane_rets w') ?_
  (repeat (first | ((with_reducible refine is_AL ?_); (first | ((with_reducible refine is_move ?_); (refine At_plain hF (by (first | exact (rfl : _ = some (Value.int _ _)) | exact (rfl : _ = some (Value.slice _ _ _)))) ?_)) | ((with_reducible refine is_un ?_); (refine At_plain hF (by (exact (rfl : _ = some (Value.bool _)))) ?_)) | with_reducible refine At_nil ?_)) | ((with_reducible refine is_At ?_); (first | with_reducible refine At_seq ?_; intro K hK | with_reducible refine At_region ?_ | with_reducible refine At_skip ?_ | with_reducible refine At_then_n ?_ | with_reducible refine At_go (by assumption) ?_ | ((with_reducible refine is_cond ?_); (refine At_cond_f rfl ?_))))))
  refine At_callB hF E21 rfl (arg2 (by (first | exact (rfl : _ = (Value.int _ _)) | exact (rfl : _ = (Value.bool _)) | exact (rfl : _ = (Value.pointer _)) | exact (rfl : _ = (Value.slice _ _ _)) | exact (rfl : _ = (Value.map _)) | exact (rfl : _ = (Value.func _ _ _)) | exact (rfl : _ = (Value.tuple _)) | exact (rfl : _ = (Value.agg _)) | exact (rfl : _ = (Value.string _)) | exact (rfl : _ = (Value.nilFunc)) | exact (rfl : _ = (Value.nilIface)))) (by (first | exact (rfl : _ = (Value.int _ _)) | exact (rfl : _ = (Value.bool _)) | exact (rfl : _ = (Value.pointer _)) | exact (rfl : _ = (Value.slice _ _ _)) | exact (rfl : _ = (Value.map _)) | exact (rfl : _ = (Value.func _ _ _)) | exact (rfl : _ = (Value.tuple _)) | exact (rfl : _ = (Value.agg _)) | exact (rfl : _ = (Value.string _)) | exact (rfl : _ = (Value.nilFunc)) | exact (rfl : _ = (Value.nilIface))))) (fun w' hw' => right_rets n A c m w' (Kd.C_below hr hw'.below) hc) ?_
  cases hrt : (decide ((m.length : Int) ≤ 700) && rightB n m) with
  | false =>
    (repeat (first | ((with_reducible refine is_AL ?_); (first | ((with_reducible refine is_assign ?_); (refine At_plain hF (by (exact (rfl : _ = some (Value.bool _)))) ?_)) | ((with_reducible refine is_un ?_); (refine At_plain hF (by (exact (rfl : _ = some (Value.bool _)))) ?_)) | with_reducible refine At_nil ?_)) | ((with_reducible refine is_At ?_); (first | with_reducible refine At_seq ?_; intro K hK | with_reducible refine At_region ?_ | with_reducible refine At_ret ?_ | with_reducible refine At_then_n ?_ | with_reducible refine At_then_r ?_ | with_reducible refine At_go (by assumption) ?_ | ((with_reducible refine is_cond ?_); (refine At_cond_t rfl ?_))))))
    exact At_ret1 rfl (rv_tmp (by decide)) (fun w' hw' => ⟨_, rfl, rfl, hw'.below⟩)
  | true =>
    obtain ⟨hm, es, r, hff⟩ := Pure.few_inv hrt
    have hrb : rightB n m = true := by simp only [Bool.and_eq_true] at hrt; exact hrt.2
    have hm1 : m.length ≤ 1000000 := by omega
    have hok := fun es r hf => foes_ok n m hm1 es r hf
    obtain ⟨hf, hn2⟩ := fine_of hrb
    obtain ⟨N, rfl⟩ : ∃ N : Nat, n = N := ⟨n.toNat, by omega⟩
    simp only [Int.toNat_natCast] at *
    have hn20 := hf.n20
    (repeat (first | ((with_reducible refine is_AL ?_); (first | ((with_reducible refine is_move ?_); (refine At_plain hF (by (first | exact (rfl : _ = some (Value.int _ _)) | exact (rfl : _ = some (Value.slice _ _ _)))) ?_)) | ((with_reducible refine is_un ?_); (refine At_plain hF (by (exact (rfl : _ = some (Value.bool _)))) ?_)) | with_reducible refine At_nil ?_)) | ((with_reducible refine is_At ?_); (first | with_reducible refine At_seq ?_; intro K hK | with_reducible refine At_region ?_ | with_reducible refine At_skip ?_ | with_reducible refine At_then_n ?_ | with_reducible refine At_go (by assumption) ?_ | ((with_reducible refine is_cond ?_); (refine At_cond_f rfl ?_))))))
    refine At_callM hF E11 rfl (arg2 (by (first | exact (rfl : _ = (Value.int _ _)) | exact (rfl : _ = (Value.bool _)) | exact (rfl : _ = (Value.pointer _)) | exact (rfl : _ = (Value.slice _ _ _)) | exact (rfl : _ = (Value.map _)) | exact (rfl : _ = (Value.func _ _ _)) | exact (rfl : _ = (Value.tuple _)) | exact (rfl : _ = (Value.agg _)) | exact (rfl : _ = (Value.string _)) | exact (rfl : _ = (Value.nilFunc)) | exact (rfl : _ = (Value.nilIface)))) (by (first | exact (rfl : _ = (Value.int _ _)) | exact (rfl : _ = (Value.bool _)) | exact (rfl : _ = (Value.pointer _)) | exact (rfl : _ = (Value.slice _ _ _)) | exact (rfl : _ = (Value.map _)) | exact (rfl : _ = (Value.func _ _ _)) | exact (rfl : _ = (Value.tuple _)) | exact (rfl : _ = (Value.agg _)) | exact (rfl : _ = (Value.string _)) | exact (rfl : _ = (Value.nilFunc)) | exact (rfl : _ = (Value.nilIface))))) (fun w' hw' => matrix_rets N A c m w' (Kd.C_below hr hw'.below) hc hok) ?_
    intro u Rs hp
    unfold matPost at hp
    rw [hff] at hp
    obtain ⟨bc, bs, M, xs, hall, hM, hbs, rfl, rfl⟩ := hp
    obtain ⟨_, _, hes⟩ := hok es r hff
    simp only [Int.toNat_natCast] at *
    have hM' : M = cntM N (es.filterMap (nxt es r)) := hM.trans (mat_eq hes hall)
    rw [buf_map]
    simp only [List.cons_append, List.nil_append]
    (repeat (first | ((with_reducible refine is_AL ?_); (first | ((with_reducible refine is_move ?_); (refine At_plain hF (by (first | exact (rfl : _ = some (Value.int _ _)) | exact (rfl : _ = some (Value.slice _ _ _)) | exact (rfl : _ = some (Value.tuple _)))) ?_)) | ((with_reducible refine is_assign ?_); (refine At_plain hF (by (first | exact (rfl : _ = some (Value.int _ _)) | exact (rfl : _ = some (Value.slice _ _ _)))) ?_)) | ((with_reducible refine is_extract ?_); (refine At_plain hF (by (first | exact (rfl : _ = some (Value.int _ _)) | exact (rfl : _ = some (Value.slice _ _ _)))) ?_)) | with_reducible refine At_nil ?_)) | ((with_reducible refine is_At ?_); (first | with_reducible refine At_seq ?_; intro K hK | with_reducible refine At_region ?_ | with_reducible refine At_then_n ?_ | with_reducible refine At_go (by assumption) ?_))))
    refine At_callB hF E13 rfl (arg2 (by (first | exact (rfl : _ = (Value.int _ _)) | exact (rfl : _ = (Value.bool _)) | exact (rfl : _ = (Value.pointer _)) | exact (rfl : _ = (Value.slice _ _ _)) | exact (rfl : _ = (Value.map _)) | exact (rfl : _ = (Value.func _ _ _)) | exact (rfl : _ = (Value.tuple _)) | exact (rfl : _ = (Value.agg _)) | exact (rfl : _ = (Value.string _)) | exact (rfl : _ = (Value.nilFunc)) | exact (rfl : _ = (Value.nilIface)))) (by (first | exact (rfl : _ = (Value.int _ _)) | exact (rfl : _ = (Value.bool _)) | exact (rfl : _ = (Value.pointer _)) | exact (rfl : _ = (Value.slice _ _ _)) | exact (rfl : _ = (Value.map _)) | exact (rfl : _ = (Value.func _ _ _)) | exact (rfl : _ = (Value.tuple _)) | exact (rfl : _ = (Value.agg _)) | exact (rfl : _ = (Value.string _)) | exact (rfl : _ = (Value.nilFunc)) | exact (rfl : _ = (Value.nilIface))))) (fun w' hw' => value_rets N A c m w' (Kd.C_below hr hw'.below) hc hm1) ?_
    rw [hff]
    dsimp only
    rw [Int.toNat_natCast, ← hM']
    (repeat (first | ((with_reducible refine is_AL ?_); (first | ((with_reducible refine is_guarded ?_); (refine At_guard_t rfl (by decide) rfl ?_)) | ((with_reducible refine is_move ?_); (refine At_plain hF (by (first | exact (rfl : _ = some (Value.int _ _)) | exact (rfl : _ = some (Value.bool _)) | exact (rfl : _ = some (Value.slice _ _ _)) | exact (rfl : _ = some (Value.tuple _)))) ?_)) | ((with_reducible refine is_bin ?_); (refine At_plain hF (by (exact (rfl : _ = some (Value.bool _)))) ?_)) | ((with_reducible refine is_assign ?_); (refine At_plain hF (by (exact (rfl : _ = some (Value.int _ _)))) ?_)) | ((with_reducible refine is_pick ?_); (refine At_plain hF (by (exact (rfl : _ = some (Value.bool _)))) ?_)) | ((with_reducible refine is_extract ?_); (refine At_plain hF (by (exact (rfl : _ = some (Value.int _ _)))) ?_)) | ((with_reducible refine is_call ?_); (refine At_len hF rfl ?_)) | with_reducible refine At_nil ?_)) | ((with_reducible refine is_At ?_); (first | with_reducible refine At_seq ?_; intro K hK | with_reducible refine At_region ?_ | with_reducible refine At_then_n ?_ | with_reducible refine At_go (by assumption) ?_))))
    ((with_reducible refine is_cond ?_); (refine At_cond rfl ?_ ?_ <;> (intro hg; try (simp only [decide_eq_true_eq, decide_eq_false_iff_not, beq_iff_eq, bne_iff_ne, beq_eq_false_iff_ne, bne_eq_false_iff_eq, ne_eq, Bool.not_eq_true', Bool.not_eq_false', Bool.not_true, Bool.not_false, Decidable.not_not] at hg); try (exfalso; first | omega | exact hg True.intro))))
    (repeat (first | ((with_reducible refine is_AL ?_); ((with_reducible refine is_move ?_); (refine At_plain hF (by (first | exact (rfl : _ = some (Value.int _ _)) | exact (rfl : _ = some (Value.slice _ _ _)))) ?_))) | ((with_reducible refine is_At ?_); (first | with_reducible refine At_seq ?_; intro K hK | with_reducible refine At_region ?_ | with_reducible refine At_skip ?_ | with_reducible refine At_then_n ?_ | with_reducible refine At_go (by assumption) ?_))))
    refine At_callM hF E22 rfl (arg2 (by (first | exact (rfl : _ = (Value.int _ _)) | exact (rfl : _ = (Value.bool _)) | exact (rfl : _ = (Value.pointer _)) | exact (rfl : _ = (Value.slice _ _ _)) | exact (rfl : _ = (Value.map _)) | exact (rfl : _ = (Value.func _ _ _)) | exact (rfl : _ = (Value.tuple _)) | exact (rfl : _ = (Value.agg _)) | exact (rfl : _ = (Value.string _)) | exact (rfl : _ = (Value.nilFunc)) | exact (rfl : _ = (Value.nilIface)))) (by (first | exact (rfl : _ = (Value.int _ _)) | exact (rfl : _ = (Value.bool _)) | exact (rfl : _ = (Value.pointer _)) | exact (rfl : _ = (Value.slice _ _ _)) | exact (rfl : _ = (Value.map _)) | exact (rfl : _ = (Value.func _ _ _)) | exact (rfl : _ = (Value.tuple _)) | exact (rfl : _ = (Value.agg _)) | exact (rfl : _ = (Value.string _)) | exact (rfl : _ = (Value.nilFunc)) | exact (rfl : _ = (Value.nilIface))))) (fun w' hw' => foesM_rets hw' N A c m (Kd.C_below hr hw'.below) hc hm1 hf) ?_
    rintro u Rs ⟨bf, Af, cf, hbf, rfl, rfl⟩
    simp only [List.cons_append, List.nil_append]
    obtain ⟨hRect, hVals, hR64, hrows, hcols⟩ := counts_facts (by omega) hff hrb
    rw [← hM'] at hrows hcols
    have hMl : M.length = N := by rw [hM', cntM_len]
    have hMr := cntM_row N (es.filterMap (nxt es r))
    rw [← hM'] at hMr
    have hMb := cntM_bd (N := N) (xs := es.filterMap (nxt es r)) (Nat.le_trans (List.length_filterMap_le _ _) hes.len)
    rw [← hM'] at hMb
    generalize hRR : (roundsF m).toNat = RR at *
    generalize foesM N m = F at *
    clear hM' hM hall hf hok
    (repeat (first | ((with_reducible refine is_AL ?_); (first | ((with_reducible refine is_assign ?_); (refine At_plain hF (by (exact (rfl : _ = some (Value.slice _ _ _)))) ?_)) | with_reducible refine At_nil ?_)) | ((with_reducible refine is_At ?_); (first | with_reducible refine At_seq ?_; intro K hK | with_reducible refine At_then_n ?_ | with_reducible refine At_go (by assumption) ?_))))
    refine At_mergeE (fun s : Nat × Nat => [(0, .int .i64 N), (5, .slice (some ⟨bc, 0, none⟩) N N), (7, .int .i64 (sqsM M)), (9, .slice (Af.map fun b => ⟨b, 0, none⟩) RR cf), (10, .slice (some ⟨s.1, 0, none⟩) N N), (11, .slice (some ⟨s.2, 0, none⟩) N N), (12, .int .i64 0), (13, .bool true)])
      (fun s => [.obj s.1 (.cells (buf (sc (Value.int .i64)) (List.replicate N 0) []) 3), .obj s.2 (.cells (buf (sc (Value.int .i64)) (List.replicate N 0) []) 3), .row 33 1 (sc (gvc N)) Af cf bf, .gridc 3 (Value.int .i64) bf F, .obj bc (.cells (buf (sc (gv N)) bs []) 33), .grid 3 (Value.int .i64) bs M]) (fun _ => True) ?_ ?_
    · intro K' hK'
      refine At_drawT hF 5 (by kernel_rfl) (by decide +kernel) ?_; simp only [List.drop_succ_cons, List.drop_zero]
      refine AT_step (l := [0, 2]) (by decide +kernel) ?_
      refine AT_all ?_ ?_
      · refine AT_op (by exact (rfl : _ = some (Oper.mk _ _ _ _ _ _))) ?_
        intro K Q' hK
        (repeat ((with_reducible refine is_move ?_); (refine At_plain hF (by (exact (rfl : _ = some (Value.int _ _)))) ?_)))
        refine At_nilK (hK _ _ ?_)
        refine AT_step (l := [1, 2]) (by decide +kernel) ?_
        refine AT_all ?_ ?_
        · refine AT_op (by exact (rfl : _ = some (Oper.mk _ _ _ _ _ _))) ?_
          intro K Q' hK
          (refine At_make hF (Value.int .i64) 0 rfl rfl rfl rfl (by exact rfl) (by exact rfl) (by simp only [TS.bytes] <;> omega) (by omega) ?_; intro b10)
          refine At_nilK (hK _ _ ?_)
          refine AT_step (l := [2, 4]) (by decide +kernel) ?_
          refine AT_all ?_ ?_
          · refine AT_op (by exact (rfl : _ = some (Oper.mk _ _ _ _ _ _))) ?_
            intro K Q' hK
            (repeat ((with_reducible refine is_move ?_); (refine At_plain hF (by (exact (rfl : _ = some (Value.int _ _)))) ?_)))
            refine At_nilK (hK _ _ ?_)
            refine AT_step (l := [3, 4]) (by decide +kernel) ?_
            refine AT_all ?_ ?_
            · refine AT_op (by exact (rfl : _ = some (Oper.mk _ _ _ _ _ _))) ?_
              intro K Q' hK
              (refine At_make hF (Value.int .i64) 0 rfl rfl rfl rfl (by exact rfl) (by exact rfl) (by simp only [TS.bytes] <;> omega) (by omega) ?_; intro b11)
              refine At_nilK (hK _ _ ?_)
              refine AT_step (l := [4]) (by decide +kernel) ?_
              refine AT_all1 ?_
              · refine AT_op (by exact (rfl : _ = some (Oper.mk _ _ _ _ _ _))) ?_
                intro K Q' hK
                (repeat ((with_reducible refine is_assign ?_); (refine At_plain hF (by (exact (rfl : _ = some (Value.slice _ _ _)))) ?_)))
                refine At_nilK (hK _ _ ?_)
                refine AT_done ?_
                (repeat (first | ((with_reducible refine is_AL ?_); (first | ((with_reducible refine is_assign ?_); (refine At_plain hF (by (first | exact (rfl : _ = some (Value.int _ _)) | exact (rfl : _ = some (Value.bool _)) | exact (rfl : _ = some (Value.slice _ _ _)))) ?_)) | with_reducible refine At_nil ?_)) | ((with_reducible refine is_At ?_); (with_reducible refine At_then_n ?_))))
                first | (refine At.pick [0, 1, 2, 3, 4, 5] (by decide) rfl ?_; refine hK' (b10, b11) _ trivial ?_; (repeat (first | exact True.intro | (refine And.intro ?_ ?_; focus (show _ = (_ : Value); first | exact rfl | (refine Eq.trans (b := Value.int IntKind.i64 _) rfl (congrArg (Value.int IntKind.i64) ?_); omega))))); done) | (refine At.pick [1, 0, 2, 3, 4, 5] (by decide) rfl ?_; refine hK' (b10, b11) _ trivial ?_; (repeat (first | exact True.intro | (refine And.intro ?_ ?_; focus (show _ = (_ : Value); first | exact rfl | (refine Eq.trans (b := Value.int IntKind.i64 _) rfl (congrArg (Value.int IntKind.i64) ?_); omega))))); done)
            refine AT_all1 ?_
            · refine AT_op (by exact (rfl : _ = some (Oper.mk _ _ _ _ _ _))) ?_
              intro K Q' hK
              (repeat ((with_reducible refine is_assign ?_); (refine At_plain hF (by (exact (rfl : _ = some (Value.slice _ _ _)))) ?_)))
              refine At_nilK (hK _ _ ?_)
              refine AT_step (l := [3]) (by decide +kernel) ?_
              refine AT_all1 ?_
              · refine AT_op (by exact (rfl : _ = some (Oper.mk _ _ _ _ _ _))) ?_
                intro K Q' hK
                (refine At_make hF (Value.int .i64) 0 rfl rfl rfl rfl (by exact rfl) (by exact rfl) (by simp only [TS.bytes] <;> omega) (by omega) ?_; intro b11)
                refine At_nilK (hK _ _ ?_)
                refine AT_done ?_
                (repeat (first | ((with_reducible refine is_AL ?_); (first | ((with_reducible refine is_assign ?_); (refine At_plain hF (by (first | exact (rfl : _ = some (Value.int _ _)) | exact (rfl : _ = some (Value.bool _)) | exact (rfl : _ = some (Value.slice _ _ _)))) ?_)) | with_reducible refine At_nil ?_)) | ((with_reducible refine is_At ?_); (with_reducible refine At_then_n ?_))))
                first | (refine At.pick [0, 1, 2, 3, 4, 5] (by decide) rfl ?_; refine hK' (b10, b11) _ trivial ?_; (repeat (first | exact True.intro | (refine And.intro ?_ ?_; focus (show _ = (_ : Value); first | exact rfl | (refine Eq.trans (b := Value.int IntKind.i64 _) rfl (congrArg (Value.int IntKind.i64) ?_); omega))))); done) | (refine At.pick [1, 0, 2, 3, 4, 5] (by decide) rfl ?_; refine hK' (b10, b11) _ trivial ?_; (repeat (first | exact True.intro | (refine And.intro ?_ ?_; focus (show _ = (_ : Value); first | exact rfl | (refine Eq.trans (b := Value.int IntKind.i64 _) rfl (congrArg (Value.int IntKind.i64) ?_); omega))))); done)
          refine AT_all1 ?_
          · refine AT_op (by exact (rfl : _ = some (Oper.mk _ _ _ _ _ _))) ?_
            intro K Q' hK
            (repeat ((with_reducible refine is_assign ?_); (refine At_plain hF (by (exact (rfl : _ = some (Value.slice _ _ _)))) ?_)))
            refine At_nilK (hK _ _ ?_)
            refine AT_step (l := [2]) (by decide +kernel) ?_
            refine AT_all1 ?_
            · refine AT_op (by exact (rfl : _ = some (Oper.mk _ _ _ _ _ _))) ?_
              intro K Q' hK
              (repeat ((with_reducible refine is_move ?_); (refine At_plain hF (by (exact (rfl : _ = some (Value.int _ _)))) ?_)))
              refine At_nilK (hK _ _ ?_)
              refine AT_step (l := [3]) (by decide +kernel) ?_
              refine AT_all1 ?_
              · refine AT_op (by exact (rfl : _ = some (Oper.mk _ _ _ _ _ _))) ?_
                intro K Q' hK
                (refine At_make hF (Value.int .i64) 0 rfl rfl rfl rfl (by exact rfl) (by exact rfl) (by simp only [TS.bytes] <;> omega) (by omega) ?_; intro b11)
                refine At_nilK (hK _ _ ?_)
                refine AT_done ?_
                (repeat (first | ((with_reducible refine is_AL ?_); (first | ((with_reducible refine is_assign ?_); (refine At_plain hF (by (first | exact (rfl : _ = some (Value.int _ _)) | exact (rfl : _ = some (Value.bool _)) | exact (rfl : _ = some (Value.slice _ _ _)))) ?_)) | with_reducible refine At_nil ?_)) | ((with_reducible refine is_At ?_); (with_reducible refine At_then_n ?_))))
                first | (refine At.pick [0, 1, 2, 3, 4, 5] (by decide) rfl ?_; refine hK' (b10, b11) _ trivial ?_; (repeat (first | exact True.intro | (refine And.intro ?_ ?_; focus (show _ = (_ : Value); first | exact rfl | (refine Eq.trans (b := Value.int IntKind.i64 _) rfl (congrArg (Value.int IntKind.i64) ?_); omega))))); done) | (refine At.pick [1, 0, 2, 3, 4, 5] (by decide) rfl ?_; refine hK' (b10, b11) _ trivial ?_; (repeat (first | exact True.intro | (refine And.intro ?_ ?_; focus (show _ = (_ : Value); first | exact rfl | (refine Eq.trans (b := Value.int IntKind.i64 _) rfl (congrArg (Value.int IntKind.i64) ?_); omega))))); done)
        refine AT_all1 ?_
        · refine AT_op (by exact (rfl : _ = some (Oper.mk _ _ _ _ _ _))) ?_
          intro K Q' hK
          (repeat ((with_reducible refine is_move ?_); (refine At_plain hF (by (exact (rfl : _ = some (Value.int _ _)))) ?_)))
          refine At_nilK (hK _ _ ?_)
          refine AT_step (l := [1, 3]) (by decide +kernel) ?_
          refine AT_all ?_ ?_
          · refine AT_op (by exact (rfl : _ = some (Oper.mk _ _ _ _ _ _))) ?_
            intro K Q' hK
            (refine At_make hF (Value.int .i64) 0 rfl rfl rfl rfl (by exact rfl) (by exact rfl) (by simp only [TS.bytes] <;> omega) (by omega) ?_; intro b10)
            refine At_nilK (hK _ _ ?_)
            refine AT_step (l := [3, 4]) (by decide +kernel) ?_
            refine AT_all ?_ ?_
            · refine AT_op (by exact (rfl : _ = some (Oper.mk _ _ _ _ _ _))) ?_
              intro K Q' hK
              (refine At_make hF (Value.int .i64) 0 rfl rfl rfl rfl (by exact rfl) (by exact rfl) (by simp only [TS.bytes] <;> omega) (by omega) ?_; intro b11)
              refine At_nilK (hK _ _ ?_)
              refine AT_step (l := [4]) (by decide +kernel) ?_
              refine AT_all1 ?_
              · refine AT_op (by exact (rfl : _ = some (Oper.mk _ _ _ _ _ _))) ?_
                intro K Q' hK
                (repeat ((with_reducible refine is_assign ?_); (refine At_plain hF (by (exact (rfl : _ = some (Value.slice _ _ _)))) ?_)))
                refine At_nilK (hK _ _ ?_)
                refine AT_done ?_
                (repeat (first | ((with_reducible refine is_AL ?_); (first | ((with_reducible refine is_assign ?_); (refine At_plain hF (by (first | exact (rfl : _ = some (Value.int _ _)) | exact (rfl : _ = some (Value.bool _)) | exact (rfl : _ = some (Value.slice _ _ _)))) ?_)) | with_reducible refine At_nil ?_)) | ((with_reducible refine is_At ?_); (with_reducible refine At_then_n ?_))))
                first | (refine At.pick [0, 1, 2, 3, 4, 5] (by decide) rfl ?_; refine hK' (b10, b11) _ trivial ?_; (repeat (first | exact True.intro | (refine And.intro ?_ ?_; focus (show _ = (_ : Value); first | exact rfl | (refine Eq.trans (b := Value.int IntKind.i64 _) rfl (congrArg (Value.int IntKind.i64) ?_); omega))))); done) | (refine At.pick [1, 0, 2, 3, 4, 5] (by decide) rfl ?_; refine hK' (b10, b11) _ trivial ?_; (repeat (first | exact True.intro | (refine And.intro ?_ ?_; focus (show _ = (_ : Value); first | exact rfl | (refine Eq.trans (b := Value.int IntKind.i64 _) rfl (congrArg (Value.int IntKind.i64) ?_); omega))))); done)
            refine AT_all1 ?_
            · refine AT_op (by exact (rfl : _ = some (Oper.mk _ _ _ _ _ _))) ?_
              intro K Q' hK
              (repeat ((with_reducible refine is_assign ?_); (refine At_plain hF (by (exact (rfl : _ = some (Value.slice _ _ _)))) ?_)))
              refine At_nilK (hK _ _ ?_)
              refine AT_step (l := [3]) (by decide +kernel) ?_
              refine AT_all1 ?_
              · refine AT_op (by exact (rfl : _ = some (Oper.mk _ _ _ _ _ _))) ?_
                intro K Q' hK
                (refine At_make hF (Value.int .i64) 0 rfl rfl rfl rfl (by exact rfl) (by exact rfl) (by simp only [TS.bytes] <;> omega) (by omega) ?_; intro b11)
                refine At_nilK (hK _ _ ?_)
                refine AT_done ?_
                (repeat (first | ((with_reducible refine is_AL ?_); (first | ((with_reducible refine is_assign ?_); (refine At_plain hF (by (first | exact (rfl : _ = some (Value.int _ _)) | exact (rfl : _ = some (Value.bool _)) | exact (rfl : _ = some (Value.slice _ _ _)))) ?_)) | with_reducible refine At_nil ?_)) | ((with_reducible refine is_At ?_); (with_reducible refine At_then_n ?_))))
                first | (refine At.pick [0, 1, 2, 3, 4, 5] (by decide) rfl ?_; refine hK' (b10, b11) _ trivial ?_; (repeat (first | exact True.intro | (refine And.intro ?_ ?_; focus (show _ = (_ : Value); first | exact rfl | (refine Eq.trans (b := Value.int IntKind.i64 _) rfl (congrArg (Value.int IntKind.i64) ?_); omega))))); done) | (refine At.pick [1, 0, 2, 3, 4, 5] (by decide) rfl ?_; refine hK' (b10, b11) _ trivial ?_; (repeat (first | exact True.intro | (refine And.intro ?_ ?_; focus (show _ = (_ : Value); first | exact rfl | (refine Eq.trans (b := Value.int IntKind.i64 _) rfl (congrArg (Value.int IntKind.i64) ?_); omega))))); done)
          refine AT_all1 ?_
          · refine AT_op (by exact (rfl : _ = some (Oper.mk _ _ _ _ _ _))) ?_
            intro K Q' hK
            (refine At_make hF (Value.int .i64) 0 rfl rfl rfl rfl (by exact rfl) (by exact rfl) (by simp only [TS.bytes] <;> omega) (by omega) ?_; intro b11)
            refine At_nilK (hK _ _ ?_)
            refine AT_step (l := [1]) (by decide +kernel) ?_
            refine AT_all1 ?_
            · refine AT_op (by exact (rfl : _ = some (Oper.mk _ _ _ _ _ _))) ?_
              intro K Q' hK
              (refine At_make hF (Value.int .i64) 0 rfl rfl rfl rfl (by exact rfl) (by exact rfl) (by simp only [TS.bytes] <;> omega) (by omega) ?_; intro b10)
              refine At_nilK (hK _ _ ?_)
              refine AT_step (l := [4]) (by decide +kernel) ?_
              refine AT_all1 ?_
              · refine AT_op (by exact (rfl : _ = some (Oper.mk _ _ _ _ _ _))) ?_
                intro K Q' hK
                (repeat ((with_reducible refine is_assign ?_); (refine At_plain hF (by (exact (rfl : _ = some (Value.slice _ _ _)))) ?_)))
                refine At_nilK (hK _ _ ?_)
                refine AT_done ?_
                (repeat (first | ((with_reducible refine is_AL ?_); (first | ((with_reducible refine is_assign ?_); (refine At_plain hF (by (first | exact (rfl : _ = some (Value.int _ _)) | exact (rfl : _ = some (Value.bool _)) | exact (rfl : _ = some (Value.slice _ _ _)))) ?_)) | with_reducible refine At_nil ?_)) | ((with_reducible refine is_At ?_); (with_reducible refine At_then_n ?_))))
                first | (refine At.pick [0, 1, 2, 3, 4, 5] (by decide) rfl ?_; refine hK' (b10, b11) _ trivial ?_; (repeat (first | exact True.intro | (refine And.intro ?_ ?_; focus (show _ = (_ : Value); first | exact rfl | (refine Eq.trans (b := Value.int IntKind.i64 _) rfl (congrArg (Value.int IntKind.i64) ?_); omega))))); done) | (refine At.pick [1, 0, 2, 3, 4, 5] (by decide) rfl ?_; refine hK' (b10, b11) _ trivial ?_; (repeat (first | exact True.intro | (refine And.intro ?_ ?_; focus (show _ = (_ : Value); first | exact rfl | (refine Eq.trans (b := Value.int IntKind.i64 _) rfl (congrArg (Value.int IntKind.i64) ?_); omega))))); done)
      refine AT_all1 ?_
      · refine AT_op (by exact (rfl : _ = some (Oper.mk _ _ _ _ _ _))) ?_
        intro K Q' hK
        (repeat ((with_reducible refine is_move ?_); (refine At_plain hF (by (exact (rfl : _ = some (Value.int _ _)))) ?_)))
        refine At_nilK (hK _ _ ?_)
        refine AT_step (l := [0, 3]) (by decide +kernel) ?_
        refine AT_all ?_ ?_
        · refine AT_op (by exact (rfl : _ = some (Oper.mk _ _ _ _ _ _))) ?_
          intro K Q' hK
          (repeat ((with_reducible refine is_move ?_); (refine At_plain hF (by (exact (rfl : _ = some (Value.int _ _)))) ?_)))
          refine At_nilK (hK _ _ ?_)
          refine AT_step (l := [1, 3]) (by decide +kernel) ?_
          refine AT_all ?_ ?_
          · refine AT_op (by exact (rfl : _ = some (Oper.mk _ _ _ _ _ _))) ?_
            intro K Q' hK
            (refine At_make hF (Value.int .i64) 0 rfl rfl rfl rfl (by exact rfl) (by exact rfl) (by simp only [TS.bytes] <;> omega) (by omega) ?_; intro b10)
            refine At_nilK (hK _ _ ?_)
            refine AT_step (l := [3, 4]) (by decide +kernel) ?_
            refine AT_all ?_ ?_
            · refine AT_op (by exact (rfl : _ = some (Oper.mk _ _ _ _ _ _))) ?_
              intro K Q' hK
              (refine At_make hF (Value.int .i64) 0 rfl rfl rfl rfl (by exact rfl) (by exact rfl) (by simp only [TS.bytes] <;> omega) (by omega) ?_; intro b11)
              refine At_nilK (hK _ _ ?_)
              refine AT_step (l := [4]) (by decide +kernel) ?_
              refine AT_all1 ?_
              · refine AT_op (by exact (rfl : _ = some (Oper.mk _ _ _ _ _ _))) ?_
                intro K Q' hK
                (repeat ((with_reducible refine is_assign ?_); (refine At_plain hF (by (exact (rfl : _ = some (Value.slice _ _ _)))) ?_)))
                refine At_nilK (hK _ _ ?_)
                refine AT_done ?_
                (repeat (first | ((with_reducible refine is_AL ?_); (first | ((with_reducible refine is_assign ?_); (refine At_plain hF (by (first | exact (rfl : _ = some (Value.int _ _)) | exact (rfl : _ = some (Value.bool _)) | exact (rfl : _ = some (Value.slice _ _ _)))) ?_)) | with_reducible refine At_nil ?_)) | ((with_reducible refine is_At ?_); (with_reducible refine At_then_n ?_))))
                first | (refine At.pick [0, 1, 2, 3, 4, 5] (by decide) rfl ?_; refine hK' (b10, b11) _ trivial ?_; (repeat (first | exact True.intro | (refine And.intro ?_ ?_; focus (show _ = (_ : Value); first | exact rfl | (refine Eq.trans (b := Value.int IntKind.i64 _) rfl (congrArg (Value.int IntKind.i64) ?_); omega))))); done) | (refine At.pick [1, 0, 2, 3, 4, 5] (by decide) rfl ?_; refine hK' (b10, b11) _ trivial ?_; (repeat (first | exact True.intro | (refine And.intro ?_ ?_; focus (show _ = (_ : Value); first | exact rfl | (refine Eq.trans (b := Value.int IntKind.i64 _) rfl (congrArg (Value.int IntKind.i64) ?_); omega))))); done)
            refine AT_all1 ?_
            · refine AT_op (by exact (rfl : _ = some (Oper.mk _ _ _ _ _ _))) ?_
              intro K Q' hK
              (repeat ((with_reducible refine is_assign ?_); (refine At_plain hF (by (exact (rfl : _ = some (Value.slice _ _ _)))) ?_)))
              refine At_nilK (hK _ _ ?_)
              refine AT_step (l := [3]) (by decide +kernel) ?_
              refine AT_all1 ?_
              · refine AT_op (by exact (rfl : _ = some (Oper.mk _ _ _ _ _ _))) ?_
                intro K Q' hK
                (refine At_make hF (Value.int .i64) 0 rfl rfl rfl rfl (by exact rfl) (by exact rfl) (by simp only [TS.bytes] <;> omega) (by omega) ?_; intro b11)
                refine At_nilK (hK _ _ ?_)
                refine AT_done ?_
                (repeat (first | ((with_reducible refine is_AL ?_); (first | ((with_reducible refine is_assign ?_); (refine At_plain hF (by (first | exact (rfl : _ = some (Value.int _ _)) | exact (rfl : _ = some (Value.bool _)) | exact (rfl : _ = some (Value.slice _ _ _)))) ?_)) | with_reducible refine At_nil ?_)) | ((with_reducible refine is_At ?_); (with_reducible refine At_then_n ?_))))
                first | (refine At.pick [0, 1, 2, 3, 4, 5] (by decide) rfl ?_; refine hK' (b10, b11) _ trivial ?_; (repeat (first | exact True.intro | (refine And.intro ?_ ?_; focus (show _ = (_ : Value); first | exact rfl | (refine Eq.trans (b := Value.int IntKind.i64 _) rfl (congrArg (Value.int IntKind.i64) ?_); omega))))); done) | (refine At.pick [1, 0, 2, 3, 4, 5] (by decide) rfl ?_; refine hK' (b10, b11) _ trivial ?_; (repeat (first | exact True.intro | (refine And.intro ?_ ?_; focus (show _ = (_ : Value); first | exact rfl | (refine Eq.trans (b := Value.int IntKind.i64 _) rfl (congrArg (Value.int IntKind.i64) ?_); omega))))); done)
          refine AT_all1 ?_
          · refine AT_op (by exact (rfl : _ = some (Oper.mk _ _ _ _ _ _))) ?_
            intro K Q' hK
            (refine At_make hF (Value.int .i64) 0 rfl rfl rfl rfl (by exact rfl) (by exact rfl) (by simp only [TS.bytes] <;> omega) (by omega) ?_; intro b11)
            refine At_nilK (hK _ _ ?_)
            refine AT_step (l := [1]) (by decide +kernel) ?_
            refine AT_all1 ?_
            · refine AT_op (by exact (rfl : _ = some (Oper.mk _ _ _ _ _ _))) ?_
              intro K Q' hK
              (refine At_make hF (Value.int .i64) 0 rfl rfl rfl rfl (by exact rfl) (by exact rfl) (by simp only [TS.bytes] <;> omega) (by omega) ?_; intro b10)
              refine At_nilK (hK _ _ ?_)
              refine AT_step (l := [4]) (by decide +kernel) ?_
              refine AT_all1 ?_
              · refine AT_op (by exact (rfl : _ = some (Oper.mk _ _ _ _ _ _))) ?_
                intro K Q' hK
                (repeat ((with_reducible refine is_assign ?_); (refine At_plain hF (by (exact (rfl : _ = some (Value.slice _ _ _)))) ?_)))
                refine At_nilK (hK _ _ ?_)
                refine AT_done ?_
                (repeat (first | ((with_reducible refine is_AL ?_); (first | ((with_reducible refine is_assign ?_); (refine At_plain hF (by (first | exact (rfl : _ = some (Value.int _ _)) | exact (rfl : _ = some (Value.bool _)) | exact (rfl : _ = some (Value.slice _ _ _)))) ?_)) | with_reducible refine At_nil ?_)) | ((with_reducible refine is_At ?_); (with_reducible refine At_then_n ?_))))
                first | (refine At.pick [0, 1, 2, 3, 4, 5] (by decide) rfl ?_; refine hK' (b10, b11) _ trivial ?_; (repeat (first | exact True.intro | (refine And.intro ?_ ?_; focus (show _ = (_ : Value); first | exact rfl | (refine Eq.trans (b := Value.int IntKind.i64 _) rfl (congrArg (Value.int IntKind.i64) ?_); omega))))); done) | (refine At.pick [1, 0, 2, 3, 4, 5] (by decide) rfl ?_; refine hK' (b10, b11) _ trivial ?_; (repeat (first | exact True.intro | (refine And.intro ?_ ?_; focus (show _ = (_ : Value); first | exact rfl | (refine Eq.trans (b := Value.int IntKind.i64 _) rfl (congrArg (Value.int IntKind.i64) ?_); omega))))); done)
        refine AT_all1 ?_
        · refine AT_op (by exact (rfl : _ = some (Oper.mk _ _ _ _ _ _))) ?_
          intro K Q' hK
          (refine At_make hF (Value.int .i64) 0 rfl rfl rfl rfl (by exact rfl) (by exact rfl) (by simp only [TS.bytes] <;> omega) (by omega) ?_; intro b11)
          refine At_nilK (hK _ _ ?_)
          refine AT_step (l := [0]) (by decide +kernel) ?_
          refine AT_all1 ?_
          · refine AT_op (by exact (rfl : _ = some (Oper.mk _ _ _ _ _ _))) ?_
            intro K Q' hK
            (repeat ((with_reducible refine is_move ?_); (refine At_plain hF (by (exact (rfl : _ = some (Value.int _ _)))) ?_)))
            refine At_nilK (hK _ _ ?_)
            refine AT_step (l := [1]) (by decide +kernel) ?_
            refine AT_all1 ?_
            · refine AT_op (by exact (rfl : _ = some (Oper.mk _ _ _ _ _ _))) ?_
              intro K Q' hK
              (refine At_make hF (Value.int .i64) 0 rfl rfl rfl rfl (by exact rfl) (by exact rfl) (by simp only [TS.bytes] <;> omega) (by omega) ?_; intro b10)
              refine At_nilK (hK _ _ ?_)
              refine AT_step (l := [4]) (by decide +kernel) ?_
              refine AT_all1 ?_
              · refine AT_op (by exact (rfl : _ = some (Oper.mk _ _ _ _ _ _))) ?_
                intro K Q' hK
                (repeat ((with_reducible refine is_assign ?_); (refine At_plain hF (by (exact (rfl : _ = some (Value.slice _ _ _)))) ?_)))
                refine At_nilK (hK _ _ ?_)
                refine AT_done ?_
                (repeat (first | ((with_reducible refine is_AL ?_); (first | ((with_reducible refine is_assign ?_); (refine At_plain hF (by (first | exact (rfl : _ = some (Value.int _ _)) | exact (rfl : _ = some (Value.bool _)) | exact (rfl : _ = some (Value.slice _ _ _)))) ?_)) | with_reducible refine At_nil ?_)) | ((with_reducible refine is_At ?_); (with_reducible refine At_then_n ?_))))
                first | (refine At.pick [0, 1, 2, 3, 4, 5] (by decide) rfl ?_; refine hK' (b10, b11) _ trivial ?_; (repeat (first | exact True.intro | (refine And.intro ?_ ?_; focus (show _ = (_ : Value); first | exact rfl | (refine Eq.trans (b := Value.int IntKind.i64 _) rfl (congrArg (Value.int IntKind.i64) ?_); omega))))); done) | (refine At.pick [1, 0, 2, 3, 4, 5] (by decide) rfl ?_; refine hK' (b10, b11) _ trivial ?_; (repeat (first | exact True.intro | (refine And.intro ?_ ?_; focus (show _ = (_ : Value); first | exact rfl | (refine Eq.trans (b := Value.int IntKind.i64 _) rfl (congrArg (Value.int IntKind.i64) ?_); omega))))); done)
    rintro ⟨b10, b11⟩ ρ0 _
    dsimp only
    have hall0 : (0 : Nat) ≤ N := Nat.zero_le _
    (repeat (first | ((with_reducible refine is_AL ?_); (first | ((with_reducible refine is_move ?_); (refine At_plain hF (by (first | exact (rfl : _ = some (Value.int _ _)) | exact (rfl : _ = some (Value.slice _ _ _)))) ?_)) | ((with_reducible refine is_call ?_); (refine At_len hF rfl ?_)) | with_reducible refine At_nil ?_)) | ((with_reducible refine is_At ?_); (first | with_reducible refine At_seq ?_; intro K hK | with_reducible refine At_block ?_ | with_reducible refine At_region ?_ | with_reducible refine At_then_n ?_ | with_reducible refine At_go (by assumption) ?_))))
    refine At_loop (fun i : Nat => [(0, .int .i64 N), (7, .int .i64 (sqsM M)), (9, .slice (Af.map fun b => ⟨b, 0, none⟩) RR cf), (10, .slice (some ⟨b10, 0, none⟩) N N), (11, .slice (some ⟨b11, 0, none⟩) N N), (12, .int .i64 (sqsM (M.take i))), (13, .bool true), (60, .slice (some ⟨bc, 0, none⟩) N N), (61, .int .i64 N), (62, .int .i64 i)])
      (fun i => [.obj b10 (.cells (buf (sc (Value.int .i64)) (rowSum M N i 0) []) 3), .obj b11 (.cells (buf (sc (Value.int .i64)) (stL M (ones N) N i 0) []) 3), .row 33 1 (sc (gvc N)) Af cf bf, .gridc 3 (Value.int .i64) bf F, .obj bc (.cells (buf (sc (gv N)) bs []) 33), .grid 3 (Value.int .i64) bs M]) (fun i => i ≤ N) (fun i => N - i) 0 ?_ ?_ (Nat.zero_le _) ?_
    · rw [rowSum_zero, stL_zero]; (repeat (first | exact List.Sublist.refl _ | exact List.Sublist.slnil | refine List.Sublist.cons_cons _ ?_ | refine List.Sublist.cons _ ?_))
    · (repeat (first | exact True.intro | (refine And.intro ?_ ?_; focus (show _ = (_ : Value); first | exact rfl | (refine Eq.trans (b := Value.int IntKind.i64 _) rfl (congrArg (Value.int IntKind.i64) ?_); omega)))))
    intro i hi K hL ρ1
    try dsimp only
    (repeat (first | ((with_reducible refine is_AL ?_); (first | ((with_reducible refine is_bin ?_); (refine At_plain hF (by (exact (rfl : _ = some (Value.bool _)))) ?_)) | with_reducible refine At_nil ?_)) | ((with_reducible refine is_At ?_); (first | with_reducible refine At_seq ?_; intro K hK | with_reducible refine At_region ?_ | with_reducible refine At_then_n ?_ | with_reducible refine At_go (by assumption) ?_))))
    ((with_reducible refine is_cond ?_); (refine At_cond rfl ?_ ?_ <;> (intro hg; try (simp only [decide_eq_true_eq, decide_eq_false_iff_not, beq_iff_eq, bne_iff_ne, beq_eq_false_iff_ne, bne_eq_false_iff_eq, ne_eq, Bool.not_eq_true', Bool.not_eq_false', Bool.not_true, Bool.not_false, Decidable.not_not] at hg); try (exfalso; first | omega | exact hg True.intro))))
    · have hlt : i < N := by omega
      have hmem : M.getD i [] ∈ M := getD_mem' (by omega)
      have hrl := hMr _ hmem
      have hrb2 := hMb _ hmem
      have hsn := sqsM_snoc M i (by omega)
      have hsb := sqsM_bd (M.take i) N (by omega) (fun row h => hMr row (List.mem_of_mem_take h)) (fun row h => hMb row (List.mem_of_mem_take h))
      have hst : (M.take i).length ≤ 20 := by simp; omega
      (repeat (first | ((with_reducible refine is_AL ?_); (first | ((with_reducible refine is_move ?_); (refine At_plain hF (by (first | exact (rfl : _ = some (Value.int _ _)) | exact (rfl : _ = some (Value.slice _ _ _)))) ?_)) | ((with_reducible refine is_bin ?_); (refine At_plain hF (by (exact (rfl : _ = some (Value.bool _)))) ?_)) | ((with_reducible refine is_assign ?_); (refine At_plain hF (by (first | exact (rfl : _ = some (Value.int _ _)) | exact (rfl : _ = some (Value.slice _ _ _)))) ?_)) | ((with_reducible refine is_call ?_); (refine At_len hF rfl ?_)) | ((with_reducible refine is_load ?_); (refine At_load hF 4 rfl rfl (by (exact buf_getI _ (by omega))) ?_)) | ((with_reducible refine is_index ?_); (refine At_indexS1 hF rfl rfl rfl (by omega) ?_)) | with_reducible refine At_nil ?_)) | ((with_reducible refine is_At ?_); (first | with_reducible refine At_seq ?_; intro K hK | with_reducible refine At_block ?_ | with_reducible refine At_region ?_ | with_reducible refine At_skip ?_ | with_reducible refine At_then_n ?_ | with_reducible refine At_go (by assumption) ?_))))
      ((with_reducible refine is_cond ?_); (refine At_cond rfl ?_ ?_ <;> (intro hg; try (simp only [decide_eq_true_eq, decide_eq_false_iff_not, beq_iff_eq, bne_iff_ne, beq_eq_false_iff_ne, bne_eq_false_iff_eq, ne_eq, Bool.not_eq_true', Bool.not_eq_false', Bool.not_true, Bool.not_false, Decidable.not_not] at hg); try (exfalso; first | omega | exact hg True.intro))))
      (repeat (first | ((with_reducible refine is_AL ?_); (first | ((with_reducible refine is_move ?_); (refine At_plain hF (by (first | exact (rfl : _ = some (Value.int _ _)) | exact (rfl : _ = some (Value.slice _ _ _)))) ?_)) | ((with_reducible refine is_call ?_); (refine At_len hF rfl ?_)) | with_reducible refine At_nil ?_)) | ((with_reducible refine is_At ?_); (first | with_reducible refine At_seq ?_; intro K hK | with_reducible refine At_block ?_ | with_reducible refine At_region ?_ | with_reducible refine At_skip ?_ | with_reducible refine At_then_n ?_ | with_reducible refine At_go (by assumption) ?_))))
      refine At_loop (fun j : Nat => [(0, .int .i64 N), (7, .int .i64 (sqsM M)), (9, .slice (Af.map fun b => ⟨b, 0, none⟩) RR cf), (10, .slice (some ⟨b10, 0, none⟩) N N), (11, .slice (some ⟨b11, 0, none⟩) N N), (12, .int .i64 (sqsM (M.take i) + sqs ((M.getD i []).take j))), (13, .bool true), (14, .int .i64 i), (60, .slice (some ⟨bc, 0, none⟩) N N), (61, .int .i64 N), (62, .int .i64 i), (71, .slice (some ⟨bs.getD i default, 0, none⟩) N N), (72, .int .i64 N), (73, .int .i64 j)])
        (fun j => [.obj b10 (.cells (buf (sc (Value.int .i64)) (rowSum M N i j) []) 3), .obj b11 (.cells (buf (sc (Value.int .i64)) (stL M (ones N) N i j) []) 3), .row 33 1 (sc (gvc N)) Af cf bf, .gridc 3 (Value.int .i64) bf F, .obj bc (.cells (buf (sc (gv N)) bs []) 33), .grid 3 (Value.int .i64) bs M]) (fun j => j ≤ N) (fun j => N - j) 0 ?_ ?_ (Nat.zero_le _) ?_
      · (repeat (first | exact List.Sublist.refl _ | exact List.Sublist.slnil | refine List.Sublist.cons_cons _ ?_ | refine List.Sublist.cons _ ?_))
      · simp only [List.take_zero, sqs, List.map_nil, List.sum_nil, Int.add_zero]
        (repeat (first | exact True.intro | (refine And.intro ?_ ?_; focus (show _ = (_ : Value); first | exact rfl | (refine Eq.trans (b := Value.int IntKind.i64 _) rfl (congrArg (Value.int IntKind.i64) ?_); omega)))))
      intro j hj K hI ρ2
      try dsimp only
      (repeat (first | ((with_reducible refine is_AL ?_); (first | ((with_reducible refine is_bin ?_); (refine At_plain hF (by (exact (rfl : _ = some (Value.bool _)))) ?_)) | with_reducible refine At_nil ?_)) | ((with_reducible refine is_At ?_); (first | with_reducible refine At_seq ?_; intro K hK | with_reducible refine At_region ?_ | with_reducible refine At_then_n ?_ | with_reducible refine At_go (by assumption) ?_))))
      ((with_reducible refine is_cond ?_); (refine At_cond rfl ?_ ?_ <;> (intro hg; try (simp only [decide_eq_true_eq, decide_eq_false_iff_not, beq_iff_eq, bne_iff_ne, beq_eq_false_iff_ne, bne_eq_false_iff_eq, ne_eq, Bool.not_eq_true', Bool.not_eq_false', Bool.not_true, Bool.not_false, Decidable.not_not] at hg); try (exfalso; first | omega | exact hg True.intro))))
      · have hjl : j < N := by omega
        have hs2 := sqs_snoc (M.getD i []) j (by omega)
        have hxb := hrb2 ((M.getD i []).getD j default) (getD_mem' (by omega))
        have hs2b := sqs_bd ((M.getD i []).take j) (fun x h => hrb2 x (List.mem_of_mem_take h))
        have hst2 : ((M.getD i []).take j).length ≤ 20 := by simp; omega
        have hsq := sq_bd hxb
        have hl1 := rowSum_len M N i j
        have hl2 := stL_len M (ones N) N i j
        have hg1 : (rowSum M N i j).getD i default = RS M i j := rowSum_get M N i j hlt
        have hg2 : (stL M (ones N) N i j).getD j default = colW M (ones N) i j := stL_get M (ones N) N i j hjl
        have hb1 := RS_bd hMb i j
        have hb2 := colW_bd (rank := ones N) hMb (fun x hx => by rw [ones] at hx; rw [List.eq_of_mem_replicate hx]; omega) j i
        have ht1 : term M (ones N) j i = (M.getD i []).getD j default := term_one M N j i hlt
        have hR1 : RS M i (j + 1) = RS M i j + (M.getD i []).getD j default := RS_succ M i j
        have e1 : (rowSum M N i j).set i ((rowSum M N i j).getD i default + (M.getD i []).getD j default) = rowSum M N i (j + 1) := by rw [hg1, ← hR1, rowSum_set]
        have e2 : (stL M (ones N) N i j).set j ((stL M (ones N) N i j).getD j default + (M.getD i []).getD j default) = stL M (ones N) N i (j + 1) := by rw [hg2, ← ht1, ← colW_succ, stL_set _ _ _ _ _ hjl]
        have e3 : sqsM (M.take i) + sqs ((M.getD i []).take j) + (M.getD i []).getD j default * (M.getD i []).getD j default = sqsM (M.take i) + sqs ((M.getD i []).take (j + 1)) := by rw [hs2, Int.add_assoc]; rfl
        (repeat (first | ((with_reducible refine is_AL ?_); (first | ((with_reducible refine is_move ?_); (refine At_plain hF (by (exact (rfl : _ = some (Value.int _ _)))) ?_)) | ((with_reducible refine is_index ?_); (refine At_indexS1 hF rfl rfl rfl (by omega) ?_)))) | ((with_reducible refine is_At ?_); (first | with_reducible refine At_seq ?_; intro K hK | with_reducible refine At_block ?_ | with_reducible refine At_region ?_ | with_reducible refine At_skip ?_ | with_reducible refine At_then_n ?_ | with_reducible refine At_go (by assumption) ?_))))
        refine At_loadGrid (r := i) hF 5 (by exact rfl) rfl (by omega) (by omega) ?_
        (repeat (first | ((with_reducible refine is_AL ?_); (first | ((with_reducible refine is_move ?_); (refine At_plain hF (by (first | exact (rfl : _ = some (Value.int _ _)) | exact (rfl : _ = some (Value.slice _ _ _)))) ?_)) | ((with_reducible refine is_bin ?_); (first | ((with_reducible refine is_badd ?_); (refine At_add hF rfl rfl (by omega) ?_)) | ((with_reducible refine is_bmul ?_); (refine At_mul hF rfl rfl (by omega) ?_)))) | ((with_reducible refine is_assign ?_); (refine At_plain hF (by (exact (rfl : _ = some (Value.int _ _)))) ?_)) | ((with_reducible refine is_load ?_); (first | refine At_load hF 0 rfl rfl (by (exact buf_getI _ (by omega))) ?_ | refine At_load hF 1 rfl rfl (by (exact buf_getI _ (by omega))) ?_)) | ((with_reducible refine is_index ?_); (refine At_indexS1 hF rfl rfl rfl (by omega) ?_)) | ((with_reducible refine is_store ?_); (first | refine At_store_0 hF rfl (by (exact (rfl : _ = (Value.int _ _)))) (by (simp [buf_size1]; omega)) (by exact rfl) (by exact rfl) (by (exact buf_set1 _ (by omega))) ?_ | refine At_store_1 hF rfl (by (exact (rfl : _ = (Value.int _ _)))) (by (simp [buf_size1]; omega)) (by exact rfl) (by exact rfl) (by (exact buf_set1 _ (by omega))) ?_)) | with_reducible refine At_nil ?_)) | ((with_reducible refine is_At ?_); (first | with_reducible refine At_seq ?_; intro K hK | with_reducible refine At_region ?_ | with_reducible refine At_then_n ?_ | with_reducible refine At_inb_n ?_ | with_reducible refine At_go (by assumption) ?_))))
        rw [e1, e2, e3]
        refine At.sub ?_ (hI (j + 1) _ (by omega) (by omega) ?_)
        · (repeat (first | exact List.Sublist.refl _ | exact List.Sublist.slnil | refine List.Sublist.cons_cons _ ?_ | refine List.Sublist.cons _ ?_))
        · (repeat (first | exact True.intro | (refine And.intro ?_ ?_; focus (show _ = (_ : Value); first | exact rfl | (refine Eq.trans (b := Value.int IntKind.i64 _) rfl (congrArg (Value.int IntKind.i64) ?_); omega)))))
      · obtain rfl : j = N := by omega
        have e : (M.getD i []).take j = M.getD i [] := List.take_of_length_le (by omega)
        (repeat (first | ((with_reducible refine is_AL ?_); (first | ((with_reducible refine is_move ?_); (refine At_plain hF (by (exact (rfl : _ = some (Value.int _ _)))) ?_)) | ((with_reducible refine is_bin ?_); ((with_reducible refine is_badd ?_); (refine At_add hF rfl rfl (by omega) ?_))) | with_reducible refine At_nil ?_)) | ((with_reducible refine is_At ?_); (first | with_reducible refine At_region ?_ | with_reducible refine At_exit ?_ | with_reducible refine At_then_n ?_ | with_reducible refine At_then_e ?_ | with_reducible refine At_inb_n ?_ | with_reducible refine At_inb_e rfl ?_ | with_reducible refine At_go (by assumption) ?_))))
        rw [e, ← hsn, rowSum_next, stL_row]
        refine At.sub ?_ (hL (i + 1) _ (by omega) (by omega) ?_)
        · (repeat (first | exact List.Sublist.refl _ | exact List.Sublist.slnil | refine List.Sublist.cons_cons _ ?_ | refine List.Sublist.cons _ ?_))
        · (repeat (first | exact True.intro | (refine And.intro ?_ ?_; focus (show _ = (_ : Value); first | exact rfl | (refine Eq.trans (b := Value.int IntKind.i64 _) rfl (congrArg (Value.int IntKind.i64) ?_); omega)))))
    · obtain rfl : i = N := by omega
      have hcl := stL_len M (ones i) i i 0
      have eM : M.take i = M := List.take_of_length_le (by omega)
      rw [hrows, eM]
      generalize stL M (ones i) i i 0 = cols at *
      (repeat (first | ((with_reducible refine is_AL ?_); (first | ((with_reducible refine is_move ?_); (refine At_plain hF (by (first | exact (rfl : _ = some (Value.int _ _)) | exact (rfl : _ = some (Value.slice _ _ _)))) ?_)) | ((with_reducible refine is_call ?_); (refine At_len hF rfl ?_)) | with_reducible refine At_nil ?_)) | ((with_reducible refine is_At ?_); (first | with_reducible refine At_seq ?_; intro K hK | with_reducible refine At_block ?_ | with_reducible refine At_region ?_ | with_reducible refine At_exit ?_ | with_reducible refine At_then_n ?_ | with_reducible refine At_then_e ?_ | with_reducible refine At_inb_e rfl ?_ | with_reducible refine At_go (by assumption) ?_))))
      refine At_loop (fun r : Nat => [(0, .int .i64 i), (7, .int .i64 (sqsM M)), (9, .slice (Af.map fun b => ⟨b, 0, none⟩) RR cf), (10, .slice (some ⟨b10, 0, none⟩) i i), (11, .slice (some ⟨b11, 0, none⟩) i i), (12, .int .i64 (sqsM M)), (13, .bool (fullSt F r 0)), (99, .slice (Af.map fun b => ⟨b, 0, none⟩) RR cf), (100, .int .i64 RR), (101, .int .i64 r)])
        (fun r => [.obj b10 (.cells (buf (sc (Value.int .i64)) (rowsSt (pairsF F RR i) i (PQ F RR i r 0)) []) 3), .obj b11 (.cells (buf (sc (Value.int .i64)) cols []) 3), .row 33 1 (sc (gvc i)) Af cf bf, .gridc 3 (Value.int .i64) bf F]) (fun r => r ≤ RR) (fun r => RR - r) 0 ?_ ?_ (Nat.zero_le _) ?_
      · (repeat (first | exact List.Sublist.refl _ | exact List.Sublist.slnil | refine List.Sublist.cons_cons _ ?_ | refine List.Sublist.cons _ ?_))
      · (repeat (first | exact True.intro | (refine And.intro ?_ ?_; focus (show _ = (_ : Value); first | exact rfl | (refine Eq.trans (b := Value.int IntKind.i64 _) rfl (congrArg (Value.int IntKind.i64) ?_); omega)))))
      intro r hrr K hI ρ2
      try dsimp only
      (repeat (first | ((with_reducible refine is_AL ?_); (first | ((with_reducible refine is_bin ?_); (refine At_plain hF (by (exact (rfl : _ = some (Value.bool _)))) ?_)) | with_reducible refine At_nil ?_)) | ((with_reducible refine is_At ?_); (first | with_reducible refine At_seq ?_; intro K hK | with_reducible refine At_region ?_ | with_reducible refine At_then_n ?_ | with_reducible refine At_go (by assumption) ?_))))
      ((with_reducible refine is_cond ?_); (refine At_cond rfl ?_ ?_ <;> (intro hg; try (simp only [decide_eq_true_eq, decide_eq_false_iff_not, beq_iff_eq, bne_iff_ne, beq_eq_false_iff_ne, bne_eq_false_iff_eq, ne_eq, Bool.not_eq_true', Bool.not_eq_false', Bool.not_true, Bool.not_false, Decidable.not_not] at hg); try (exfalso; first | omega | exact hg True.intro))))
      · have hlt : r < RR := by omega
        have hFl := hRect.1
        have hrl := hRect.get hlt
        refine At_open 2 rfl (by omega) ?_
        rintro bA junk rfl hj1 hj2 hj3
        simp only [List.set_cons_succ, List.set_cons_zero]
        have hmod : 0 ≤ ((r : Int) + 1) % (RR : Int) ∧ ((r : Int) + 1) % (RR : Int) < RR := ⟨Int.emod_nonneg _ (by omega), Int.emod_lt_of_pos _ (by omega)⟩
        have hmodN : (((r : Int) + 1) % (RR : Int)).toNat = (r + 1) % RR := by
          have : ((r : Int) + 1) % (RR : Int) = (((r + 1) % RR : Nat) : Int) := by rw [Int.natCast_emod]; rfl
          rw [this, Int.toNat_natCast]
        have hmlt : (r + 1) % RR < RR := Nat.mod_lt _ (by omega)
        have hrl2 := hRect.get hmlt
        (repeat (first | ((with_reducible refine is_AL ?_); (first | ((with_reducible refine is_move ?_); (refine At_plain hF (by (first | exact (rfl : _ = some (Value.int _ _)) | exact (rfl : _ = some (Value.slice _ _ _)))) ?_)) | ((with_reducible refine is_assign ?_); (refine At_plain hF (by (first | exact (rfl : _ = some (Value.int _ _)) | exact (rfl : _ = some (Value.slice _ _ _)))) ?_)) | ((with_reducible refine is_call ?_); (refine At_len hF rfl ?_)) | ((with_reducible refine is_load ?_); (refine At_load hF 2 rfl rfl (by (exact buf_getI _ (by omega))) ?_)) | ((with_reducible refine is_index ?_); (refine At_indexS1 hF rfl rfl rfl (by omega) ?_)) | with_reducible refine At_nil ?_)) | ((with_reducible refine is_At ?_); (first | with_reducible refine At_seq ?_; intro K hK | with_reducible refine At_block ?_ | with_reducible refine At_region ?_ | with_reducible refine At_skip ?_ | with_reducible refine At_then_n ?_ | with_reducible refine At_go (by assumption) ?_))))
        refine At_loop (fun t : Nat => [(0, .int .i64 i), (7, .int .i64 (sqsM M)), (9, .slice (some ⟨bA, 0, none⟩) RR cf), (10, .slice (some ⟨b10, 0, none⟩) i i), (11, .slice (some ⟨b11, 0, none⟩) i i), (12, .int .i64 (sqsM M)), (13, .bool (fullSt F r t)), (18, .int .i64 r), (99, .slice (some ⟨bA, 0, none⟩) RR cf), (100, .int .i64 RR), (101, .int .i64 r), (106, gvc i (bf.getD r default)), (107, .int .i64 i), (108, .int .i64 t)])
          (fun t => [.obj b10 (.cells (buf (sc (Value.int .i64)) (rowsSt (pairsF F RR i) i (PQ F RR i r t)) []) 3), .obj b11 (.cells (buf (sc (Value.int .i64)) cols []) 3), .obj bA (.cells (buf (sc (gvc i)) bf junk) 33), .gridc 3 (Value.int .i64) bf F]) (fun t => t ≤ i) (fun t => i - t) 0 ?_ ?_ (Nat.zero_le _) ?_
        · (repeat (first | exact List.Sublist.refl _ | exact List.Sublist.slnil | refine List.Sublist.cons_cons _ ?_ | refine List.Sublist.cons _ ?_))
        · (repeat (first | exact True.intro | (refine And.intro ?_ ?_; focus (show _ = (_ : Value); first | exact rfl | (refine Eq.trans (b := Value.int IntKind.i64 _) rfl (congrArg (Value.int IntKind.i64) ?_); omega)))))
        intro t ht K hT ρ3
        try dsimp only
        (repeat (first | ((with_reducible refine is_AL ?_); (first | ((with_reducible refine is_bin ?_); (refine At_plain hF (by (exact (rfl : _ = some (Value.bool _)))) ?_)) | with_reducible refine At_nil ?_)) | ((with_reducible refine is_At ?_); (first | with_reducible refine At_seq ?_; intro K hK | with_reducible refine At_region ?_ | with_reducible refine At_then_n ?_ | with_reducible refine At_go (by assumption) ?_))))
        ((with_reducible refine is_cond ?_); (refine At_cond rfl ?_ ?_ <;> (intro hg; try (simp only [decide_eq_true_eq, decide_eq_false_iff_not, beq_iff_eq, bne_iff_ne, beq_eq_false_iff_ne, bne_eq_false_iff_eq, ne_eq, Bool.not_eq_true', Bool.not_eq_false', Bool.not_true, Bool.not_false, Decidable.not_not] at hg); try (exfalso; first | omega | exact hg True.intro))))
        · have hlt2 : t < i := by omega
          have hv1 := hVals _ (getD_mem' (l := F) (k := r) (d := []) (by omega)) _ (getD_mem' (d := (default : Int)) (k := t) (by omega))
          have hv2 := hVals _ (getD_mem' (l := F) (k := (r + 1) % RR) (d := []) (by omega)) _ (getD_mem' (d := (default : Int)) (k := t) (by omega))
          have hPt := PQ_t F RR i r t
          have hft := fullSt_t F r t (by omega)
          rw [show (F.getD r []).getD t 0 = (F.getD r []).getD t default from rfl] at hft
          rw [pairF] at hPt
          have hl1 := rowsSt_len (pairsF F RR i) i (PQ F RR i r t)
          have b3 := PQ_len F RR i r t hn20 ht
          have b4 : (pairsF F RR i).length ≤ RR * 20 + 20 := by rw [← PQ_all]; exact PQ_len F RR i RR 0 hn20 (by omega)
          generalize hx0 : (F.getD r []).getD t default = x at *
          generalize hy0 : (F.getD ((r + 1) % RR) []).getD t default = y at *
          have b1 := c1_bd (pairsF F RR i) x
          have b2 := c1_bd (PQ F RR i r t) x
          cases hfu : fullSt F r t
          all_goals
            rw [hfu] at hft
            (repeat (first | ((with_reducible refine is_AL ?_); (first | ((with_reducible refine is_move ?_); (refine At_plain hF (by (exact (rfl : _ = some (Value.int _ _)))) ?_)) | ((with_reducible refine is_index ?_); (refine At_indexS1 hF rfl rfl rfl (by omega) ?_)))) | ((with_reducible refine is_At ?_); (first | with_reducible refine At_seq ?_; intro K hK | with_reducible refine At_block ?_ | with_reducible refine At_region ?_ | with_reducible refine At_skip ?_ | with_reducible refine At_then_n ?_ | with_reducible refine At_go (by assumption) ?_))))
            refine At_loadGridc (r := r) hF 3 (by exact rfl) rfl (by omega) (by omega) ?_
            rw [hx0]
            (repeat (first | ((with_reducible refine is_AL ?_); (first | ((with_reducible refine is_guarded ?_); (first | refine At_guard_t rfl (by decide) rfl ?_ | refine At_guard_f hF rfl (by decide) rfl rfl ?_)) | ((with_reducible refine is_move ?_); (refine At_plain hF (by (first | exact (rfl : _ = some (Value.int _ _)) | exact (rfl : _ = some (Value.bool _)))) ?_)) | ((with_reducible refine is_bin ?_); (refine At_plain hF (by (exact (rfl : _ = some (Value.bool _)))) ?_)) | ((with_reducible refine is_assign ?_); (refine At_plain hF (by (first | exact (rfl : _ = some (Value.int _ _)) | exact (rfl : _ = some (Value.bool _)))) ?_)) | ((with_reducible refine is_pick ?_); (refine At_plain hF (by (exact (rfl : _ = some (Value.bool _)))) ?_)) | with_reducible refine At_nil ?_)) | ((with_reducible refine is_At ?_); (first | with_reducible refine At_seq ?_; intro K hK | with_reducible refine At_region ?_ | with_reducible refine At_then_n ?_ | with_reducible refine At_go (by assumption) ?_))))
            ((with_reducible refine is_guarded ?_); (refine At_guard hF rfl (by decide) rfl ?_ ?_ <;> (intro hg; try (simp only [decide_eq_true_eq, decide_eq_false_iff_not, beq_iff_eq, bne_iff_ne, beq_eq_false_iff_ne, bne_eq_false_iff_eq, ne_eq, Bool.not_eq_true', Bool.not_eq_false', Bool.not_true, Bool.not_false, Decidable.not_not] at hg); try (exfalso; first | omega | exact hg True.intro))))
            · have hv := hg
              (repeat ((with_reducible refine is_AL ?_); (first | ((with_reducible refine is_guarded ?_); (refine At_guard_t rfl (by decide) rfl ?_)) | ((with_reducible refine is_move ?_); (refine At_plain hF (by (first | exact (rfl : _ = some (Value.int _ _)) | exact (rfl : _ = some (Value.slice _ _ _)))) ?_)) | ((with_reducible refine is_bin ?_); (first | ((with_reducible refine is_badd ?_); (refine At_add hF rfl rfl (by omega) ?_)) | ((with_reducible refine is_brem ?_); (refine At_rem hF rfl rfl (by omega) ?_)))) | ((with_reducible refine is_call ?_); (refine At_len hF rfl ?_)) | ((with_reducible refine is_load ?_); (refine At_load hF 2 rfl rfl (by (exact buf_getI _ (by omega))) ?_)) | ((with_reducible refine is_index ?_); (first | refine At_indexS1 hF rfl rfl rfl (by omega) ?_ | refine At_indexS1i hF rfl rfl rfl (by omega) (by omega) ?_)))))
              rw [hmodN]
              refine At_loadGridc (r := (r + 1) % RR) hF 3 (by exact rfl) rfl (by omega) (by omega) ?_
              rw [hy0]
              (repeat (first | ((with_reducible refine is_AL ?_); (first | ((with_reducible refine is_guarded ?_); (refine At_guard_t rfl (by decide) rfl ?_)) | ((with_reducible refine is_bin ?_); (refine At_plain hF (by (exact (rfl : _ = some (Value.bool _)))) ?_)) | ((with_reducible refine is_pick ?_); (refine At_plain hF (by (exact (rfl : _ = some (Value.bool _)))) ?_)) | with_reducible refine At_nil ?_)) | ((with_reducible refine is_At ?_); (first | with_reducible refine At_then_n ?_ | with_reducible refine At_go (by assumption) ?_))))
              ((with_reducible refine is_cond ?_); (refine At_cond rfl ?_ ?_ <;> (intro hg; try (simp only [decide_eq_true_eq, decide_eq_false_iff_not, beq_iff_eq, bne_iff_ne, beq_eq_false_iff_ne, bne_eq_false_iff_eq, ne_eq, Bool.not_eq_true', Bool.not_eq_false', Bool.not_true, Bool.not_false, Decidable.not_not] at hg); try (exfalso; first | omega | exact hg True.intro))))
              · have hu := hg
                have hgx : (rowsSt (pairsF F RR i) i (PQ F RR i r t)).getD x.toNat default = c1 (pairsF F RR i) x - c1 (PQ F RR i r t) x := by
                  have := rowsSt_get (pairsF F RR i) i (PQ F RR i r t) x.toNat (by omega)
                  rw [Int.toNat_of_nonneg hv] at this; exact this
                have hst : (rowsSt (pairsF F RR i) i (PQ F RR i r t)).set x.toNat ((rowsSt (pairsF F RR i) i (PQ F RR i r t)).getD x.toNat default - 1) = rowsSt (pairsF F RR i) i (PQ F RR i r (t + 1)) := by
                  rw [hPt, if_pos ⟨hv, hu⟩, hgx]
                  exact rowsSt_set (pairsF F RR i) i (PQ F RR i r t) (x, y) ⟨hv, hv1.2⟩
                (repeat (first | ((with_reducible refine is_AL ?_); (first | ((with_reducible refine is_move ?_); (refine At_plain hF (by (first | exact (rfl : _ = some (Value.int _ _)) | exact (rfl : _ = some (Value.slice _ _ _)))) ?_)) | ((with_reducible refine is_bin ?_); (first | ((with_reducible refine is_badd ?_); (refine At_add hF rfl rfl (by omega) ?_)) | ((with_reducible refine is_bsub ?_); (refine At_sub hF rfl rfl (by omega) ?_)))) | ((with_reducible refine is_load ?_); (refine At_load hF 0 rfl rfl (by (exact buf_getI _ (by omega))) ?_)) | ((with_reducible refine is_index ?_); (refine At_indexS1i hF rfl rfl rfl (by omega) (by omega) ?_)) | ((with_reducible refine is_store ?_); (refine At_store_0 hF rfl (by (exact (rfl : _ = (Value.int _ _)))) (by (simp [buf_size1]; omega)) (by exact rfl) (by exact rfl) (by (exact buf_set1 _ (by omega))) ?_)) | with_reducible refine At_nil ?_)) | ((with_reducible refine is_At ?_); (first | with_reducible refine At_region ?_ | with_reducible refine At_then_n ?_ | with_reducible refine At_inb_n ?_ | with_reducible refine At_go (by assumption) ?_))))
                rw [hst]
                refine At.sub ?_ (hT (t + 1) _ hlt2 (by omega) ?_)
                · (repeat (first | exact List.Sublist.refl _ | exact List.Sublist.slnil | refine List.Sublist.cons_cons _ ?_ | refine List.Sublist.cons _ ?_))
                · simp only [hft, Bool.true_and, Bool.false_and]
                  (repeat (first | exact True.intro | (refine And.intro ?_ ?_; focus (show _ = (_ : Value); first | exact rfl | (refine Eq.trans (b := Value.int IntKind.i64 _) rfl (congrArg (Value.int IntKind.i64) ?_); omega)))))
              · have hnx : PQ F RR i r (t + 1) = PQ F RR i r t := by rw [hPt, if_neg (by omega)]; simp
                rw [← hnx]
                (repeat (first | ((with_reducible refine is_AL ?_); (first | ((with_reducible refine is_move ?_); (refine At_plain hF (by (exact (rfl : _ = some (Value.int _ _)))) ?_)) | ((with_reducible refine is_bin ?_); ((with_reducible refine is_badd ?_); (refine At_add hF rfl rfl (by omega) ?_))) | with_reducible refine At_nil ?_)) | ((with_reducible refine is_At ?_); (first | with_reducible refine At_region ?_ | with_reducible refine At_skip ?_ | with_reducible refine At_then_n ?_ | with_reducible refine At_inb_n ?_ | with_reducible refine At_go (by assumption) ?_))))
                refine At.sub ?_ (hT (t + 1) _ hlt2 (by omega) ?_)
                · (repeat (first | exact List.Sublist.refl _ | exact List.Sublist.slnil | refine List.Sublist.cons_cons _ ?_ | refine List.Sublist.cons _ ?_))
                · simp only [hft, Bool.true_and, Bool.false_and]
                  (repeat (first | exact True.intro | (refine And.intro ?_ ?_; focus (show _ = (_ : Value); first | exact rfl | (refine Eq.trans (b := Value.int IntKind.i64 _) rfl (congrArg (Value.int IntKind.i64) ?_); omega)))))
            · have hnx : PQ F RR i r (t + 1) = PQ F RR i r t := by rw [hPt, if_neg (by omega)]; simp
              rw [← hnx]
              (repeat (first | ((with_reducible refine is_AL ?_); (first | ((with_reducible refine is_guarded ?_); (refine At_guard_f hF rfl (by decide) rfl rfl ?_)) | ((with_reducible refine is_move ?_); (refine At_plain hF (by (exact (rfl : _ = some (Value.int _ _)))) ?_)) | ((with_reducible refine is_bin ?_); ((with_reducible refine is_badd ?_); (refine At_add hF rfl rfl (by omega) ?_))) | ((with_reducible refine is_pick ?_); (refine At_plain hF (by (exact (rfl : _ = some (Value.bool _)))) ?_)) | with_reducible refine At_nil ?_)) | ((with_reducible refine is_At ?_); (first | with_reducible refine At_region ?_ | with_reducible refine At_skip ?_ | with_reducible refine At_then_n ?_ | with_reducible refine At_inb_n ?_ | with_reducible refine At_go (by assumption) ?_ | ((with_reducible refine is_cond ?_); (refine At_cond_f rfl ?_))))))
              refine At.sub ?_ (hT (t + 1) _ hlt2 (by omega) ?_)
              · (repeat (first | exact List.Sublist.refl _ | exact List.Sublist.slnil | refine List.Sublist.cons_cons _ ?_ | refine List.Sublist.cons _ ?_))
              · simp only [hft, Bool.true_and, Bool.false_and]
                (repeat (first | exact True.intro | (refine And.intro ?_ ?_; focus (show _ = (_ : Value); first | exact rfl | (refine Eq.trans (b := Value.int IntKind.i64 _) rfl (congrArg (Value.int IntKind.i64) ?_); omega)))))
        · obtain rfl : t = i := by omega
          have hfr := fullSt_r F r t (by omega) hrl
          (repeat (first | ((with_reducible refine is_AL ?_); (first | ((with_reducible refine is_move ?_); (refine At_plain hF (by (exact (rfl : _ = some (Value.int _ _)))) ?_)) | ((with_reducible refine is_bin ?_); ((with_reducible refine is_badd ?_); (refine At_add hF rfl rfl (by omega) ?_))) | with_reducible refine At_nil ?_)) | ((with_reducible refine is_At ?_); (first | with_reducible refine At_region ?_ | with_reducible refine At_exit ?_ | with_reducible refine At_then_n ?_ | with_reducible refine At_then_e ?_ | with_reducible refine At_inb_n ?_ | with_reducible refine At_inb_e rfl ?_ | with_reducible refine At_go (by assumption) ?_))))
          rw [← PQ_r]
          refine At_close 2 rfl (sc_len _) hj1 hj2 hj3 ?_
          refine At.sub ?_ (hI (r + 1) _ hlt (by omega) ?_)
          · (repeat (first | exact List.Sublist.refl _ | exact List.Sublist.slnil | refine List.Sublist.cons_cons _ ?_ | refine List.Sublist.cons _ ?_))
          · simp only [hfr]
            (repeat (first | exact True.intro | (refine And.intro ?_ ?_; focus (show _ = (_ : Value); first | exact rfl | (refine Eq.trans (b := Value.int IntKind.i64 _) rfl (congrArg (Value.int IntKind.i64) ?_); omega)))))
      · obtain rfl : r = RR := by omega
        have hz : ∀ t, t < i → (rowsSt (pairsF F r i) i (PQ F r i r 0)).getD t default = 0 := fun t ht => by
          have := rowsSt_get (pairsF F r i) i (PQ F r i r 0) t ht
          rw [PQ_all] at this ⊢
          rw [show (default : Int) = 0 from rfl, this]; omega
        have hl1 := rowsSt_len (pairsF F r i) i (PQ F r i r 0)
        have hcols' : fullSt F r 0 = true → ∀ t, t < i → cols.getD t default = r := hcols
        generalize rowsSt (pairsF F r i) i (PQ F r i r 0) = rows at *
        generalize fullSt F r 0 = fl at *
        (repeat (first | ((with_reducible refine is_AL ?_); (first | ((with_reducible refine is_move ?_); (refine At_plain hF (by (exact (rfl : _ = some (Value.int _ _)))) ?_)) | with_reducible refine At_nil ?_)) | ((with_reducible refine is_At ?_); (first | with_reducible refine At_seq ?_; intro K hK | with_reducible refine At_block ?_ | with_reducible refine At_region ?_ | with_reducible refine At_exit ?_ | with_reducible refine At_then_n ?_ | with_reducible refine At_then_e ?_ | with_reducible refine At_inb_e rfl ?_ | with_reducible refine At_go (by assumption) ?_))))
        refine At_loop (fun k : Nat => [(7, .int .i64 (sqsM M)), (9, .slice (Af.map fun b => ⟨b, 0, none⟩) r cf), (10, .slice (some ⟨b10, 0, none⟩) i i), (11, .slice (some ⟨b11, 0, none⟩) i i), (12, .int .i64 (sqsM M)), (13, .bool fl), (142, .int .i64 i), (143, .int .i64 k)])
          (fun k => [.obj b10 (.cells (buf (sc (Value.int .i64)) rows []) 3), .obj b11 (.cells (buf (sc (Value.int .i64)) cols []) 3)]) (fun k => k ≤ i) (fun k => i - k) 0 ?_ ?_ (Nat.zero_le _) ?_
        · (repeat (first | exact List.Sublist.refl _ | exact List.Sublist.slnil | refine List.Sublist.cons_cons _ ?_ | refine List.Sublist.cons _ ?_))
        · (repeat (first | exact True.intro | (refine And.intro ?_ ?_; focus (show _ = (_ : Value); first | exact rfl | (refine Eq.trans (b := Value.int IntKind.i64 _) rfl (congrArg (Value.int IntKind.i64) ?_); omega)))))
        intro k hk K hL ρ3
        try dsimp only
        (repeat (first | ((with_reducible refine is_AL ?_); (first | ((with_reducible refine is_bin ?_); (refine At_plain hF (by (exact (rfl : _ = some (Value.bool _)))) ?_)) | with_reducible refine At_nil ?_)) | ((with_reducible refine is_At ?_); (first | with_reducible refine At_seq ?_; intro K hK | with_reducible refine At_region ?_ | with_reducible refine At_then_n ?_ | with_reducible refine At_go (by assumption) ?_))))
        ((with_reducible refine is_cond ?_); (refine At_cond rfl ?_ ?_ <;> (intro hg; try (simp only [decide_eq_true_eq, decide_eq_false_iff_not, beq_iff_eq, bne_iff_ne, beq_eq_false_iff_ne, bne_eq_false_iff_eq, ne_eq, Bool.not_eq_true', Bool.not_eq_false', Bool.not_true, Bool.not_false, Decidable.not_not] at hg); try (exfalso; first | omega | exact hg True.intro))))
        · have hlt : k < i := by omega
          have hzk := hz k hlt
          cases fl
          all_goals
            have hck := fun h => hcols' h k hlt
            simp only [forall_const, reduceCtorEq, false_imp_iff] at hck
            (repeat' (first | ((with_reducible refine is_AL ?_); (first | ((with_reducible refine is_guarded ?_); (first | refine At_guard_t rfl (by decide) rfl ?_ | refine At_guard_f hF rfl (by decide) rfl rfl ?_)) | ((with_reducible refine is_move ?_); (refine At_plain hF (by (first | exact (rfl : _ = some (Value.int _ _)) | exact (rfl : _ = some (Value.bool _)) | exact (rfl : _ = some (Value.slice _ _ _)))) ?_)) | ((with_reducible refine is_bin ?_); (first | ((with_reducible refine is_badd ?_); (refine At_add hF rfl rfl (by omega) ?_)) | refine At_plain hF (by (exact (rfl : _ = some (Value.bool _)))) ?_)) | ((with_reducible refine is_assign ?_); (refine At_plain hF (by (exact (rfl : _ = some (Value.int _ _)))) ?_)) | ((with_reducible refine is_pick ?_); (refine At_plain hF (by (exact (rfl : _ = some (Value.bool _)))) ?_)) | ((with_reducible refine is_call ?_); (refine At_len hF rfl ?_)) | ((with_reducible refine is_load ?_); (first | refine At_load hF 0 rfl rfl (by (exact buf_getI _ (by omega))) ?_ | refine At_load hF 1 rfl rfl (by (exact buf_getI _ (by omega))) ?_)) | ((with_reducible refine is_index ?_); (refine At_indexS1 hF rfl rfl rfl (by omega) ?_)) | with_reducible refine At_nil ?_)) | ((with_reducible refine is_At ?_); (first | with_reducible refine At_seq ?_; intro K hK | with_reducible refine At_block ?_ | with_reducible refine At_region ?_ | with_reducible refine At_skip ?_ | with_reducible refine At_then_n ?_ | with_reducible refine At_inb_n ?_ | with_reducible refine At_go (by assumption) ?_ | ((with_reducible refine is_cond ?_); (refine At_cond_f rfl ?_)))) | (first | ((with_reducible refine is_guarded ?_); (refine At_guard hF rfl (by decide) rfl ?_ ?_ <;> (intro hg; try (simp only [decide_eq_true_eq, decide_eq_false_iff_not, beq_iff_eq, bne_iff_ne, beq_eq_false_iff_ne, bne_eq_false_iff_eq, ne_eq, Bool.not_eq_true', Bool.not_eq_false', Bool.not_true, Bool.not_false, Decidable.not_not] at hg); try (exfalso; first | omega | exact hg True.intro)))) | ((with_reducible refine is_cond ?_); (refine At_cond rfl ?_ ?_ <;> (intro hg; try (simp only [decide_eq_true_eq, decide_eq_false_iff_not, beq_iff_eq, bne_iff_ne, beq_eq_false_iff_ne, bne_eq_false_iff_eq, ne_eq, Bool.not_eq_true', Bool.not_eq_false', Bool.not_true, Bool.not_false, Decidable.not_not] at hg); try (exfalso; first | omega | exact hg True.intro)))))))
            all_goals
              refine At.sub ?_ (hL (k + 1) _ hlt (by omega) ?_)
              · (repeat (first | exact List.Sublist.refl _ | exact List.Sublist.slnil | refine List.Sublist.cons_cons _ ?_ | refine List.Sublist.cons _ ?_))
              · (repeat (first | exact True.intro | (refine And.intro ?_ ?_; focus (show _ = (_ : Value); first | exact rfl | (refine Eq.trans (b := Value.int IntKind.i64 _) rfl (congrArg (Value.int IntKind.i64) ?_); omega)))))
        · (repeat (first | ((with_reducible refine is_AL ?_); (first | ((with_reducible refine is_move ?_); (refine At_plain hF (by (exact (rfl : _ = some (Value.int _ _)))) ?_)) | ((with_reducible refine is_bin ?_); (refine At_plain hF (by (exact (rfl : _ = some (Value.bool _)))) ?_)) | ((with_reducible refine is_assign ?_); (refine At_plain hF (by (exact (rfl : _ = some (Value.bool _)))) ?_)) | with_reducible refine At_nil ?_)) | ((with_reducible refine is_At ?_); (first | with_reducible refine At_seq ?_; intro K hK | with_reducible refine At_region ?_ | with_reducible refine At_ret ?_ | with_reducible refine At_exit ?_ | with_reducible refine At_then_n ?_ | with_reducible refine At_then_e ?_ | with_reducible refine At_inb_e rfl ?_ | with_reducible refine At_go (by assumption) ?_))))
          exact At_ret1 rfl (rv_tmp (by decide)) (fun w' hw' => ⟨_, rfl, by first | exact congrArg Value.bool (decide_eq_true rfl) | exact congrArg Value.bool (beq_self_eq_true _) | (show Value.bool _ = _; simp), hw'.below⟩)
theorem law_CarryCounts.calls (n : Int) (A : Option Addr) (c : Nat) (m : List S45) (r : Bool) (w : World) (hr : Kd.C k45 w A m.length m) (hc : m.length ≤ c) (h : r = true) :
    Calls Try.prog 5 #[.int .i64 n, .slice A m.length c] w fun e w' => e = .returned (.bool r) ∧ Below w.heap.size w w' := by
  subst h
  exact (counts_rets n A c m w hr hc).mono (by rintro e w' ⟨u, rfl, rfl, hb⟩; exact ⟨rfl, hb⟩)
end Go.Proofs.Ytcjpghiceebkfaa.P
