/- The reference's Send. -/
import Derived.Test.YtmilnlcegcdolaaRmovW
import Derived.Test.YtmilnlcegcdolaaXDrawF
namespace Go.Proofs.Ytmilnlcegcdolaa.P
open Go.RowKit Go.Proofs.YtmilnlcegcdolaaW.PrintWords
open XW RegInv
attribute [local irreducible] Addr.add
set_option linter.unusedSimpArgs false
set_option linter.unusedVariables false

def rsdPost (N : NET) (p : PKT) (u : Value) (Rs : List Res) : Prop :=
  (∃ e, sendF N.q N.a p = (([], []), e) ∧ e ≠ 0 ∧ u = .tuple #[zN.v, .int .i64 e] ∧ Rs = []) ∨
  (∃ A c, sendF N.q N.a p = ((N.q ++ [p], N.a), 0) ∧ u = .tuple #[(rowO A c N (N.q ++ [p])).v, .int .i64 0] ∧ Rs = [rowP A c (N.q ++ [p])])
theorem E12 : Enters Try.prog 12 := enters Try.func12 (by kernel_rfl) rfl
set_option maxHeartbeats 8000000 in
theorem rsend_rets (N : NET) (p : PKT) (w : World) (h : N.ok w) (hp : p.rd w) : Rets Try.prog 12 #[N.v, p.v] w fun u w' => ∃ Rs, rsdPost N p u Rs ∧ Mem w w' Rs := by
  have hF := wide_wide
  have hmx := h.q.2.1
  have hc := fun w' hb => rcheck_rets N w' (h.below (w := w) hb)
  have hcp := fun w' => rpacket_rets p w'
  have he : chkN N.q N.a = if okN N.q N.a then 0 else 60 := rfl
  obtain ⟨A, c, B, d, q, a⟩ := N
  obtain ⟨hqc, hac, hcm, hq, ha⟩ := h
  dsimp only at hmx he hqc hac hcm hq ha ⊢
  refine rets_at (n := 29) Try.func12 rfl Try.ntmps12 (by simp) ?_
  unfold NET.v at hc
  unfold PKT.v at hcp
  dsimp only at hc
  simp only [NET.v, PKT.v]
  ((repeat (first | ((with_reducible refine is_AL ?_); (first | ((with_reducible refine is_assign ?_); (refine At_plain hF (by (exact (rfl : _ = some (Value.int _ _)))) ?_)) | ((with_reducible refine is_load ?_); (refine At_loadB hF 2 rfl rfl rfl ?_)) | with_reducible refine At_nil ?_)) | ((with_reducible refine is_At ?_); (first | with_reducible refine At_seq ?_; intro K hK | with_reducible refine At_region ?_ | with_reducible refine At_then_n ?_ | with_reducible refine At_go (by assumption) ?_)))); (first | ((with_reducible refine is_alloc ?_); (refine At_alloc hF (by (exact (rfl : _ = List.toArray (_ :: _)))) ?_; intro b2)) | ((with_reducible refine is_box ?_); (refine At_boxA hF rfl ?_; intro b2))); (repeat (first | ((with_reducible refine is_AL ?_); (first | ((with_reducible refine is_assign ?_); (refine At_plain hF (by (exact (rfl : _ = some (Value.int _ _)))) ?_)) | ((with_reducible refine is_load ?_); (refine At_loadB hF 2 rfl rfl rfl ?_)) | with_reducible refine At_nil ?_)) | ((with_reducible refine is_At ?_); (first | with_reducible refine At_seq ?_; intro K hK | with_reducible refine At_region ?_ | with_reducible refine At_then_n ?_ | with_reducible refine At_go (by assumption) ?_)))); (first | ((with_reducible refine is_alloc ?_); (refine At_alloc hF (by (exact (rfl : _ = List.toArray (_ :: _)))) ?_; intro b3)) | ((with_reducible refine is_box ?_); (refine At_boxA hF rfl ?_; intro b3))); (repeat (first | ((with_reducible refine is_AL ?_); (first | ((with_reducible refine is_assign ?_); (refine At_plain hF (by (exact (rfl : _ = some (Value.int _ _)))) ?_)) | ((with_reducible refine is_load ?_); (refine At_loadB hF 2 rfl rfl rfl ?_)) | with_reducible refine At_nil ?_)) | ((with_reducible refine is_At ?_); (first | with_reducible refine At_seq ?_; intro K hK | with_reducible refine At_region ?_ | with_reducible refine At_then_n ?_ | with_reducible refine At_go (by assumption) ?_)))); (first | ((with_reducible refine is_alloc ?_); (refine At_alloc hF (by (exact (rfl : _ = List.toArray (_ :: _)))) ?_; intro b4)) | ((with_reducible refine is_box ?_); (refine At_boxA hF rfl ?_; intro b4))); (repeat (first | ((with_reducible refine is_AL ?_); (first | ((with_reducible refine is_assign ?_); (refine At_plain hF (by (exact (rfl : _ = some (Value.int _ _)))) ?_)) | ((with_reducible refine is_load ?_); (refine At_loadB hF 2 rfl rfl rfl ?_)) | with_reducible refine At_nil ?_)) | ((with_reducible refine is_At ?_); (first | with_reducible refine At_seq ?_; intro K hK | with_reducible refine At_region ?_ | with_reducible refine At_then_n ?_ | with_reducible refine At_go (by assumption) ?_)))))
  refine At_callB hF E14 rfl (arg1 (by (first | exact (rfl : _ = (Value.int _ _)) | exact (rfl : _ = (Value.bool _)) | exact (rfl : _ = (Value.pointer _)) | exact (rfl : _ = (Value.slice _ _ _)) | exact (rfl : _ = (Value.map _)) | exact (rfl : _ = (Value.func _ _ _)) | exact (rfl : _ = (Value.tuple _)) | exact (rfl : _ = (Value.agg _)) | exact (rfl : _ = (Value.string _)) | exact (rfl : _ = (Value.nilFunc)) | exact (rfl : _ = (Value.nilIface))))) (fun w' hw' => hc w' hw'.below) ?_
  rw [he]
  by_cases h0 : okN q a
  case neg =>
    rw [if_neg h0]
    (repeat (first | ((with_reducible refine is_AL ?_); (first | ((with_reducible refine is_guarded ?_); (refine At_guard_f hF rfl (by decide) rfl rfl ?_)) | ((with_reducible refine is_move ?_); (refine At_plain hF (by (exact (rfl : _ = some (Value.bool _)))) ?_)) | ((with_reducible refine is_bin ?_); (refine At_plain hF (by (exact (rfl : _ = some (Value.bool _)))) ?_)) | ((with_reducible refine is_pick ?_); (refine At_plain hF (by (exact (rfl : _ = some (Value.bool _)))) ?_)) | with_reducible refine At_nil ?_)) | ((with_reducible refine is_At ?_); (first | with_reducible refine At_seq ?_; intro K hK | with_reducible refine At_region ?_ | with_reducible refine At_then_n ?_ | with_reducible refine At_go (by assumption) ?_ | ((with_reducible refine is_cond ?_); (refine At_cond_t rfl ?_))))))
    refine At_buildS hF (cs := #[.slice none 0 0, .slice none 0 0]) (by exact rfl) (by exact rfl) ?_
    (repeat (first | ((with_reducible refine is_AL ?_); (first | ((with_reducible refine is_assign ?_); (refine At_plain hF (by (exact (rfl : _ = some (Value.int _ _)))) ?_)) | ((with_reducible refine is_store ?_); (refine At_storeB_0 hF rfl rfl rfl rfl (by simp [Value.one1, epair]) ?_)) | with_reducible refine At_nil ?_)) | ((with_reducible refine is_At ?_); (first | with_reducible refine At_ret ?_ | with_reducible refine At_then_n ?_ | with_reducible refine At_then_r ?_ | with_reducible refine At_go (by assumption) ?_))))
    exact At_ret2 rfl (rv_cellB (by decide) (by exact rfl) 0 rfl rfl) (rv_tmp (by decide)) (fun w' hw' => ⟨_, rfl, [], .inl ⟨60, if_pos (.inl h0), by decide, rfl, rfl⟩, hw'.sub (List.nil_sublist _)⟩)
  rw [if_pos h0]
  (repeat ((with_reducible refine is_AL ?_); (first | ((with_reducible refine is_guarded ?_); (refine At_guard_t rfl (by decide) rfl ?_)) | ((with_reducible refine is_move ?_); (refine At_plain hF (by (exact (rfl : _ = some (Value.bool _)))) ?_)) | ((with_reducible refine is_bin ?_); (refine At_plain hF (by (exact (rfl : _ = some (Value.bool _)))) ?_)) | ((with_reducible refine is_load ?_); (refine At_loadB hF 1 rfl rfl rfl ?_)))))
  refine At_callB hF E29 rfl (arg1 (by (first | exact (rfl : _ = (Value.int _ _)) | exact (rfl : _ = (Value.bool _)) | exact (rfl : _ = (Value.pointer _)) | exact (rfl : _ = (Value.slice _ _ _)) | exact (rfl : _ = (Value.map _)) | exact (rfl : _ = (Value.func _ _ _)) | exact (rfl : _ = (Value.tuple _)) | exact (rfl : _ = (Value.agg _)) | exact (rfl : _ = (Value.string _)) | exact (rfl : _ = (Value.nilFunc)) | exact (rfl : _ = (Value.nilIface))))) (fun w' hw' => hcp w') ?_
  by_cases h1 : okP p
  case neg =>
    rw [decide_eq_false h1]
    (repeat (first | ((with_reducible refine is_AL ?_); (first | ((with_reducible refine is_guarded ?_); (refine At_guard_t rfl (by decide) rfl ?_)) | ((with_reducible refine is_pick ?_); (refine At_plain hF (by (exact (rfl : _ = some (Value.bool _)))) ?_)) | ((with_reducible refine is_un ?_); (refine At_plain hF (by (exact (rfl : _ = some (Value.bool _)))) ?_)) | with_reducible refine At_nil ?_)) | ((with_reducible refine is_At ?_); (first | with_reducible refine At_seq ?_; intro K hK | with_reducible refine At_region ?_ | with_reducible refine At_then_n ?_ | with_reducible refine At_go (by assumption) ?_ | ((with_reducible refine is_cond ?_); (refine At_cond_t rfl ?_))))))
    refine At_buildS hF (cs := #[.slice none 0 0, .slice none 0 0]) (by exact rfl) (by exact rfl) ?_
    (repeat (first | ((with_reducible refine is_AL ?_); (first | ((with_reducible refine is_assign ?_); (refine At_plain hF (by (exact (rfl : _ = some (Value.int _ _)))) ?_)) | ((with_reducible refine is_store ?_); (refine At_storeB_0 hF rfl rfl rfl rfl (by simp [Value.one1, epair]) ?_)) | with_reducible refine At_nil ?_)) | ((with_reducible refine is_At ?_); (first | with_reducible refine At_ret ?_ | with_reducible refine At_then_n ?_ | with_reducible refine At_then_r ?_ | with_reducible refine At_go (by assumption) ?_))))
    exact At_ret2 rfl (rv_cellB (by decide) (by exact rfl) 0 rfl rfl) (rv_tmp (by decide)) (fun w' hw' => ⟨_, rfl, [], .inl ⟨60, if_pos (.inr h1), by decide, rfl, rfl⟩, hw'.sub (List.nil_sublist _)⟩)
  rw [decide_eq_true h1]
  (repeat (first | ((with_reducible refine is_AL ?_); (first | ((with_reducible refine is_guarded ?_); (refine At_guard_t rfl (by decide) rfl ?_)) | ((with_reducible refine is_bin ?_); (refine At_plain hF (by (exact (rfl : _ = some (Value.bool _)))) ?_)) | ((with_reducible refine is_pick ?_); (refine At_plain hF (by (exact (rfl : _ = some (Value.bool _)))) ?_)) | ((with_reducible refine is_un ?_); (refine At_plain hF (by (exact (rfl : _ = some (Value.bool _)))) ?_)) | ((with_reducible refine is_call ?_); (refine At_len hF rfl ?_)) | ((with_reducible refine is_field ?_); (refine At_field hF rfl ?_)) | ((with_reducible refine is_load ?_); (refine At_load hF 2 (by exact rfl) rfl (by (exact (rfl : _ = some (Value.slice _ _ _)))) ?_)) | with_reducible refine At_nil ?_)) | ((with_reducible refine is_At ?_); (first | with_reducible refine At_seq ?_; intro K hK | with_reducible refine At_region ?_ | with_reducible refine At_skip ?_ | with_reducible refine At_then_n ?_ | with_reducible refine At_go (by assumption) ?_ | ((with_reducible refine is_cond ?_); (refine At_cond_f rfl ?_))))))
  by_cases h2 : q.length = 4096
  · rw [show ((q.length : Int) == 4096) = true by rw [beq_iff_eq]; omega]
    (repeat ((with_reducible refine is_At ?_); (first | with_reducible refine At_seq ?_; intro K hK | with_reducible refine At_region ?_ | ((with_reducible refine is_cond ?_); (refine At_cond_t rfl ?_)))))
    refine At_buildS hF (cs := #[.slice none 0 0, .slice none 0 0]) (by exact rfl) (by exact rfl) ?_
    (repeat (first | ((with_reducible refine is_AL ?_); (first | ((with_reducible refine is_assign ?_); (refine At_plain hF (by (exact (rfl : _ = some (Value.int _ _)))) ?_)) | ((with_reducible refine is_store ?_); (refine At_storeB_0 hF rfl rfl rfl rfl (by simp [Value.one1, epair]) ?_)) | with_reducible refine At_nil ?_)) | ((with_reducible refine is_At ?_); (first | with_reducible refine At_ret ?_ | with_reducible refine At_then_n ?_ | with_reducible refine At_then_r ?_ | with_reducible refine At_go (by assumption) ?_))))
    exact At_ret2 rfl (rv_cellB (by decide) (by exact rfl) 0 rfl rfl) (rv_tmp (by decide)) (fun w' hw' => ⟨_, rfl, [], .inl ⟨2, by unfold sendF; rw [if_neg (by simp [h0, h1]), if_pos h2], by decide, rfl, rfl⟩, hw'.sub (List.nil_sublist _)⟩)
  rw [show ((q.length : Int) == 4096) = false by rw [beq_eq_false_iff_ne]; omega]
  (repeat ((with_reducible refine is_At ?_); (first | with_reducible refine At_seq ?_; intro K hK | with_reducible refine At_skip ?_ | with_reducible refine At_then_n ?_ | with_reducible refine At_go (by assumption) ?_ | ((with_reducible refine is_cond ?_); (refine At_cond_f rfl ?_)))))
  have hq1 := h0.1
  have hsf : sendF q a p = ((q ++ [p], a), 0) := by unfold sendF; rw [if_neg (by simp [h0, h1]), if_neg h2]
  refine At_mergeE (σ := Option Nat × Nat) (fun s => [(2, .pointer (some ⟨b2, 0, none⟩)), (4, .pointer (some ⟨b4, 0, none⟩))])
    (fun s => [.row 28 3 encP s.1 s.2 (q ++ [p]), .obj b4 (.cells #[.slice none 0 0, .slice none 0 0] 25), .obj b2 (.cells #[.slice (s.1.map fun b => ⟨b, 0, none⟩) (q.length + [p].length) s.2, .slice B a.length d] 25)]) (fun _ => True) ?_ ?_
  · intro K' hK'
    refine At_drawF hF 7 [1, 2, 4] [] [0, 3, 5, 6] (.obj b4 (.cells #[.slice none 0 0, .slice none 0 0] 25) :: .obj b3 (.cells #[.int .i64 p.f, .int .i64 p.t, .slice p.A p.l p.c] 28) :: .obj b2 (.cells #[.slice A q.length c, .slice B a.length d] 25) :: []) (by kernel_rfl) (by decide +kernel) (by decide +kernel) ?_; simp only [List.drop_succ_cons, List.drop_zero]; (repeat ((with_reducible refine is_AQF ?_); first | refine AQF_early (by decide) (by exact (rfl : _ = some (Oper.mk _ _ _ _ _ _))) (by intro K Q hK; (repeat (first | ((with_reducible refine is_field ?_); (refine At_field hF rfl ?_)) | ((with_reducible refine is_load ?_); (first | refine At_load hF 2 (by exact rfl) rfl (by (exact (rfl : _ = some (Value.slice _ _ _)))) ?_ | refine At_loadB hF 1 rfl rfl rfl ?_)))); exact At_nilK hK) ?_ | refine AQF_late (by decide) (by exact (rfl : _ = some (Oper.mk _ _ _ _ _ _))) (by intro E K Q hK; simp only [List.cons_append, List.nil_append] at hK ⊢; (repeat (first | ((with_reducible refine is_field ?_); (refine At_field hF rfl ?_)) | ((with_reducible refine is_load ?_); (first | refine At_load hF 2 (by exact rfl) rfl (by (exact (rfl : _ = some (Value.slice _ _ _)))) ?_ | refine At_loadB hF 1 rfl rfl rfl ?_)))); exact At_nilK hK) ?_))
    refine AQF_doneF ?_
    refine FAt_step (l := [0, 5]) (by (repeat (first | exact List.Sublist.refl _ | exact List.Sublist.slnil | refine List.Sublist.cons_cons _ ?_ | refine List.Sublist.cons _ ?_))) (by decide +kernel) ?_
    refine AT_all ?_ ?_
    · refine FAt_op (by exact (rfl : _ = some (Oper.mk _ _ _ _ _ _))) ?_
      intro K Q' hK
      (refine At_slice0 hF encP encP_len ?_; intro b0)
      refine At_nilK (hK _ _ ?_)
      refine FAt_step (l := [3, 5]) (by (repeat (first | exact List.Sublist.refl _ | exact List.Sublist.slnil | refine List.Sublist.cons_cons _ ?_ | refine List.Sublist.cons _ ?_))) (by decide +kernel) ?_
      refine AT_all ?_ ?_
      · refine FAt_op (by exact (rfl : _ = some (Oper.mk _ _ _ _ _ _))) ?_
        intro K Q' hK
        (first | (refine At_spread (sz := 3) (enc := encP) (l := []) (ys := q) hF 0 rfl (by exact rfl) rfl (by exact rfl) rfl (fun w hw => lies_q (Kd.C_below hq hw.below)) ⟨rfl, rfl, by decide, rfl⟩ (fun y _ => oneP y) (by first | (simp only [TS.bytes]; omega) | (simp only [TS.bytes, List.length_nil, List.length_append, List.length_cons]; omega)) (by first | omega | (simp only [List.length_nil, List.length_append, List.length_cons]; omega)) (fun h => none_len hq h) ?_) | (refine At_spread (sz := 3) (enc := encP) (l := []) (ys := q) hF 1 rfl (by exact rfl) rfl (by exact rfl) rfl (fun w hw => lies_q (Kd.C_below hq hw.below)) ⟨rfl, rfl, by decide, rfl⟩ (fun y _ => oneP y) (by first | (simp only [TS.bytes]; omega) | (simp only [TS.bytes, List.length_nil, List.length_append, List.length_cons]; omega)) (by first | omega | (simp only [List.length_nil, List.length_append, List.length_cons]; omega)) (fun h => none_len hq h) ?_)); intro Ab cb; simp only [List.set_cons_zero, List.set_cons_succ, List.nil_append, List.length_nil, Nat.zero_add]
        refine At_nilK (hK _ _ ?_)
        refine FAt_step (l := [5]) (by (repeat (first | exact List.Sublist.refl _ | exact List.Sublist.slnil | refine List.Sublist.cons_cons _ ?_ | refine List.Sublist.cons _ ?_))) (by decide +kernel) ?_
        refine AT_all1 ?_
        · refine FAt_op (by exact (rfl : _ = some (Oper.mk _ _ _ _ _ _))) ?_
          intro K Q' hK
          (refine At_sliceA_1 hF (by decide) rfl rfl ?_; intro bl)
          refine At_nilK (hK _ _ ?_)
          refine FAt_step (l := [6]) (by (repeat (first | exact List.Sublist.refl _ | exact List.Sublist.slnil | refine List.Sublist.cons_cons _ ?_ | refine List.Sublist.cons _ ?_))) (by decide +kernel) ?_
          refine AT_all1 ?_
          · refine FAt_op (by exact (rfl : _ = some (Oper.mk _ _ _ _ _ _))) ?_
            intro K Q' hK
            (first | (refine At_spread (sz := 3) (enc := encP) (l := q) (ys := [p]) hF 0 rfl (by exact rfl) rfl (by exact rfl) rfl (fun w hw => Lies.obj (hw.at_ 1 rfl) (fun j u hu => by simpa [encP] using hu)) ⟨rfl, rfl, by decide, rfl⟩ (fun y _ => oneP y) (by first | (simp only [TS.bytes]; omega) | (simp only [TS.bytes, List.length_nil, List.length_append, List.length_cons]; omega)) (by first | omega | (simp only [List.length_nil, List.length_append, List.length_cons]; omega)) (fun h => by cases h) ?_) | (refine At_spread (sz := 3) (enc := encP) (l := q) (ys := [p]) hF 1 rfl (by exact rfl) rfl (by exact rfl) rfl (fun w hw => Lies.obj (hw.at_ 0 rfl) (fun j u hu => by simpa [encP] using hu)) ⟨rfl, rfl, by decide, rfl⟩ (fun y _ => oneP y) (by first | (simp only [TS.bytes]; omega) | (simp only [TS.bytes, List.length_nil, List.length_append, List.length_cons]; omega)) (by first | omega | (simp only [List.length_nil, List.length_append, List.length_cons]; omega)) (fun h => by cases h) ?_)); intro Ac cc; simp only [List.set_cons_zero, List.set_cons_succ]
            refine At_nilK (hK _ _ ?_)
            refine FAt_done (by (repeat (first | exact List.Sublist.refl _ | exact List.Sublist.slnil | refine List.Sublist.cons_cons _ ?_ | refine List.Sublist.cons _ ?_))) (by decide +kernel) ?_
            (repeat (first | ((with_reducible refine is_AL ?_); (first | ((with_reducible refine is_field ?_); (refine At_field hF rfl ?_)) | ((with_reducible refine is_store ?_); (refine At_store_4 hF rfl (by (exact (rfl : _ = (Value.slice _ _ _)))) (by (exact of_decide_eq_true rfl)) (by exact rfl) (by exact rfl) (by (exact (rfl : _ = List.toArray (_ :: _)))) ?_)) | with_reducible refine At_nil ?_)) | ((with_reducible refine is_At ?_); (with_reducible refine At_then_n ?_))))
            refine At.sub ?_ (hK' (Ac, cc) _ trivial ?_)
            focus (repeat (first | exact List.Sublist.refl _ | exact List.Sublist.slnil | refine List.Sublist.cons_cons _ ?_ | refine List.Sublist.cons _ ?_))
            (repeat (first | exact True.intro | (refine And.intro ?_ ?_; focus (show _ = (_ : Value); first | exact rfl | (refine Eq.trans (b := Value.int IntKind.i64 _) rfl (congrArg (Value.int IntKind.i64) ?_); omega)))))
      refine AT_all1 ?_
      · refine FAt_op (by exact (rfl : _ = some (Oper.mk _ _ _ _ _ _))) ?_
        intro K Q' hK
        (refine At_sliceA_1 hF (by decide) rfl rfl ?_; intro bl)
        refine At_nilK (hK _ _ ?_)
        refine FAt_step (l := [3]) (by (repeat (first | exact List.Sublist.refl _ | exact List.Sublist.slnil | refine List.Sublist.cons_cons _ ?_ | refine List.Sublist.cons _ ?_))) (by decide +kernel) ?_
        refine AT_all1 ?_
        · refine FAt_op (by exact (rfl : _ = some (Oper.mk _ _ _ _ _ _))) ?_
          intro K Q' hK
          (first | (refine At_spread (sz := 3) (enc := encP) (l := []) (ys := q) hF 0 rfl (by exact rfl) rfl (by exact rfl) rfl (fun w hw => lies_q (Kd.C_below hq hw.below)) ⟨rfl, rfl, by decide, rfl⟩ (fun y _ => oneP y) (by first | (simp only [TS.bytes]; omega) | (simp only [TS.bytes, List.length_nil, List.length_append, List.length_cons]; omega)) (by first | omega | (simp only [List.length_nil, List.length_append, List.length_cons]; omega)) (fun h => none_len hq h) ?_) | (refine At_spread (sz := 3) (enc := encP) (l := []) (ys := q) hF 1 rfl (by exact rfl) rfl (by exact rfl) rfl (fun w hw => lies_q (Kd.C_below hq hw.below)) ⟨rfl, rfl, by decide, rfl⟩ (fun y _ => oneP y) (by first | (simp only [TS.bytes]; omega) | (simp only [TS.bytes, List.length_nil, List.length_append, List.length_cons]; omega)) (by first | omega | (simp only [List.length_nil, List.length_append, List.length_cons]; omega)) (fun h => none_len hq h) ?_)); intro Ab cb; simp only [List.set_cons_zero, List.set_cons_succ, List.nil_append, List.length_nil, Nat.zero_add]
          refine At_nilK (hK _ _ ?_)
          refine FAt_step (l := [6]) (by (repeat (first | exact List.Sublist.refl _ | exact List.Sublist.slnil | refine List.Sublist.cons_cons _ ?_ | refine List.Sublist.cons _ ?_))) (by decide +kernel) ?_
          refine AT_all1 ?_
          · refine FAt_op (by exact (rfl : _ = some (Oper.mk _ _ _ _ _ _))) ?_
            intro K Q' hK
            (first | (refine At_spread (sz := 3) (enc := encP) (l := q) (ys := [p]) hF 0 rfl (by exact rfl) rfl (by exact rfl) rfl (fun w hw => Lies.obj (hw.at_ 1 rfl) (fun j u hu => by simpa [encP] using hu)) ⟨rfl, rfl, by decide, rfl⟩ (fun y _ => oneP y) (by first | (simp only [TS.bytes]; omega) | (simp only [TS.bytes, List.length_nil, List.length_append, List.length_cons]; omega)) (by first | omega | (simp only [List.length_nil, List.length_append, List.length_cons]; omega)) (fun h => by cases h) ?_) | (refine At_spread (sz := 3) (enc := encP) (l := q) (ys := [p]) hF 1 rfl (by exact rfl) rfl (by exact rfl) rfl (fun w hw => Lies.obj (hw.at_ 0 rfl) (fun j u hu => by simpa [encP] using hu)) ⟨rfl, rfl, by decide, rfl⟩ (fun y _ => oneP y) (by first | (simp only [TS.bytes]; omega) | (simp only [TS.bytes, List.length_nil, List.length_append, List.length_cons]; omega)) (by first | omega | (simp only [List.length_nil, List.length_append, List.length_cons]; omega)) (fun h => by cases h) ?_)); intro Ac cc; simp only [List.set_cons_zero, List.set_cons_succ]
            refine At_nilK (hK _ _ ?_)
            refine FAt_done (by (repeat (first | exact List.Sublist.refl _ | exact List.Sublist.slnil | refine List.Sublist.cons_cons _ ?_ | refine List.Sublist.cons _ ?_))) (by decide +kernel) ?_
            (repeat (first | ((with_reducible refine is_AL ?_); (first | ((with_reducible refine is_field ?_); (refine At_field hF rfl ?_)) | ((with_reducible refine is_store ?_); (refine At_store_4 hF rfl (by (exact (rfl : _ = (Value.slice _ _ _)))) (by (exact of_decide_eq_true rfl)) (by exact rfl) (by exact rfl) (by (exact (rfl : _ = List.toArray (_ :: _)))) ?_)) | with_reducible refine At_nil ?_)) | ((with_reducible refine is_At ?_); (with_reducible refine At_then_n ?_))))
            refine At.sub ?_ (hK' (Ac, cc) _ trivial ?_)
            focus (repeat (first | exact List.Sublist.refl _ | exact List.Sublist.slnil | refine List.Sublist.cons_cons _ ?_ | refine List.Sublist.cons _ ?_))
            (repeat (first | exact True.intro | (refine And.intro ?_ ?_; focus (show _ = (_ : Value); first | exact rfl | (refine Eq.trans (b := Value.int IntKind.i64 _) rfl (congrArg (Value.int IntKind.i64) ?_); omega)))))
    refine AT_all1 ?_
    · refine FAt_op (by exact (rfl : _ = some (Oper.mk _ _ _ _ _ _))) ?_
      intro K Q' hK
      (refine At_sliceA_1 hF (by decide) rfl rfl ?_; intro bl)
      refine At_nilK (hK _ _ ?_)
      refine FAt_step (l := [0]) (by (repeat (first | exact List.Sublist.refl _ | exact List.Sublist.slnil | refine List.Sublist.cons_cons _ ?_ | refine List.Sublist.cons _ ?_))) (by decide +kernel) ?_
      refine AT_all1 ?_
      · refine FAt_op (by exact (rfl : _ = some (Oper.mk _ _ _ _ _ _))) ?_
        intro K Q' hK
        (refine At_slice0 hF encP encP_len ?_; intro b0)
        refine At_nilK (hK _ _ ?_)
        refine FAt_step (l := [3]) (by (repeat (first | exact List.Sublist.refl _ | exact List.Sublist.slnil | refine List.Sublist.cons_cons _ ?_ | refine List.Sublist.cons _ ?_))) (by decide +kernel) ?_
        refine AT_all1 ?_
        · refine FAt_op (by exact (rfl : _ = some (Oper.mk _ _ _ _ _ _))) ?_
          intro K Q' hK
          (first | (refine At_spread (sz := 3) (enc := encP) (l := []) (ys := q) hF 0 rfl (by exact rfl) rfl (by exact rfl) rfl (fun w hw => lies_q (Kd.C_below hq hw.below)) ⟨rfl, rfl, by decide, rfl⟩ (fun y _ => oneP y) (by first | (simp only [TS.bytes]; omega) | (simp only [TS.bytes, List.length_nil, List.length_append, List.length_cons]; omega)) (by first | omega | (simp only [List.length_nil, List.length_append, List.length_cons]; omega)) (fun h => none_len hq h) ?_) | (refine At_spread (sz := 3) (enc := encP) (l := []) (ys := q) hF 1 rfl (by exact rfl) rfl (by exact rfl) rfl (fun w hw => lies_q (Kd.C_below hq hw.below)) ⟨rfl, rfl, by decide, rfl⟩ (fun y _ => oneP y) (by first | (simp only [TS.bytes]; omega) | (simp only [TS.bytes, List.length_nil, List.length_append, List.length_cons]; omega)) (by first | omega | (simp only [List.length_nil, List.length_append, List.length_cons]; omega)) (fun h => none_len hq h) ?_)); intro Ab cb; simp only [List.set_cons_zero, List.set_cons_succ, List.nil_append, List.length_nil, Nat.zero_add]
          refine At_nilK (hK _ _ ?_)
          refine FAt_step (l := [6]) (by (repeat (first | exact List.Sublist.refl _ | exact List.Sublist.slnil | refine List.Sublist.cons_cons _ ?_ | refine List.Sublist.cons _ ?_))) (by decide +kernel) ?_
          refine AT_all1 ?_
          · refine FAt_op (by exact (rfl : _ = some (Oper.mk _ _ _ _ _ _))) ?_
            intro K Q' hK
            (first | (refine At_spread (sz := 3) (enc := encP) (l := q) (ys := [p]) hF 0 rfl (by exact rfl) rfl (by exact rfl) rfl (fun w hw => Lies.obj (hw.at_ 1 rfl) (fun j u hu => by simpa [encP] using hu)) ⟨rfl, rfl, by decide, rfl⟩ (fun y _ => oneP y) (by first | (simp only [TS.bytes]; omega) | (simp only [TS.bytes, List.length_nil, List.length_append, List.length_cons]; omega)) (by first | omega | (simp only [List.length_nil, List.length_append, List.length_cons]; omega)) (fun h => by cases h) ?_) | (refine At_spread (sz := 3) (enc := encP) (l := q) (ys := [p]) hF 1 rfl (by exact rfl) rfl (by exact rfl) rfl (fun w hw => Lies.obj (hw.at_ 0 rfl) (fun j u hu => by simpa [encP] using hu)) ⟨rfl, rfl, by decide, rfl⟩ (fun y _ => oneP y) (by first | (simp only [TS.bytes]; omega) | (simp only [TS.bytes, List.length_nil, List.length_append, List.length_cons]; omega)) (by first | omega | (simp only [List.length_nil, List.length_append, List.length_cons]; omega)) (fun h => by cases h) ?_)); intro Ac cc; simp only [List.set_cons_zero, List.set_cons_succ]
            refine At_nilK (hK _ _ ?_)
            refine FAt_done (by (repeat (first | exact List.Sublist.refl _ | exact List.Sublist.slnil | refine List.Sublist.cons_cons _ ?_ | refine List.Sublist.cons _ ?_))) (by decide +kernel) ?_
            (repeat (first | ((with_reducible refine is_AL ?_); (first | ((with_reducible refine is_field ?_); (refine At_field hF rfl ?_)) | ((with_reducible refine is_store ?_); (refine At_store_4 hF rfl (by (exact (rfl : _ = (Value.slice _ _ _)))) (by (exact of_decide_eq_true rfl)) (by exact rfl) (by exact rfl) (by (exact (rfl : _ = List.toArray (_ :: _)))) ?_)) | with_reducible refine At_nil ?_)) | ((with_reducible refine is_At ?_); (with_reducible refine At_then_n ?_))))
            refine At.sub ?_ (hK' (Ac, cc) _ trivial ?_)
            focus (repeat (first | exact List.Sublist.refl _ | exact List.Sublist.slnil | refine List.Sublist.cons_cons _ ?_ | refine List.Sublist.cons _ ?_))
            (repeat (first | exact True.intro | (refine And.intro ?_ ?_; focus (show _ = (_ : Value); first | exact rfl | (refine Eq.trans (b := Value.int IntKind.i64 _) rfl (congrArg (Value.int IntKind.i64) ?_); omega)))))
  rintro ⟨Ac, cc⟩ ρ1 _
  dsimp only
  (repeat (first | ((with_reducible refine is_AL ?_); (first | ((with_reducible refine is_assign ?_); (refine At_plain hF (by (exact (rfl : _ = some (Value.int _ _)))) ?_)) | ((with_reducible refine is_load ?_); (refine At_loadB hF 2 rfl rfl rfl ?_)) | ((with_reducible refine is_store ?_); (refine At_storeB_1 hF rfl rfl rfl rfl (by simp [Value.one1, epair]) ?_)) | with_reducible refine At_nil ?_)) | ((with_reducible refine is_At ?_); (first | with_reducible refine At_seq ?_; intro K hK | with_reducible refine At_region ?_ | with_reducible refine At_ret ?_ | with_reducible refine At_then_n ?_ | with_reducible refine At_go (by assumption) ?_))))
  exact At_ret2 rfl (rv_cellB (by decide) (by exact rfl) 1 rfl rfl) (rv_tmp (by decide)) (fun w' hw' => ⟨_, rfl, [rowP Ac cc (q ++ [p])], .inr ⟨Ac, cc, hsf, by simp only [rowO, NET.v]; rw [List.length_append]; rfl, rfl⟩, hw'.sub (List.Sublist.cons_cons _ (List.nil_sublist _))⟩)
end Go.Proofs.Ytmilnlcegcdolaa.P
