/- at and without. -/
import Derived.Test.YtmilnlcegcdolaaMovW
namespace Go.Proofs.Ytmilnlcegcdolaa.P
open Go.RowKit Go.Proofs.YtmilnlcegcdolaaW.PrintWords
open XW RegInv
attribute [local irreducible] Addr.add
set_option linter.unusedSimpArgs false
set_option linter.unusedVariables false

theorem C_take {α : Type} {d : Kd α} {w : World} {A : Option Addr} {n : Nat} {q : List α} (h : Kd.C d w A n q) (k : Nat) (hk : k ≤ n) : Kd.C d w A k (q.take k) := by
  have hl : q.length = n := h.1
  refine ⟨by rw [List.length_take]; omega, by have := h.2.1; omega, fun h0 => ?_⟩
  obtain ⟨ad, hA, hc⟩ := h.2.2 (by omega)
  refine ⟨ad, hA, fun j p hj => ?_⟩
  have hjl := (List.getElem?_eq_some_iff.1 hj).1
  rw [List.length_take] at hjl
  rw [List.getElem?_take, if_pos (by omega)] at hj
  exact hc j p hj
theorem E35 : Enters Try.prog 35 := enters Try.func35 (by kernel_rfl) rfl
theorem E38 : Enters Try.prog 38 := enters Try.func38 (by kernel_rfl) rfl
def atP (q : List PKT) (a : List (Int × Int)) (i : Int) : PKT := if atE q a i = 0 then q.getD i.toNat zP else zP
theorem atE_0 {q : List PKT} {a : List (Int × Int)} {i : Int} (h : atE q a i = 0) : okN q a ∧ 0 ≤ i ∧ i < q.length := by
  unfold atE at h
  split at h
  · cases h
  · rename_i h1
    split at h
    · cases h
    · exact ⟨Classical.byContradiction h1, by omega⟩
set_option maxHeartbeats 8000000 in
theorem at_rets (N : NET) (i : Int) (w : World) (h : N.ok w) : Rets Try.prog 35 #[N.v, .int .i64 i] w fun u w' => u = .tuple #[(atP N.q N.a i).v, .int .i64 (atE N.q N.a i)] ∧ Below w.heap.size w w' := by
  have hF := wide_wide
  have hmx := h.q.2.1
  have hc := fun w' hb => check_rets N w' (h.below (w := w) hb)
  have he : chkN N.q N.a = if okN N.q N.a then 0 else 60 := rfl
  obtain ⟨A, c, B, d, q, a⟩ := N
  obtain ⟨hqc, hac, hcm, hq, ha⟩ := h
  dsimp only at hmx he hqc hac hcm hq ha ⊢
  refine rets_at (n := 25) Try.func35 rfl Try.ntmps35 (by simp) ?_
  unfold NET.v at hc ⊢
  dsimp only at hc ⊢
  ((repeat (first | ((with_reducible refine is_AL ?_); (first | ((with_reducible refine is_assign ?_); (refine At_plain hF (by (exact (rfl : _ = some (Value.int _ _)))) ?_)) | ((with_reducible refine is_load ?_); (refine At_loadB hF 1 rfl rfl rfl ?_)) | with_reducible refine At_nil ?_)) | ((with_reducible refine is_At ?_); (first | with_reducible refine At_seq ?_; intro K hK | with_reducible refine At_region ?_ | with_reducible refine At_then_n ?_ | with_reducible refine At_go (by assumption) ?_)))); (first | ((with_reducible refine is_alloc ?_); (refine At_alloc hF (by (exact (rfl : _ = List.toArray (_ :: _)))) ?_; intro b2)) | ((with_reducible refine is_box ?_); (refine At_boxA hF rfl ?_; intro b2))); (repeat (first | ((with_reducible refine is_AL ?_); (first | ((with_reducible refine is_assign ?_); (refine At_plain hF (by (exact (rfl : _ = some (Value.int _ _)))) ?_)) | ((with_reducible refine is_load ?_); (refine At_loadB hF 1 rfl rfl rfl ?_)) | with_reducible refine At_nil ?_)) | ((with_reducible refine is_At ?_); (first | with_reducible refine At_seq ?_; intro K hK | with_reducible refine At_region ?_ | with_reducible refine At_then_n ?_ | with_reducible refine At_go (by assumption) ?_)))); (first | ((with_reducible refine is_alloc ?_); (refine At_alloc hF (by (exact (rfl : _ = List.toArray (_ :: _)))) ?_; intro b4)) | ((with_reducible refine is_box ?_); (refine At_boxA hF rfl ?_; intro b4))); (repeat (first | ((with_reducible refine is_AL ?_); (first | ((with_reducible refine is_assign ?_); (refine At_plain hF (by (exact (rfl : _ = some (Value.int _ _)))) ?_)) | ((with_reducible refine is_load ?_); (refine At_loadB hF 1 rfl rfl rfl ?_)) | with_reducible refine At_nil ?_)) | ((with_reducible refine is_At ?_); (first | with_reducible refine At_seq ?_; intro K hK | with_reducible refine At_region ?_ | with_reducible refine At_then_n ?_ | with_reducible refine At_go (by assumption) ?_)))))
  refine At_callB hF E13 rfl (arg1 (by (first | exact (rfl : _ = (Value.int _ _)) | exact (rfl : _ = (Value.bool _)) | exact (rfl : _ = (Value.pointer _)) | exact (rfl : _ = (Value.slice _ _ _)) | exact (rfl : _ = (Value.map _)) | exact (rfl : _ = (Value.func _ _ _)) | exact (rfl : _ = (Value.tuple _)) | exact (rfl : _ = (Value.agg _)) | exact (rfl : _ = (Value.string _)) | exact (rfl : _ = (Value.nilFunc)) | exact (rfl : _ = (Value.nilIface))))) (fun w' hw' => hc w' hw'.below) ?_
  rw [he]
  by_cases h0 : okN q a
  case neg =>
    have e1 : atE q a i = 60 := if_pos h0
    have e2 : atP q a i = zP := by unfold atP; rw [e1]; rfl
    rw [if_neg h0]
    (repeat (first | ((with_reducible refine is_AL ?_); (first | ((with_reducible refine is_bin ?_); (refine At_plain hF (by (exact (rfl : _ = some (Value.bool _)))) ?_)) | ((with_reducible refine is_assign ?_); (refine At_plain hF (by (exact (rfl : _ = some (Value.int _ _)))) ?_)) | ((with_reducible refine is_load ?_); (refine At_loadB hF 0 rfl rfl rfl ?_)) | ((with_reducible refine is_store ?_); (refine At_storeB_0 hF rfl rfl rfl rfl (by simp [Value.one1, epair]) ?_)) | with_reducible refine At_nil ?_)) | ((with_reducible refine is_At ?_); (first | with_reducible refine At_seq ?_; intro K hK | with_reducible refine At_region ?_ | with_reducible refine At_ret ?_ | with_reducible refine At_then_n ?_ | with_reducible refine At_then_r ?_ | with_reducible refine At_go (by assumption) ?_ | ((with_reducible refine is_cond ?_); (refine At_cond_t rfl ?_))))))
    exact At_ret2 rfl (rv_cellB (by decide) (by exact rfl) 0 rfl rfl) (rv_tmp (by decide)) (fun w' hw' => ⟨_, rfl, by rw [e1, e2]; rfl, hw'.below⟩)
  rw [if_pos h0]
  (repeat (first | ((with_reducible refine is_AL ?_); (first | ((with_reducible refine is_move ?_); (refine At_plain hF (by (first | exact (rfl : _ = some (Value.int _ _)) | exact (rfl : _ = some (Value.bool _)))) ?_)) | ((with_reducible refine is_bin ?_); (refine At_plain hF (by (exact (rfl : _ = some (Value.bool _)))) ?_)) | with_reducible refine At_nil ?_)) | ((with_reducible refine is_At ?_); (first | with_reducible refine At_seq ?_; intro K hK | with_reducible refine At_region ?_ | with_reducible refine At_skip ?_ | with_reducible refine At_then_n ?_ | with_reducible refine At_go (by assumption) ?_ | ((with_reducible refine is_cond ?_); (refine At_cond_f rfl ?_))))))
  by_cases h1 : i < 0
  · have e1 : atE q a i = 1 := by unfold atE; rw [if_neg (fun h => h h0), if_pos (.inl h1)]
    have e2 : atP q a i = zP := by unfold atP; rw [e1]; rfl
    rw [decide_eq_true h1]
    (repeat (first | ((with_reducible refine is_AL ?_); (first | ((with_reducible refine is_guarded ?_); (refine At_guard_f hF rfl (by decide) rfl rfl ?_)) | ((with_reducible refine is_assign ?_); (refine At_plain hF (by (exact (rfl : _ = some (Value.int _ _)))) ?_)) | ((with_reducible refine is_pick ?_); (refine At_plain hF (by (exact (rfl : _ = some (Value.bool _)))) ?_)) | ((with_reducible refine is_load ?_); (refine At_loadB hF 0 rfl rfl rfl ?_)) | ((with_reducible refine is_store ?_); (refine At_storeB_0 hF rfl rfl rfl rfl (by simp [Value.one1, epair]) ?_)) | with_reducible refine At_nil ?_)) | ((with_reducible refine is_At ?_); (first | with_reducible refine At_seq ?_; intro K hK | with_reducible refine At_region ?_ | with_reducible refine At_ret ?_ | with_reducible refine At_then_n ?_ | with_reducible refine At_then_r ?_ | with_reducible refine At_go (by assumption) ?_ | ((with_reducible refine is_cond ?_); (refine At_cond_t rfl ?_))))))
    exact At_ret2 rfl (rv_cellB (by decide) (by exact rfl) 0 rfl rfl) (rv_tmp (by decide)) (fun w' hw' => ⟨_, rfl, by rw [e1, e2]; rfl, hw'.below⟩)
  rw [decide_eq_false h1]
  (repeat (first | ((with_reducible refine is_AL ?_); (first | ((with_reducible refine is_guarded ?_); (refine At_guard_t rfl (by decide) rfl ?_)) | ((with_reducible refine is_move ?_); (refine At_plain hF (by (exact (rfl : _ = some (Value.int _ _)))) ?_)) | ((with_reducible refine is_bin ?_); (refine At_plain hF (by (exact (rfl : _ = some (Value.bool _)))) ?_)) | ((with_reducible refine is_pick ?_); (refine At_plain hF (by (exact (rfl : _ = some (Value.bool _)))) ?_)) | ((with_reducible refine is_call ?_); (refine At_len hF rfl ?_)) | ((with_reducible refine is_field ?_); (refine At_field hF rfl ?_)) | ((with_reducible refine is_load ?_); (refine At_load hF 1 (by exact rfl) rfl (by (exact (rfl : _ = some (Value.slice _ _ _)))) ?_)) | with_reducible refine At_nil ?_)) | ((with_reducible refine is_At ?_); (first | with_reducible refine At_then_n ?_ | with_reducible refine At_go (by assumption) ?_))))
  by_cases h2 : i ≥ q.length
  · have e1 : atE q a i = 1 := by unfold atE; rw [if_neg (fun h => h h0), if_pos (.inr h2)]
    have e2 : atP q a i = zP := by unfold atP; rw [e1]; rfl
    rw [decide_eq_true h2]
    (repeat (first | ((with_reducible refine is_AL ?_); (first | ((with_reducible refine is_assign ?_); (refine At_plain hF (by (exact (rfl : _ = some (Value.int _ _)))) ?_)) | ((with_reducible refine is_load ?_); (refine At_loadB hF 0 rfl rfl rfl ?_)) | ((with_reducible refine is_store ?_); (refine At_storeB_0 hF rfl rfl rfl rfl (by simp [Value.one1, epair]) ?_)) | with_reducible refine At_nil ?_)) | ((with_reducible refine is_At ?_); (first | with_reducible refine At_seq ?_; intro K hK | with_reducible refine At_region ?_ | with_reducible refine At_ret ?_ | with_reducible refine At_then_n ?_ | with_reducible refine At_then_r ?_ | with_reducible refine At_go (by assumption) ?_ | ((with_reducible refine is_cond ?_); (refine At_cond_t rfl ?_))))))
    exact At_ret2 rfl (rv_cellB (by decide) (by exact rfl) 0 rfl rfl) (rv_tmp (by decide)) (fun w' hw' => ⟨_, rfl, by rw [e1, e2]; rfl, hw'.below⟩)
  rw [decide_eq_false h2]
  obtain ⟨k, rfl⟩ : ∃ k : Nat, i = k := ⟨i.toNat, by omega⟩
  have e1 : atE q a (k : Int) = 0 := by unfold atE; rw [if_neg (fun h => h h0), if_neg (by omega)]
  have e2 : atP q a (k : Int) = q.getD k zP := by unfold atP; rw [e1, if_pos rfl, Int.toNat_natCast]
  obtain ⟨ad, hA, hrd, hcell⟩ := CP hq k (by omega)
  generalize q.getD k zP = p at *
  (repeat (first | ((with_reducible refine is_AL ?_); (first | ((with_reducible refine is_move ?_); (refine At_plain hF (by (exact (rfl : _ = some (Value.int _ _)))) ?_)) | ((with_reducible refine is_field ?_); (refine At_field hF rfl ?_)) | ((with_reducible refine is_load ?_); (refine At_load hF 1 (by exact rfl) rfl (by (exact (rfl : _ = some (Value.slice _ _ _)))) ?_)) | ((with_reducible refine is_index ?_); (refine At_indexC hF rfl (by assumption) rfl (by omega) ?_)))) | ((with_reducible refine is_At ?_); (first | with_reducible refine At_seq ?_; intro K hK | with_reducible refine At_region ?_ | with_reducible refine At_skip ?_ | with_reducible refine At_then_n ?_ | with_reducible refine At_go (by assumption) ?_ | ((with_reducible refine is_cond ?_); (refine At_cond_f rfl ?_))))))
  refine At_loadCS (vs := [.int .i64 p.f, .int .i64 p.t, .slice p.A p.l p.c]) hF (by exact rfl) (by exact rfl) hcell ?_
  (repeat (first | ((with_reducible refine is_AL ?_); (first | ((with_reducible refine is_assign ?_); (refine At_plain hF (by (exact (rfl : _ = some (Value.int _ _)))) ?_)) | ((with_reducible refine is_store ?_); (refine At_storeB_0 hF rfl rfl rfl rfl (by simp [Value.one1, epair]) ?_)) | with_reducible refine At_nil ?_)) | ((with_reducible refine is_At ?_); (first | with_reducible refine At_ret ?_ | with_reducible refine At_then_n ?_ | with_reducible refine At_go (by assumption) ?_))))
  exact At_ret2 rfl (rv_cellB (by decide) (by exact rfl) 0 rfl rfl) (rv_tmp (by decide)) (fun w' hw' => ⟨_, rfl, by rw [e1, e2]; rfl, hw'.below⟩)
/-- what without returns: a cut of what there was, or a row -/
def cutN (N : NET) (i : Nat) : NET := ⟨N.A, i, N.B, N.d, N.q.take i, N.a⟩
theorem cutN_ok {w : World} {N : NET} (h : N.ok w) {i : Nat} (hi : i ≤ N.q.length) : (cutN N i).ok w := by
  have e1 : (N.q.take i).length = i := by rw [List.length_take]; omega
  refine ⟨by show (N.q.take i).length ≤ i; omega, h.ac, Nat.le_trans (by have := h.qc; omega : i ≤ N.c) h.cm, ?_, h.a⟩
  show Kd.C kP w N.A (N.q.take i).length (N.q.take i)
  rw [e1]; exact C_take h.q i hi
def wthPost (N : NET) (i : Nat) (u : Value) (Rs : List Res) : Prop :=
  (N.q.eraseIdx i = N.q.take i ∧ u = (cutN N i).v ∧ Rs = []) ∨ (∃ b c, u = (rowN b c N (N.q.eraseIdx i)).v ∧ Rs = [rowR b c (N.q.eraseIdx i)])
set_option maxHeartbeats 8000000 in
theorem without_rets (N : NET) (i : Nat) (w : World) (h : N.ok w) (hi : i < N.q.length) (hq0 : N.q.length ≤ 4096) : Rets Try.prog 38 #[N.v, .int .i64 i] w fun u w' => ∃ Rs, wthPost N i u Rs ∧ Mem w w' Rs := by
  have hF := wide_wide
  have hmx := h.q.2.1
  obtain ⟨A, c, B, d, q, a⟩ := N
  obtain ⟨hqc, hac, hcm, hq, ha⟩ := h
  dsimp only at hmx hqc hac hcm hq ha hi hq0 ⊢
  have e1 : (q.take i).length = i := by rw [List.length_take]; omega
  have e2 : (q.drop (i + 1)).length = q.length - (i + 1) := List.length_drop
  have e3 : q.eraseIdx i = q.take i ++ q.drop (i + 1) := List.eraseIdx_eq_take_drop_succ q i
  refine rets_at (n := 18) Try.func38 rfl Try.ntmps38 (by simp) ?_
  unfold NET.v
  dsimp only
  ((repeat (first | ((with_reducible refine is_AL ?_); (with_reducible refine At_nil ?_)) | ((with_reducible refine is_At ?_); (first | with_reducible refine At_seq ?_; intro K hK | with_reducible refine At_region ?_ | with_reducible refine At_then_n ?_ | with_reducible refine At_go (by assumption) ?_)))); (first | ((with_reducible refine is_alloc ?_); (refine At_alloc hF (by (exact (rfl : _ = List.toArray (_ :: _)))) ?_; intro b2)) | ((with_reducible refine is_box ?_); (refine At_boxA hF rfl ?_; intro b2))); (repeat (first | ((with_reducible refine is_AL ?_); (with_reducible refine At_nil ?_)) | ((with_reducible refine is_At ?_); (first | with_reducible refine At_seq ?_; intro K hK | with_reducible refine At_region ?_ | with_reducible refine At_then_n ?_ | with_reducible refine At_go (by assumption) ?_)))); (first | ((with_reducible refine is_alloc ?_); (refine At_alloc hF (by (exact (rfl : _ = List.toArray (_ :: _)))) ?_; intro b4)) | ((with_reducible refine is_box ?_); (refine At_boxA hF rfl ?_; intro b4))); (repeat (first | ((with_reducible refine is_AL ?_); (with_reducible refine At_nil ?_)) | ((with_reducible refine is_At ?_); (first | with_reducible refine At_seq ?_; intro K hK | with_reducible refine At_region ?_ | with_reducible refine At_then_n ?_ | with_reducible refine At_go (by assumption) ?_)))))
  refine At_drawE hF 11 [0, 1, 2, 3, 4, 5, 6, 7, 8, 9] [] [10] (.obj b4 (.cells #[.slice none 0 0, .slice none 0 0] 25) :: .obj b2 (.cells #[.slice A q.length c, .slice B a.length d] 25) :: []) (by kernel_rfl) (by decide +kernel) (by decide +kernel) ?_; simp only [List.drop_succ_cons, List.drop_zero]; (repeat ((with_reducible refine is_AQF ?_); first | refine AQF_early (by decide) (by exact (rfl : _ = some (Oper.mk _ _ _ _ _ _))) (by intro K Q hK; (repeat (first | ((with_reducible refine is_move ?_); (refine At_plain hF (by (exact (rfl : _ = some (Value.int _ _)))) ?_)) | ((with_reducible refine is_field ?_); (refine At_field hF rfl ?_)) | ((with_reducible refine is_load ?_); (refine At_load hF 1 (by exact rfl) rfl (by (exact (rfl : _ = some (Value.slice _ _ _)))) ?_)))); exact At_nilK hK) ?_ | refine AQF_late (by decide) (by exact (rfl : _ = some (Oper.mk _ _ _ _ _ _))) (by intro E K Q hK; simp only [List.cons_append, List.nil_append] at hK ⊢; (repeat (first | ((with_reducible refine is_move ?_); (refine At_plain hF (by (exact (rfl : _ = some (Value.int _ _)))) ?_)) | ((with_reducible refine is_field ?_); (refine At_field hF rfl ?_)) | ((with_reducible refine is_load ?_); (refine At_load hF 1 (by exact rfl) rfl (by (exact (rfl : _ = some (Value.slice _ _ _)))) ?_)))); exact At_nilK hK) ?_))
  refine AQF_late (by decide) (by exact (rfl : _ = some (Oper.mk _ _ _ _ _ _))) (by intro E K Q hK; simp only [List.cons_append, List.nil_append] at hK ⊢; refine At_cut_hm hF (by exact rfl) (by exact rfl) (by exact rfl) (Nat.le_refl i) (by omega) ?_; rw [cutA_z]; exact At_nilK hK) ?_
  (repeat ((with_reducible refine is_AQF ?_); first | refine AQF_early (by decide) (by exact (rfl : _ = some (Oper.mk _ _ _ _ _ _))) (by intro K Q hK; (repeat (first | ((with_reducible refine is_move ?_); (refine At_plain hF (by (exact (rfl : _ = some (Value.int _ _)))) ?_)) | ((with_reducible refine is_bin ?_); ((with_reducible refine is_badd ?_); (refine At_add hF rfl rfl (by omega) ?_))) | ((with_reducible refine is_field ?_); (refine At_field hF rfl ?_)) | ((with_reducible refine is_load ?_); (refine At_load hF 1 (by exact rfl) rfl (by (exact (rfl : _ = some (Value.slice _ _ _)))) ?_)))); exact At_nilK hK) ?_ | refine AQF_late (by decide) (by exact (rfl : _ = some (Oper.mk _ _ _ _ _ _))) (by intro E K Q hK; simp only [List.cons_append, List.nil_append] at hK ⊢; (repeat (first | ((with_reducible refine is_move ?_); (refine At_plain hF (by (exact (rfl : _ = some (Value.int _ _)))) ?_)) | ((with_reducible refine is_bin ?_); ((with_reducible refine is_badd ?_); (refine At_add hF rfl rfl (by omega) ?_))) | ((with_reducible refine is_field ?_); (refine At_field hF rfl ?_)) | ((with_reducible refine is_load ?_); (refine At_load hF 1 (by exact rfl) rfl (by (exact (rfl : _ = some (Value.slice _ _ _)))) ?_)))); exact At_nilK hK) ?_))
  refine AQF_late (by decide) (by exact (rfl : _ = some (Oper.mk _ _ _ _ _ _))) (by intro E K Q hK; simp only [List.cons_append, List.nil_append] at hK ⊢; refine At_cut_l (l := i + 1) hF (by exact rfl) (by exact rfl) (by omega) ?_; exact At_nilK hK) ?_
  refine AQF_done ?_
  (refine WAt_cons ?_ (by exact (rfl : _ = some (Oper.mk _ _ _ _ _ _))) ?_; (focus (repeat (first | exact List.Sublist.refl _ | exact List.Sublist.slnil | refine List.Sublist.cons_cons _ ?_ | refine List.Sublist.cons _ ?_))); intro K Q hK)
  refine At_spreadNew (sz := 3) (enc := encP) (l := q.take i) (ys := q.drop (i + 1)) hF (by exact rfl) e1.symm rfl (by exact rfl) e2.symm (fun w hw => lies_take (lies_q (Kd.C_below hq hw.below)) i) (fun w hw => lies_drop (lies_q (Kd.C_below hq hw.below)) (i + 1) c (by omega) hqc) encP_len (by decide) (by simp only [TS.bytes]; omega) (by omega) ?_ ?_
  · intro hnil
    refine At_nilK (hK _ _ ?_)
    (refine WAt_nil ?_ ?_; (focus (repeat (first | exact List.Sublist.refl _ | exact List.Sublist.slnil | refine List.Sublist.cons_cons _ ?_ | refine List.Sublist.cons _ ?_))))
    (repeat (first | ((with_reducible refine is_AL ?_); (first | ((with_reducible refine is_field ?_); (refine At_field hF rfl ?_)) | ((with_reducible refine is_load ?_); (refine At_loadB hF 1 rfl rfl rfl ?_)) | ((with_reducible refine is_store ?_); (first | refine At_store_1 hF rfl (by (exact (rfl : _ = (Value.slice _ _ _)))) (by (exact of_decide_eq_true rfl)) (by exact rfl) (by exact rfl) (by (exact (rfl : _ = List.toArray (_ :: _)))) ?_ | refine At_storeB_0 hF rfl rfl rfl rfl (by simp [Value.one1, epair]) ?_)) | with_reducible refine At_nil ?_)) | ((with_reducible refine is_At ?_); (first | with_reducible refine At_seq ?_; intro K hK | with_reducible refine At_region ?_ | with_reducible refine At_ret ?_ | with_reducible refine At_then_n ?_ | with_reducible refine At_go (by assumption) ?_))))
    exact At_ret1 rfl (rv_cellB (by decide) (by exact rfl) 0 rfl rfl) (fun w' hw' => ⟨_, rfl, [], .inl ⟨by rw [e3, hnil, List.append_nil], by simp only [cutN, NET.v]; rw [e1], rfl⟩, hw'.sub (List.nil_sublist _)⟩)
  · intro hne b' c'
    refine At_nilK (hK _ _ ?_)
    (refine WAt_nil ?_ ?_; (focus (repeat (first | exact List.Sublist.refl _ | exact List.Sublist.slnil | refine List.Sublist.cons_cons _ ?_ | refine List.Sublist.cons _ ?_))))
    (repeat (first | ((with_reducible refine is_AL ?_); (first | ((with_reducible refine is_field ?_); (refine At_field hF rfl ?_)) | ((with_reducible refine is_load ?_); (refine At_loadB hF 2 rfl rfl rfl ?_)) | ((with_reducible refine is_store ?_); (first | refine At_store_2 hF rfl (by (exact (rfl : _ = (Value.slice _ _ _)))) (by (exact of_decide_eq_true rfl)) (by exact rfl) (by exact rfl) (by (exact (rfl : _ = List.toArray (_ :: _)))) ?_ | refine At_storeB_1 hF rfl rfl rfl rfl (by simp [Value.one1, epair]) ?_)) | with_reducible refine At_nil ?_)) | ((with_reducible refine is_At ?_); (first | with_reducible refine At_seq ?_; intro K hK | with_reducible refine At_region ?_ | with_reducible refine At_ret ?_ | with_reducible refine At_then_n ?_ | with_reducible refine At_go (by assumption) ?_))))
    rw [← List.length_append, ← e3]
    exact At_ret1 rfl (rv_cellB (by decide) (by exact rfl) 1 rfl rfl) (fun w' hw' => ⟨_, rfl, [rowR b' c' (q.eraseIdx i)], .inr ⟨b', c', rfl, rfl⟩, hw'.sub (List.Sublist.cons_cons _ (List.nil_sublist _))⟩)
end Go.Proofs.Ytmilnlcegcdolaa.P
