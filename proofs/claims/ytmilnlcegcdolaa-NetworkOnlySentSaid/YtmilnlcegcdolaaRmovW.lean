/- The reference's without and Send. -/
import Derived.Test.YtmilnlcegcdolaaDlvW
namespace Go.Proofs.Ytmilnlcegcdolaa.P
open Go.RowKit Go.Proofs.YtmilnlcegcdolaaW.PrintWords
open XW RegInv
attribute [local irreducible] Addr.add
set_option linter.unusedSimpArgs false
set_option linter.unusedVariables false

/-- a net whose packets lie in a row of one's own, maybe an empty one -/
def rowO (A : Option Nat) (c : Nat) (N : NET) (q : List PKT) : NET := ⟨A.map fun b => ⟨b, 0, none⟩, c, N.B, N.d, q, N.a⟩
def rowP (A : Option Nat) (c : Nat) (q : List PKT) : Res := .row 28 3 encP A c q
theorem none_len {w : World} {A : Option Addr} {n : Nat} {q : List PKT} (h : Kd.C kP w A n q) (hA : A = none) : n = 0 := by
  rcases Nat.eq_zero_or_pos n with h0 | h0
  · exact h0
  · obtain ⟨ad, e, _⟩ := h.2.2 h0
    rw [hA] at e; cases e
theorem oneP (y : PKT) : ∀ u ∈ encP y, u.oneCell' = true := fun u hu => by
  simp only [encP, List.mem_cons, List.not_mem_nil, or_false] at hu
  rcases hu with rfl | rfl | rfl <;> rfl
/-- what the reference's without returns -/
def rwtPost (N : NET) (i : Nat) (u : Value) (Rs : List Res) : Prop := ∃ A c, u = (rowO A c N (N.q.eraseIdx i)).v ∧ Rs = [rowP A c (N.q.eraseIdx i)]
theorem E42 : Enters Try.prog 42 := enters Try.func42 (by kernel_rfl) rfl
set_option maxHeartbeats 8000000 in
theorem rwithout_rets (N : NET) (i : Nat) (w : World) (h : N.ok w) (hi : i < N.q.length) (hq0 : N.q.length ≤ 4096) : Rets Try.prog 42 #[N.v, .int .i64 i] w fun u w' => ∃ Rs, rwtPost N i u Rs ∧ Mem w w' Rs := by
  have hF := wide_wide
  have hmx := h.q.2.1
  obtain ⟨A, c, B, d, q, a⟩ := N
  obtain ⟨hqc, hac, hcm, hq, ha⟩ := h
  dsimp only at hmx hqc hac hcm hq ha hi hq0 ⊢
  have e1 : (q.take i).length = i := by rw [List.length_take]; omega
  have e2 : (q.drop (i + 1)).length = q.length - (i + 1) := List.length_drop
  have e3 : q.eraseIdx i = q.take i ++ q.drop (i + 1) := List.eraseIdx_eq_take_drop_succ q i
  refine rets_at (n := 19) Try.func42 rfl Try.ntmps42 (by simp) ?_
  unfold NET.v
  dsimp only
  ((repeat (first | ((with_reducible refine is_AL ?_); (with_reducible refine At_nil ?_)) | ((with_reducible refine is_At ?_); (first | with_reducible refine At_seq ?_; intro K hK | with_reducible refine At_region ?_ | with_reducible refine At_then_n ?_ | with_reducible refine At_go (by assumption) ?_)))); (first | ((with_reducible refine is_alloc ?_); (refine At_alloc hF (by (exact (rfl : _ = List.toArray (_ :: _)))) ?_; intro b2)) | ((with_reducible refine is_box ?_); (refine At_boxA hF rfl ?_; intro b2))); (repeat (first | ((with_reducible refine is_AL ?_); (with_reducible refine At_nil ?_)) | ((with_reducible refine is_At ?_); (first | with_reducible refine At_seq ?_; intro K hK | with_reducible refine At_region ?_ | with_reducible refine At_then_n ?_ | with_reducible refine At_go (by assumption) ?_)))); (first | ((with_reducible refine is_alloc ?_); (refine At_alloc hF (by (exact (rfl : _ = List.toArray (_ :: _)))) ?_; intro b4)) | ((with_reducible refine is_box ?_); (refine At_boxA hF rfl ?_; intro b4))); (repeat (first | ((with_reducible refine is_AL ?_); (with_reducible refine At_nil ?_)) | ((with_reducible refine is_At ?_); (first | with_reducible refine At_seq ?_; intro K hK | with_reducible refine At_region ?_ | with_reducible refine At_then_n ?_ | with_reducible refine At_go (by assumption) ?_)))))
  refine At_drawE hF 12 [1, 2, 3, 4, 6, 7, 8, 9, 10] [] [0, 5, 11] (.obj b4 (.cells #[.slice none 0 0, .slice none 0 0] 25) :: .obj b2 (.cells #[.slice A q.length c, .slice B a.length d] 25) :: []) (by kernel_rfl) (by decide +kernel) (by decide +kernel) ?_; simp only [List.drop_succ_cons, List.drop_zero]; (repeat ((with_reducible refine is_AQF ?_); first | refine AQF_early (by decide) (by exact (rfl : _ = some (Oper.mk _ _ _ _ _ _))) (by intro K Q hK; (repeat (first | ((with_reducible refine is_move ?_); (refine At_plain hF (by (exact (rfl : _ = some (Value.int _ _)))) ?_)) | ((with_reducible refine is_field ?_); (refine At_field hF rfl ?_)) | ((with_reducible refine is_load ?_); (refine At_load hF 1 (by exact rfl) rfl (by (exact (rfl : _ = some (Value.slice _ _ _)))) ?_)))); exact At_nilK hK) ?_ | refine AQF_late (by decide) (by exact (rfl : _ = some (Oper.mk _ _ _ _ _ _))) (by intro E K Q hK; simp only [List.cons_append, List.nil_append] at hK ⊢; (repeat (first | ((with_reducible refine is_move ?_); (refine At_plain hF (by (exact (rfl : _ = some (Value.int _ _)))) ?_)) | ((with_reducible refine is_field ?_); (refine At_field hF rfl ?_)) | ((with_reducible refine is_load ?_); (refine At_load hF 1 (by exact rfl) rfl (by (exact (rfl : _ = some (Value.slice _ _ _)))) ?_)))); exact At_nilK hK) ?_))
  refine AQF_late (by decide) (by exact (rfl : _ = some (Oper.mk _ _ _ _ _ _))) (by intro E K Q hK; simp only [List.cons_append, List.nil_append] at hK ⊢; refine At_cut_h (h := i) hF (by exact rfl) (by exact rfl) (by omega) ?_; rw [cutA_z]; exact At_nilK hK) ?_
  (repeat ((with_reducible refine is_AQF ?_); first | refine AQF_early (by decide) (by exact (rfl : _ = some (Oper.mk _ _ _ _ _ _))) (by intro K Q hK; (repeat (first | ((with_reducible refine is_move ?_); (refine At_plain hF (by (exact (rfl : _ = some (Value.int _ _)))) ?_)) | ((with_reducible refine is_bin ?_); ((with_reducible refine is_badd ?_); (refine At_add hF rfl rfl (by omega) ?_))) | ((with_reducible refine is_field ?_); (refine At_field hF rfl ?_)) | ((with_reducible refine is_load ?_); (refine At_load hF 1 (by exact rfl) rfl (by (exact (rfl : _ = some (Value.slice _ _ _)))) ?_)))); exact At_nilK hK) ?_ | refine AQF_late (by decide) (by exact (rfl : _ = some (Oper.mk _ _ _ _ _ _))) (by intro E K Q hK; simp only [List.cons_append, List.nil_append] at hK ⊢; (repeat (first | ((with_reducible refine is_move ?_); (refine At_plain hF (by (exact (rfl : _ = some (Value.int _ _)))) ?_)) | ((with_reducible refine is_bin ?_); ((with_reducible refine is_badd ?_); (refine At_add hF rfl rfl (by omega) ?_))) | ((with_reducible refine is_field ?_); (refine At_field hF rfl ?_)) | ((with_reducible refine is_load ?_); (refine At_load hF 1 (by exact rfl) rfl (by (exact (rfl : _ = some (Value.slice _ _ _)))) ?_)))); exact At_nilK hK) ?_))
  refine AQF_late (by decide) (by exact (rfl : _ = some (Oper.mk _ _ _ _ _ _))) (by intro E K Q hK; simp only [List.cons_append, List.nil_append] at hK ⊢; refine At_cut_l (l := i + 1) hF (by exact rfl) (by exact rfl) (by omega) ?_; exact At_nilK hK) ?_
  refine AQF_done ?_
  (refine WAt_cons ?_ (by exact (rfl : _ = some (Oper.mk _ _ _ _ _ _))) ?_; (focus (repeat (first | exact List.Sublist.refl _ | exact List.Sublist.slnil | refine List.Sublist.cons_cons _ ?_ | refine List.Sublist.cons _ ?_))); intro K Q hK)
  refine At_slice0 hF encP encP_len ?_
  intro b0
  refine At_nilK (hK _ _ ?_)
  (refine WAt_cons ?_ (by exact (rfl : _ = some (Oper.mk _ _ _ _ _ _))) ?_; (focus (repeat (first | exact List.Sublist.refl _ | exact List.Sublist.slnil | refine List.Sublist.cons_cons _ ?_ | refine List.Sublist.cons _ ?_))); intro K Q hK)
  refine At_spread (sz := 3) (enc := encP) (l := []) (ys := q.take i) hF 0 rfl (by exact rfl) rfl (by exact rfl) e1.symm (fun w hw => lies_take (lies_q (Kd.C_below hq hw.below)) i) ⟨rfl, rfl, by decide, rfl⟩ (fun y _ => oneP y) (by first | (simp only [TS.bytes]; omega) | (simp only [TS.bytes, List.length_nil, List.length_append, List.length_cons]; omega)) (by first | omega | (simp only [List.length_nil, List.length_append, List.length_cons]; omega)) (fun h => by have := none_len hq h; omega) ?_
  intro Ab cb
  simp only [List.set_cons_zero, List.nil_append, List.length_nil, Nat.zero_add]
  refine At_nilK (hK _ _ ?_)
  (refine WAt_cons ?_ (by exact (rfl : _ = some (Oper.mk _ _ _ _ _ _))) ?_; (focus (repeat (first | exact List.Sublist.refl _ | exact List.Sublist.slnil | refine List.Sublist.cons_cons _ ?_ | refine List.Sublist.cons _ ?_))); intro K Q hK)
  refine At_spread (sz := 3) (enc := encP) (l := q.take i) (ys := q.drop (i + 1)) hF 0 rfl (by exact rfl) rfl (by exact rfl) e2.symm (fun w hw => lies_drop (lies_q (Kd.C_below hq hw.below)) (i + 1) c (by omega) hqc) ⟨rfl, rfl, by decide, rfl⟩ (fun y _ => oneP y) (by first | (simp only [TS.bytes]; omega) | (simp only [TS.bytes, List.length_nil, List.length_append, List.length_cons]; omega)) (by first | omega | (simp only [List.length_nil, List.length_append, List.length_cons]; omega)) (fun h => by have : A = none := (by unfold cutA at h; split at h; exact h; cases A with | none => rfl | some a => cases h); have := none_len hq this; omega) ?_
  intro Ac cc
  simp only [List.set_cons_zero]
  rw [← e3, show (q.take i).length + (q.drop (i + 1)).length = (q.eraseIdx i).length by rw [e3, List.length_append]]
  refine At_nilK (hK _ _ ?_)
  (refine WAt_nil ?_ ?_; (focus (repeat (first | exact List.Sublist.refl _ | exact List.Sublist.slnil | refine List.Sublist.cons_cons _ ?_ | refine List.Sublist.cons _ ?_))))
  (repeat (first | ((with_reducible refine is_AL ?_); (first | ((with_reducible refine is_field ?_); (refine At_field hF rfl ?_)) | ((with_reducible refine is_load ?_); (refine At_loadB hF 2 rfl rfl rfl ?_)) | ((with_reducible refine is_store ?_); (first | refine At_store_2 hF rfl (by (exact (rfl : _ = (Value.slice _ _ _)))) (by (exact of_decide_eq_true rfl)) (by exact rfl) (by exact rfl) (by (exact (rfl : _ = List.toArray (_ :: _)))) ?_ | refine At_storeB_1 hF rfl rfl rfl rfl (by simp [Value.one1, epair]) ?_)) | with_reducible refine At_nil ?_)) | ((with_reducible refine is_At ?_); (first | with_reducible refine At_seq ?_; intro K hK | with_reducible refine At_region ?_ | with_reducible refine At_ret ?_ | with_reducible refine At_then_n ?_ | with_reducible refine At_go (by assumption) ?_))))
  exact At_ret1 rfl (rv_cellB (by decide) (by exact rfl) 1 rfl rfl) (fun w' hw' => ⟨_, rfl, [rowP Ac cc (q.eraseIdx i)], ⟨Ac, cc, rfl, rfl⟩, hw'.sub (List.Sublist.cons_cons _ (List.nil_sublist _))⟩)
end Go.Proofs.Ytmilnlcegcdolaa.P
