/- Send, at, without: the program's and the reference's. -/
import Derived.Test.YtmilnlcegcdolaaCntW
import Derived.Test.YtmilnlcegcdolaaXLies
import Derived.Test.YtmilnlcegcdolaaXDrawF
namespace Go.Proofs.Ytmilnlcegcdolaa.P
open Go.RowKit Go.Proofs.YtmilnlcegcdolaaW.PrintWords
open XW RegInv
attribute [local irreducible] Addr.add
set_option linter.unusedSimpArgs false
set_option linter.unusedVariables false

/-- packets lie where they are read -/
theorem lies_q {w : World} {A : Option Addr} {q : List PKT} (h : Kd.C kP w A q.length q) : Lies w A (q.flatMap encP) := lies_C (d := kP) (fun w x cs hk => hk.1) h
theorem lies_take {w : World} {A : Option Addr} {q : List PKT} (h : Lies w A (q.flatMap encP)) (k : Nat) : Lies w A ((q.take k).flatMap encP) := by
  rcases h with h | ⟨a, hA, hc⟩
  · refine .inl ?_
    have : q = [] := by
      cases q with
      | nil => rfl
      | cons x q => simp [encP] at h
    subst this; simp
  · refine .inr ⟨a, hA, fun j u hu => hc j u ?_⟩
    have e2 : q.flatMap encP = (q.take k).flatMap encP ++ (q.drop k).flatMap encP := by rw [← List.flatMap_append, List.take_append_drop]
    rw [e2, List.getElem?_append_left (List.getElem?_eq_some_iff.1 hu).1]
    exact hu
theorem lies_drop {w : World} {A : Option Addr} {q : List PKT} (h : Lies w A (q.flatMap encP)) (k c : Nat) (hk : k ≤ q.length) (hc2 : q.length ≤ c) : Lies w (cutA A k c 3) ((q.drop k).flatMap encP) := by
  by_cases e : c = k
  · exact .inl (by rw [List.drop_of_length_le (by omega)]; rfl)
  rcases h with h | ⟨a, hA, hc⟩
  · refine .inl ?_
    have : q = [] := by
      cases q with
      | nil => rfl
      | cons x q => simp [encP] at h
    subst this; simp
  · refine .inr ⟨a.add (k * 3), by unfold cutA; rw [if_neg e, hA]; rfl, fun j u hu => ?_⟩
    have el : ((q.take k).flatMap encP).length = k * 3 := by rw [len_flat encP_len, List.length_take, Nat.min_eq_left hk]
    have e2 : q.flatMap encP = (q.take k).flatMap encP ++ (q.drop k).flatMap encP := by rw [← List.flatMap_append, List.take_append_drop]
    have := hc (k * 3 + j) u (by rw [e2, List.getElem?_append_right (by omega), el, Nat.add_sub_cancel_left]; exact hu)
    rw [addr_add_add]; exact this
/-- a row of packets of one's own, read by another -/
theorem C_rowP {base w : World} {R : List Res} {A : Option Nat} {c : Nat} {q : List PKT} (hw : Mem base w R) (hm : Res.row 28 3 encP A c q ∈ R) (hrd : ∀ p ∈ q, p.rd w) : Kd.C kP w (A.map fun b => ⟨b, 0, none⟩) q.length q := by
  have h0 : RowOk 28 3 encP A c q w := hw.ok _ hm
  obtain ⟨_, hlc, hcm, h4⟩ := h0
  refine ⟨rfl, Nat.le_trans hlc (Nat.le_trans hcm (by decide)), fun h => ?_⟩
  cases A with
  | none => rw [h4.1] at h; exact absurd h (by simp)
  | some b =>
    obtain ⟨junk, hh, _⟩ := h4
    refine ⟨⟨b, 0, none⟩, rfl, fun j p hj => ?_⟩
    have hjl := (List.getElem?_eq_some_iff.1 hj).1
    have hp : q.getD j zP = p := by rw [List.getD_eq_getElem?_getD, hj]; rfl
    refine ⟨encP p, rfl, ⟨rfl, hrd p (by rw [← hp]; exact getD_mem' hjl)⟩, fun i u hu => ?_⟩
    rw [XW.add_plain, Nat.zero_add]
    exact cell_of hh (buf_get (sz := 3) encP_len zP hjl (by rw [hp]; exact hu))
theorem C_rds {w : World} {A : Option Addr} {n : Nat} {q : List PKT} (h : Kd.C kP w A n q) : ∀ p ∈ q, p.rd w := fun p hp => by
  obtain ⟨k, hk, e⟩ := List.getElem_of_mem hp
  obtain ⟨ad, _, hrd, _⟩ := CP h k (by rw [← h.1]; exact hk)
  rwa [List.getD_eq_getElem?_getD, List.getElem?_eq_getElem hk, Option.getD_some, e] at hrd
theorem cutA_z (A : Option Addr) (m s : Nat) : cutA A 0 m s = A := by
  unfold cutA
  split
  · rfl
  · cases A with
    | none => rfl
    | some a => show some (a.add (0 * s)) = _; rw [Nat.zero_mul]; unfold Addr.add; simp
theorem E11 : Enters Try.prog 11 := enters Try.func11 (by kernel_rfl) rfl
theorem At_ret2 {F : Fence} {P : Program} {n : Nat} {ρ : Nat → Value} {base : World} {R : List Res} {fn : Func} {Rp : Ending → World → Prop} {r s : ResultVar} {v u : Value} (hr : fn.results = #[r, s]) (h : RV P n ρ base R r v) (h' : RV P n ρ base R s u) (hR : At base R (Rp (.returned (.tuple #[v, u])))) : At base R (Body F P n fn Rp .ret ρ []) := XW.At_ret2 hr h h' hR
/-- a net whose packets lie in a row of one's own -/
def rowN (b c : Nat) (N : NET) (q : List PKT) : NET := ⟨some ⟨b, 0, none⟩, c, N.B, N.d, q, N.a⟩
def rowR (b c : Nat) (q : List PKT) : Res := .row 28 3 encP (some b) c q
/-- what Send returns: nothing and an error, or a row -/
def sndPost (N : NET) (p : PKT) (u : Value) (Rs : List Res) : Prop :=
  (∃ e, sendF N.q N.a p = (([], []), e) ∧ e ≠ 0 ∧ u = .tuple #[zN.v, .int .i64 e] ∧ Rs = []) ∨
  (∃ b c, sendF N.q N.a p = ((N.q ++ [p], N.a), 0) ∧ u = .tuple #[(rowN b c N (N.q ++ [p])).v, .int .i64 0] ∧ Rs = [rowR b c (N.q ++ [p])])
set_option maxHeartbeats 8000000 in
theorem send_rets (N : NET) (p : PKT) (w : World) (h : N.ok w) (hp : p.rd w) : Rets Try.prog 11 #[N.v, p.v] w fun u w' => ∃ Rs, sndPost N p u Rs ∧ Mem w w' Rs := by
  have hF := wide_wide
  have hmx := h.q.2.1
  have hc := fun w' hb => check_rets N w' (h.below (w := w) hb)
  have hcp := fun w' => packet_rets p w'
  have he : chkN N.q N.a = if okN N.q N.a then 0 else 60 := rfl
  obtain ⟨A, c, B, d, q, a⟩ := N
  obtain ⟨hqc, hac, hcm, hq, ha⟩ := h
  dsimp only at hmx he hqc hac hcm hq ha ⊢
  refine rets_at (n := 34) Try.func11 rfl Try.ntmps11 (by simp) ?_
  unfold NET.v at hc
  unfold PKT.v at hcp
  dsimp only at hc
  simp only [NET.v, PKT.v]
  ((repeat (first | ((with_reducible refine is_AL ?_); (first | ((with_reducible refine is_assign ?_); (refine At_plain hF (by (exact (rfl : _ = some (Value.int _ _)))) ?_)) | ((with_reducible refine is_load ?_); (refine At_loadB hF 2 rfl rfl rfl ?_)) | with_reducible refine At_nil ?_)) | ((with_reducible refine is_At ?_); (first | with_reducible refine At_seq ?_; intro K hK | with_reducible refine At_region ?_ | with_reducible refine At_then_n ?_ | with_reducible refine At_go (by assumption) ?_)))); (first | ((with_reducible refine is_alloc ?_); (refine At_alloc hF (by (exact (rfl : _ = List.toArray (_ :: _)))) ?_; intro b2)) | ((with_reducible refine is_box ?_); (refine At_boxA hF rfl ?_; intro b2))); (repeat (first | ((with_reducible refine is_AL ?_); (first | ((with_reducible refine is_assign ?_); (refine At_plain hF (by (exact (rfl : _ = some (Value.int _ _)))) ?_)) | ((with_reducible refine is_load ?_); (refine At_loadB hF 2 rfl rfl rfl ?_)) | with_reducible refine At_nil ?_)) | ((with_reducible refine is_At ?_); (first | with_reducible refine At_seq ?_; intro K hK | with_reducible refine At_region ?_ | with_reducible refine At_then_n ?_ | with_reducible refine At_go (by assumption) ?_)))); (first | ((with_reducible refine is_alloc ?_); (refine At_alloc hF (by (exact (rfl : _ = List.toArray (_ :: _)))) ?_; intro b3)) | ((with_reducible refine is_box ?_); (refine At_boxA hF rfl ?_; intro b3))); (repeat (first | ((with_reducible refine is_AL ?_); (first | ((with_reducible refine is_assign ?_); (refine At_plain hF (by (exact (rfl : _ = some (Value.int _ _)))) ?_)) | ((with_reducible refine is_load ?_); (refine At_loadB hF 2 rfl rfl rfl ?_)) | with_reducible refine At_nil ?_)) | ((with_reducible refine is_At ?_); (first | with_reducible refine At_seq ?_; intro K hK | with_reducible refine At_region ?_ | with_reducible refine At_then_n ?_ | with_reducible refine At_go (by assumption) ?_)))); (first | ((with_reducible refine is_alloc ?_); (refine At_alloc hF (by (exact (rfl : _ = List.toArray (_ :: _)))) ?_; intro b4)) | ((with_reducible refine is_box ?_); (refine At_boxA hF rfl ?_; intro b4))); (repeat (first | ((with_reducible refine is_AL ?_); (first | ((with_reducible refine is_assign ?_); (refine At_plain hF (by (exact (rfl : _ = some (Value.int _ _)))) ?_)) | ((with_reducible refine is_load ?_); (refine At_loadB hF 2 rfl rfl rfl ?_)) | with_reducible refine At_nil ?_)) | ((with_reducible refine is_At ?_); (first | with_reducible refine At_seq ?_; intro K hK | with_reducible refine At_region ?_ | with_reducible refine At_then_n ?_ | with_reducible refine At_go (by assumption) ?_)))))
  refine At_callB hF E13 rfl (arg1 (by (first | exact (rfl : _ = (Value.int _ _)) | exact (rfl : _ = (Value.bool _)) | exact (rfl : _ = (Value.pointer _)) | exact (rfl : _ = (Value.slice _ _ _)) | exact (rfl : _ = (Value.map _)) | exact (rfl : _ = (Value.func _ _ _)) | exact (rfl : _ = (Value.tuple _)) | exact (rfl : _ = (Value.agg _)) | exact (rfl : _ = (Value.string _)) | exact (rfl : _ = (Value.nilFunc)) | exact (rfl : _ = (Value.nilIface))))) (fun w' hw' => hc w' hw'.below) ?_
  rw [he]
  by_cases h0 : okN q a
  case neg =>
    rw [if_neg h0]
    (repeat (first | ((with_reducible refine is_AL ?_); (first | ((with_reducible refine is_guarded ?_); (refine At_guard_f hF rfl (by decide) rfl rfl ?_)) | ((with_reducible refine is_move ?_); (refine At_plain hF (by (exact (rfl : _ = some (Value.bool _)))) ?_)) | ((with_reducible refine is_bin ?_); (refine At_plain hF (by (exact (rfl : _ = some (Value.bool _)))) ?_)) | ((with_reducible refine is_assign ?_); (refine At_plain hF (by (exact (rfl : _ = some (Value.int _ _)))) ?_)) | ((with_reducible refine is_pick ?_); (refine At_plain hF (by (exact (rfl : _ = some (Value.bool _)))) ?_)) | ((with_reducible refine is_load ?_); (refine At_loadB hF 0 rfl rfl rfl ?_)) | ((with_reducible refine is_store ?_); (refine At_storeB_0 hF rfl rfl rfl rfl (by simp [Value.one1, epair]) ?_)) | with_reducible refine At_nil ?_)) | ((with_reducible refine is_At ?_); (first | with_reducible refine At_seq ?_; intro K hK | with_reducible refine At_region ?_ | with_reducible refine At_ret ?_ | with_reducible refine At_then_n ?_ | with_reducible refine At_then_r ?_ | with_reducible refine At_go (by assumption) ?_ | ((with_reducible refine is_cond ?_); (refine At_cond_t rfl ?_))))))
    exact At_ret2 rfl (rv_cellB (by decide) (by exact rfl) 0 rfl rfl) (rv_tmp (by decide)) (fun w' hw' => ⟨_, rfl, [], .inl ⟨60, if_pos (.inl h0), by decide, rfl, rfl⟩, hw'.sub (List.nil_sublist _)⟩)
  rw [if_pos h0]
  (repeat ((with_reducible refine is_AL ?_); (first | ((with_reducible refine is_guarded ?_); (refine At_guard_t rfl (by decide) rfl ?_)) | ((with_reducible refine is_move ?_); (refine At_plain hF (by (exact (rfl : _ = some (Value.bool _)))) ?_)) | ((with_reducible refine is_bin ?_); (refine At_plain hF (by (exact (rfl : _ = some (Value.bool _)))) ?_)) | ((with_reducible refine is_load ?_); (refine At_loadB hF 1 rfl rfl rfl ?_)))))
  refine At_callB hF E28 rfl (arg1 (by (first | exact (rfl : _ = (Value.int _ _)) | exact (rfl : _ = (Value.bool _)) | exact (rfl : _ = (Value.pointer _)) | exact (rfl : _ = (Value.slice _ _ _)) | exact (rfl : _ = (Value.map _)) | exact (rfl : _ = (Value.func _ _ _)) | exact (rfl : _ = (Value.tuple _)) | exact (rfl : _ = (Value.agg _)) | exact (rfl : _ = (Value.string _)) | exact (rfl : _ = (Value.nilFunc)) | exact (rfl : _ = (Value.nilIface))))) (fun w' hw' => hcp w') ?_
  by_cases h1 : okP p
  case neg =>
    rw [decide_eq_false h1]
    (repeat (first | ((with_reducible refine is_AL ?_); (first | ((with_reducible refine is_guarded ?_); (refine At_guard_t rfl (by decide) rfl ?_)) | ((with_reducible refine is_assign ?_); (refine At_plain hF (by (exact (rfl : _ = some (Value.int _ _)))) ?_)) | ((with_reducible refine is_pick ?_); (refine At_plain hF (by (exact (rfl : _ = some (Value.bool _)))) ?_)) | ((with_reducible refine is_un ?_); (refine At_plain hF (by (exact (rfl : _ = some (Value.bool _)))) ?_)) | ((with_reducible refine is_load ?_); (refine At_loadB hF 0 rfl rfl rfl ?_)) | ((with_reducible refine is_store ?_); (refine At_storeB_0 hF rfl rfl rfl rfl (by simp [Value.one1, epair]) ?_)) | with_reducible refine At_nil ?_)) | ((with_reducible refine is_At ?_); (first | with_reducible refine At_seq ?_; intro K hK | with_reducible refine At_region ?_ | with_reducible refine At_ret ?_ | with_reducible refine At_then_n ?_ | with_reducible refine At_then_r ?_ | with_reducible refine At_go (by assumption) ?_ | ((with_reducible refine is_cond ?_); (refine At_cond_t rfl ?_))))))
    exact At_ret2 rfl (rv_cellB (by decide) (by exact rfl) 0 rfl rfl) (rv_tmp (by decide)) (fun w' hw' => ⟨_, rfl, [], .inl ⟨60, if_pos (.inr h1), by decide, rfl, rfl⟩, hw'.sub (List.nil_sublist _)⟩)
  rw [decide_eq_true h1]
  (repeat (first | ((with_reducible refine is_AL ?_); (first | ((with_reducible refine is_guarded ?_); (refine At_guard_t rfl (by decide) rfl ?_)) | ((with_reducible refine is_bin ?_); (refine At_plain hF (by (exact (rfl : _ = some (Value.bool _)))) ?_)) | ((with_reducible refine is_pick ?_); (refine At_plain hF (by (exact (rfl : _ = some (Value.bool _)))) ?_)) | ((with_reducible refine is_un ?_); (refine At_plain hF (by (exact (rfl : _ = some (Value.bool _)))) ?_)) | ((with_reducible refine is_call ?_); (refine At_len hF rfl ?_)) | ((with_reducible refine is_field ?_); (refine At_field hF rfl ?_)) | ((with_reducible refine is_load ?_); (refine At_load hF 2 (by exact rfl) rfl (by (exact (rfl : _ = some (Value.slice _ _ _)))) ?_)) | with_reducible refine At_nil ?_)) | ((with_reducible refine is_At ?_); (first | with_reducible refine At_seq ?_; intro K hK | with_reducible refine At_region ?_ | with_reducible refine At_skip ?_ | with_reducible refine At_then_n ?_ | with_reducible refine At_go (by assumption) ?_ | ((with_reducible refine is_cond ?_); (refine At_cond_f rfl ?_))))))
  by_cases h2 : q.length = 4096
  · rw [show ((q.length : Int) == 4096) = true by rw [beq_iff_eq]; omega]
    (repeat (first | ((with_reducible refine is_AL ?_); (first | ((with_reducible refine is_assign ?_); (refine At_plain hF (by (exact (rfl : _ = some (Value.int _ _)))) ?_)) | ((with_reducible refine is_load ?_); (refine At_loadB hF 0 rfl rfl rfl ?_)) | ((with_reducible refine is_store ?_); (refine At_storeB_0 hF rfl rfl rfl rfl (by simp [Value.one1, epair]) ?_)) | with_reducible refine At_nil ?_)) | ((with_reducible refine is_At ?_); (first | with_reducible refine At_seq ?_; intro K hK | with_reducible refine At_region ?_ | with_reducible refine At_ret ?_ | with_reducible refine At_then_n ?_ | with_reducible refine At_then_r ?_ | with_reducible refine At_go (by assumption) ?_ | ((with_reducible refine is_cond ?_); (refine At_cond_t rfl ?_))))))
    exact At_ret2 rfl (rv_cellB (by decide) (by exact rfl) 0 rfl rfl) (rv_tmp (by decide)) (fun w' hw' => ⟨_, rfl, [], .inl ⟨2, by unfold sendF; rw [if_neg (by simp [h0, h1]), if_pos h2], by decide, rfl, rfl⟩, hw'.sub (List.nil_sublist _)⟩)
  rw [show ((q.length : Int) == 4096) = false by rw [beq_eq_false_iff_ne]; omega]
  (repeat ((with_reducible refine is_At ?_); (first | with_reducible refine At_seq ?_; intro K hK | with_reducible refine At_skip ?_ | with_reducible refine At_then_n ?_ | with_reducible refine At_go (by assumption) ?_ | ((with_reducible refine is_cond ?_); (refine At_cond_f rfl ?_)))))
  have hq1 := h0.1
  refine At_drawE hF 12 [0, 1, 2, 3, 4, 5, 6, 7, 8, 9] [] [10, 11] (.obj b4 (.cells #[.slice none 0 0, .slice none 0 0] 25) :: .obj b3 (.cells #[.int .i64 p.f, .int .i64 p.t, .slice p.A p.l p.c] 28) :: .obj b2 (.cells #[.slice A q.length c, .slice B a.length d] 25) :: []) (by kernel_rfl) (by decide +kernel) (by decide +kernel) ?_; simp only [List.drop_succ_cons, List.drop_zero]; (repeat ((with_reducible refine is_AQF ?_); first | refine AQF_early (by decide) (by exact (rfl : _ = some (Oper.mk _ _ _ _ _ _))) (by intro K Q hK; (repeat (first | ((with_reducible refine is_call ?_); (refine At_len hF rfl ?_)) | ((with_reducible refine is_field ?_); (refine At_field hF rfl ?_)) | ((with_reducible refine is_load ?_); (refine At_load hF 2 (by exact rfl) rfl (by (exact (rfl : _ = some (Value.slice _ _ _)))) ?_)))); exact At_nilK hK) ?_ | refine AQF_late (by decide) (by exact (rfl : _ = some (Oper.mk _ _ _ _ _ _))) (by intro E K Q hK; simp only [List.cons_append, List.nil_append] at hK ⊢; (repeat (first | ((with_reducible refine is_call ?_); (refine At_len hF rfl ?_)) | ((with_reducible refine is_field ?_); (refine At_field hF rfl ?_)) | ((with_reducible refine is_load ?_); (refine At_load hF 2 (by exact rfl) rfl (by (exact (rfl : _ = some (Value.slice _ _ _)))) ?_)))); exact At_nilK hK) ?_))
  refine AQF_late (by decide) (by exact (rfl : _ = some (Oper.mk _ _ _ _ _ _))) (by intro E K Q hK; simp only [List.cons_append, List.nil_append] at hK ⊢; refine At_cut_hm hF (by exact rfl) (by exact rfl) (by exact rfl) (Nat.le_refl q.length) hqc ?_; rw [cutA_z]; exact At_nilK hK) ?_
  (repeat ((with_reducible refine is_AQF ?_); first | refine AQF_early (by decide) (by exact (rfl : _ = some (Oper.mk _ _ _ _ _ _))) (by intro K Q hK; (repeat ((with_reducible refine is_load ?_); (refine At_loadB hF 1 rfl rfl rfl ?_))); exact At_nilK hK) ?_ | refine AQF_late (by decide) (by exact (rfl : _ = some (Oper.mk _ _ _ _ _ _))) (by intro E K Q hK; simp only [List.cons_append, List.nil_append] at hK ⊢; (repeat ((with_reducible refine is_load ?_); (refine At_loadB hF 1 rfl rfl rfl ?_))); exact At_nilK hK) ?_))
  refine AQF_done ?_
  (refine WAt_cons ?_ (by exact (rfl : _ = some (Oper.mk _ _ _ _ _ _))) ?_; (focus (repeat (first | exact List.Sublist.refl _ | exact List.Sublist.slnil | refine List.Sublist.cons_cons _ ?_ | refine List.Sublist.cons _ ?_))); intro K Q hK)
  refine At_sliceA_1 hF (by decide) rfl rfl ?_
  intro bl
  refine At_nilK (hK _ _ ?_)
  (refine WAt_cons ?_ (by exact (rfl : _ = some (Oper.mk _ _ _ _ _ _))) ?_; (focus (repeat (first | exact List.Sublist.refl _ | exact List.Sublist.slnil | refine List.Sublist.cons_cons _ ?_ | refine List.Sublist.cons _ ?_))); intro K Q hK)
  refine At_spreadNew (sz := 3) (enc := encP) (l := q) (ys := [p]) hF (by exact rfl) rfl rfl (by exact rfl) rfl (fun w hw => lies_q (Kd.C_below hq hw.below)) (fun w hw => Lies.obj (hw.at_ 0 rfl) (fun j u hu => by simpa [encP] using hu)) encP_len (by decide) (by simp only [TS.bytes, List.length_cons, List.length_nil]; omega) (by simp only [List.length_cons, List.length_nil]; omega) (fun h => by cases h) ?_
  intro _ b' c'
  refine At_nilK (hK _ _ ?_)
  (refine WAt_nil ?_ ?_; (focus (repeat (first | exact List.Sublist.refl _ | exact List.Sublist.slnil | refine List.Sublist.cons_cons _ ?_ | refine List.Sublist.cons _ ?_))))
  (repeat (first | ((with_reducible refine is_AL ?_); (first | ((with_reducible refine is_assign ?_); (refine At_plain hF (by (exact (rfl : _ = some (Value.int _ _)))) ?_)) | ((with_reducible refine is_field ?_); (refine At_field hF rfl ?_)) | ((with_reducible refine is_load ?_); (refine At_loadB hF 4 rfl rfl rfl ?_)) | ((with_reducible refine is_store ?_); (first | refine At_store_4 hF rfl (by (exact (rfl : _ = (Value.slice _ _ _)))) (by (exact of_decide_eq_true rfl)) (by exact rfl) (by exact rfl) (by (exact (rfl : _ = List.toArray (_ :: _)))) ?_ | refine At_storeB_2 hF rfl rfl rfl rfl (by simp [Value.one1, epair]) ?_)) | with_reducible refine At_nil ?_)) | ((with_reducible refine is_At ?_); (first | with_reducible refine At_seq ?_; intro K hK | with_reducible refine At_region ?_ | with_reducible refine At_ret ?_ | with_reducible refine At_then_n ?_ | with_reducible refine At_go (by assumption) ?_))))
  have hsf : sendF q a p = ((q ++ [p], a), 0) := by unfold sendF; rw [if_neg (by simp [h0, h1]), if_neg h2]
  exact At_ret2 rfl (rv_cellB (by decide) (by exact rfl) 2 rfl rfl) (rv_tmp (by decide)) (fun w' hw' => ⟨_, rfl, [rowR b' c' (q ++ [p])], .inr ⟨b', c', hsf, by simp only [rowN, NET.v]; rw [List.length_append]; rfl, rfl⟩, hw'.sub (List.Sublist.cons_cons _ (List.nil_sublist _))⟩)
end Go.Proofs.Ytmilnlcegcdolaa.P
