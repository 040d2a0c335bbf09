import Derived.Test.YtecgklfcblpkdaaVioP
import Derived.Test.YtecgklfcblpkdaaOfW
import Derived.Test.YtecgklfcblpkdaaGOf
/- patterns.Violates: walk. -/
namespace Go.Proofs.Ytecgklfcblpkdaa.P
open Go.RowKit Go.Proofs.YtecgklfcblpkdaaW.PrintWords Go.Proofs.YtecgklfcblpkdaaW.PrintLast Go.Proofs.YtecgklfcblpkdaaW.PrintMore
open XW RegInv
attribute [local irreducible] Addr.add
set_option linter.unusedSimpArgs false
set_option linter.unusedVariables false

theorem E25 : Enters Try.prog 25 := enters Try.func25 (by kernel_rfl) rfl
theorem E28 : Enters Try.prog 28 := enters Try.func28 (by kernel_rfl) rfl
theorem pats_rets (A : Option Addr) (c : Nat) (p : List (List Int)) (w : World) (hr : Kd.C (Kd.slice 3 (Kd.int .i64)) w A p.length p) (hc : p.length ≤ c) : Rets Try.prog 25 #[.slice A p.length c] w fun u w' => u = .bool (decide (patOk p)) ∧ Below w.heap.size w w' := by
  obtain ⟨k, hk⟩ := pats_f p hr.2.1
  exact (patterns_patterns.calls k A c p _ w hr hc hk).mono (by rintro e w'' ⟨rfl, hb⟩; exact ⟨_, rfl, rfl, hb.below⟩)
/-- a row of the caller's lists -/
theorem CL {w : World} {A : Option Addr} {n : Nat} {p : List (List Int)} (h : Kd.C (Kd.slice 3 (Kd.int .i64)) w A n p) (k : Nat) (hk : k < n) : ∃ ad A0 c0, A = some ad ∧ w.cell? (ad.add k) = some (.slice A0 (p.getD k []).length c0) ∧ (p.getD k []).length ≤ c0 ∧ Kd.C (Kd.int .i64) w A0 (p.getD k []).length (p.getD k []) := by
  have := at_L3 h (k : Int) (by omega) (by omega)
  rwa [rd_L3, Int.toNat_natCast] at this
theorem CI {w : World} {A : Option Addr} {n : Nat} {xs : List Int} (h : Kd.C (Kd.int .i64) w A n xs) (k : Nat) (hk : k < n) : ∃ ad, A = some ad ∧ w.cell? (ad.add k) = some (.int .i64 (xs.getD k 0)) := by
  obtain ⟨ad, c, hA, _, hK, hc⟩ := Kd.C_get h 0 (k : Int) (by omega) (by omega)
  rw [Int.toNat_natCast] at hK hc
  refine ⟨ad, hA, ?_⟩
  have e : c = [.int .i64 (xs.getD k 0)] := hK
  have := hc 0 _ (by rw [e]; rfl)
  simpa [Kd.int, Kd.scalar] using this
def vioPost (p : List (List Int)) (u : Value) (Rs : List Res) : Prop :=
  ∃ A c, u = .tuple #[rowV A (vioF p).1.length c, .bool (vioF p).2.1, .int .i64 (vioF p).2.2] ∧ Rs = [.row 3 1 (sc (Value.int .i64)) A c (vioF p).1]
/-- what Violates holds: while it searches; when it has found -/
abbrev VS := Option (Nat × Option Nat × Nat)
def VRs (A : Option Addr) (c : Nat) (p : List (List Int)) (b1 b2 b3 b4 b5 b6 : Nat) : VS → List Res
  | none => [.obj b6 (.cells (buf (sc u32v) (mst (-1) p p.length 0) []) 55), .obj b5 (.cells (buf (sc u32v) (mst 1 p p.length 0) []) 55), .obj b4 (.cells #[.int .i64 0] 26), .obj b3 (.cells #[.bool false] 4), .obj b2 (.cells #[.slice none 0 0] 29), .obj b1 (.cells #[.slice A p.length c] 23)]
  | some (set, A', c') => [.row 3 1 (sc (Value.int .i64)) A' c' (membs p.length set), .obj b4 (.cells #[.int .i64 0] 26), .obj b3 (.cells #[.bool true] 4), .obj b2 (.cells #[rowV A' (membs p.length set).length c'] 29)]
theorem At.perm' {base : World} {R R' : List Res} {Φ : World → Prop} (h : R.Perm R') (hA : At base R' Φ) : At base R Φ := fun w hw => hA w (hw.perm h.symm)
set_option maxHeartbeats 8000000 in
theorem vio_rets (A : Option Addr) (c : Nat) (p : List (List Int)) (w : World) (hr : Kd.C (Kd.slice 3 (Kd.int .i64)) w A p.length p) (hc : p.length ≤ c) : Rets Try.prog 20 #[.slice A p.length c] w fun u w' => ∃ Rs, vioPost p u Rs ∧ Mem w w' Rs := by
  have hF := wide_wide
  have hmx := hr.2.1
  have hbad : (p.length < 2 ∨ p.length > 10 ∨ ¬ patOk p) → vioF p = ([], false, 210) := fun h => by rw [vioF, if_pos h]
  refine rets_at (n := 116) Try.func20 rfl Try.ntmps20 (by simp) ?_
  ((repeat (first | ((with_reducible refine is_AL ?_); (first | ((with_reducible refine is_move ?_); (refine At_plain hF (by (exact (rfl : _ = some (Value.bool _)))) ?_)) | ((with_reducible refine is_bin ?_); (refine At_plain hF (by (exact (rfl : _ = some (Value.bool _)))) ?_)) | ((with_reducible refine is_call ?_); (refine At_len hF rfl ?_)) | ((with_reducible refine is_load ?_); (refine At_load hF 3 rfl rfl (by (exact (rfl : _ = some (Value.slice _ _ _)))) ?_)) | with_reducible refine At_nil ?_)) | ((with_reducible refine is_At ?_); (first | with_reducible refine At_seq ?_; intro K hK | with_reducible refine At_scope ?_ | with_reducible refine At_region ?_ | with_reducible refine At_then_n ?_ | with_reducible refine At_go (by assumption) ?_)))); (first | ((with_reducible refine is_alloc ?_); (refine At_alloc hF (by (exact (rfl : _ = List.toArray (_ :: _)))) ?_; intro b1)) | ((with_reducible refine is_box ?_); (refine At_box1 hF (by (exact (rfl : _ = (Value.slice _ _ _)))) rfl ?_; intro b1))); (repeat (first | ((with_reducible refine is_AL ?_); (first | ((with_reducible refine is_move ?_); (refine At_plain hF (by (exact (rfl : _ = some (Value.bool _)))) ?_)) | ((with_reducible refine is_bin ?_); (refine At_plain hF (by (exact (rfl : _ = some (Value.bool _)))) ?_)) | ((with_reducible refine is_call ?_); (refine At_len hF rfl ?_)) | ((with_reducible refine is_load ?_); (refine At_load hF 3 rfl rfl (by (exact (rfl : _ = some (Value.slice _ _ _)))) ?_)) | with_reducible refine At_nil ?_)) | ((with_reducible refine is_At ?_); (first | with_reducible refine At_seq ?_; intro K hK | with_reducible refine At_scope ?_ | with_reducible refine At_region ?_ | with_reducible refine At_then_n ?_ | with_reducible refine At_go (by assumption) ?_)))); (first | ((with_reducible refine is_alloc ?_); (refine At_alloc hF (by (exact (rfl : _ = List.toArray (_ :: _)))) ?_; intro b2)) | ((with_reducible refine is_box ?_); (refine At_box1 hF (by (exact (rfl : _ = (Value.slice _ _ _)))) rfl ?_; intro b2))); (repeat (first | ((with_reducible refine is_AL ?_); (first | ((with_reducible refine is_move ?_); (refine At_plain hF (by (exact (rfl : _ = some (Value.bool _)))) ?_)) | ((with_reducible refine is_bin ?_); (refine At_plain hF (by (exact (rfl : _ = some (Value.bool _)))) ?_)) | ((with_reducible refine is_call ?_); (refine At_len hF rfl ?_)) | ((with_reducible refine is_load ?_); (refine At_load hF 3 rfl rfl (by (exact (rfl : _ = some (Value.slice _ _ _)))) ?_)) | with_reducible refine At_nil ?_)) | ((with_reducible refine is_At ?_); (first | with_reducible refine At_seq ?_; intro K hK | with_reducible refine At_scope ?_ | with_reducible refine At_region ?_ | with_reducible refine At_then_n ?_ | with_reducible refine At_go (by assumption) ?_)))); (first | ((with_reducible refine is_alloc ?_); (refine At_alloc hF (by (exact (rfl : _ = List.toArray (_ :: _)))) ?_; intro b3)) | ((with_reducible refine is_box ?_); (refine At_box1 hF (by (exact (rfl : _ = (Value.slice _ _ _)))) rfl ?_; intro b3))); (repeat (first | ((with_reducible refine is_AL ?_); (first | ((with_reducible refine is_move ?_); (refine At_plain hF (by (exact (rfl : _ = some (Value.bool _)))) ?_)) | ((with_reducible refine is_bin ?_); (refine At_plain hF (by (exact (rfl : _ = some (Value.bool _)))) ?_)) | ((with_reducible refine is_call ?_); (refine At_len hF rfl ?_)) | ((with_reducible refine is_load ?_); (refine At_load hF 3 rfl rfl (by (exact (rfl : _ = some (Value.slice _ _ _)))) ?_)) | with_reducible refine At_nil ?_)) | ((with_reducible refine is_At ?_); (first | with_reducible refine At_seq ?_; intro K hK | with_reducible refine At_scope ?_ | with_reducible refine At_region ?_ | with_reducible refine At_then_n ?_ | with_reducible refine At_go (by assumption) ?_)))); (first | ((with_reducible refine is_alloc ?_); (refine At_alloc hF (by (exact (rfl : _ = List.toArray (_ :: _)))) ?_; intro b4)) | ((with_reducible refine is_box ?_); (refine At_box1 hF (by (exact (rfl : _ = (Value.slice _ _ _)))) rfl ?_; intro b4))); (repeat (first | ((with_reducible refine is_AL ?_); (first | ((with_reducible refine is_move ?_); (refine At_plain hF (by (exact (rfl : _ = some (Value.bool _)))) ?_)) | ((with_reducible refine is_bin ?_); (refine At_plain hF (by (exact (rfl : _ = some (Value.bool _)))) ?_)) | ((with_reducible refine is_call ?_); (refine At_len hF rfl ?_)) | ((with_reducible refine is_load ?_); (refine At_load hF 3 rfl rfl (by (exact (rfl : _ = some (Value.slice _ _ _)))) ?_)) | with_reducible refine At_nil ?_)) | ((with_reducible refine is_At ?_); (first | with_reducible refine At_seq ?_; intro K hK | with_reducible refine At_scope ?_ | with_reducible refine At_region ?_ | with_reducible refine At_then_n ?_ | with_reducible refine At_go (by assumption) ?_)))))
  (repeat' (first | ((with_reducible refine is_AL ?_); (first | ((with_reducible refine is_guarded ?_); (first | refine At_guard_t rfl (by decide) rfl ?_ | refine At_guard_f hF rfl (by decide) rfl rfl ?_)) | ((with_reducible refine is_move ?_); (refine At_plain hF (by (exact (rfl : _ = some (Value.bool _)))) ?_)) | ((with_reducible refine is_bin ?_); (refine At_plain hF (by (exact (rfl : _ = some (Value.bool _)))) ?_)) | ((with_reducible refine is_pick ?_); (refine At_plain hF (by (exact (rfl : _ = some (Value.bool _)))) ?_)) | ((with_reducible refine is_call ?_); (refine At_len hF rfl ?_)) | ((with_reducible refine is_load ?_); (refine At_load hF 3 rfl rfl (by (exact (rfl : _ = some (Value.slice _ _ _)))) ?_)) | ((with_reducible refine is_store ?_); (first | refine At_store_0 hF rfl (by (first | exact (rfl : _ = (Value.int _ _)) | exact (rfl : _ = (Value.bool _)) | exact (rfl : _ = (Value.slice _ _ _)))) (by (decide)) (by exact rfl) (by exact rfl) (by (exact (rfl : _ = List.toArray (_ :: _)))) ?_ | refine At_store_1 hF rfl (by (first | exact (rfl : _ = (Value.bool _)) | exact (rfl : _ = (Value.slice _ _ _)))) (by (decide)) (by exact rfl) (by exact rfl) (by (exact (rfl : _ = List.toArray (_ :: _)))) ?_ | refine At_store_2 hF rfl (by (exact (rfl : _ = (Value.slice _ _ _)))) (by (decide)) (by exact rfl) (by exact rfl) (by (exact (rfl : _ = List.toArray (_ :: _)))) ?_)) | with_reducible refine At_nil ?_)) | ((with_reducible refine is_At ?_); (first | with_reducible refine At_seq ?_; intro K hK | with_reducible refine At_region ?_ | with_reducible refine At_ret ?_ | with_reducible refine At_then_n ?_ | with_reducible refine At_then_r ?_ | with_reducible refine At_nogo_r ?_ | with_reducible refine At_go (by assumption) ?_ | ((with_reducible refine is_cond ?_); (refine At_cond_t rfl ?_)))) | ((with_reducible refine is_guarded ?_); (refine At_guard hF rfl (by decide) rfl ?_ ?_ <;> (intro hg; try (simp only [decide_eq_true_eq, decide_eq_false_iff_not, beq_iff_eq, bne_iff_ne, beq_eq_false_iff_ne, bne_eq_false_iff_eq, ne_eq, Bool.not_eq_true', Bool.not_eq_false', Bool.not_true, Bool.not_false, Decidable.not_not] at hg); try (exfalso; first | omega | exact hg True.intro))))))
  rotate_left
  · have hv := hbad (by omega)
    refine At_ret3 rfl (rv_cell (by decide) rfl 2 rfl rfl) (rv_cell (by decide) rfl 1 rfl rfl) (rv_cell (by decide) rfl 0 rfl rfl) ?_
    exact At.sub (R' := []) (List.nil_sublist _) (At.newNil 3 1 (sc (Value.int .i64)) (fun _ => rfl) (fun w' hw' => ⟨_, rfl, _, by unfold vioPost; rw [hv]; exact ⟨none, 0, rfl, rfl⟩, hw'⟩))
  · have hv := hbad (by omega)
    refine At_ret3 rfl (rv_cell (by decide) rfl 2 rfl rfl) (rv_cell (by decide) rfl 1 rfl rfl) (rv_cell (by decide) rfl 0 rfl rfl) ?_
    exact At.sub (R' := []) (List.nil_sublist _) (At.newNil 3 1 (sc (Value.int .i64)) (fun _ => rfl) (fun w' hw' => ⟨_, rfl, _, by unfold vioPost; rw [hv]; exact ⟨none, 0, rfl, rfl⟩, hw'⟩))
  refine At_callB hF E25 rfl (arg1 (by (first | exact (rfl : _ = (Value.int _ _)) | exact (rfl : _ = (Value.bool _)) | exact (rfl : _ = (Value.pointer _)) | exact (rfl : _ = (Value.slice _ _ _)) | exact (rfl : _ = (Value.map _)) | exact (rfl : _ = (Value.func _ _ _)) | exact (rfl : _ = (Value.tuple _)) | exact (rfl : _ = (Value.agg _)) | exact (rfl : _ = (Value.string _)) | exact (rfl : _ = (Value.nilFunc)) | exact (rfl : _ = (Value.nilIface))))) (fun w' hw' => pats_rets A c p w' (Kd.C_below hr hw'.below) hc) ?_
  by_cases hok : patOk p
  rotate_left
  · have hv := hbad (.inr (.inr hok))
    rw [decide_eq_false hok]
    (repeat (first | ((with_reducible refine is_AL ?_); (first | ((with_reducible refine is_guarded ?_); (refine At_guard_t rfl (by decide) rfl ?_)) | ((with_reducible refine is_pick ?_); (refine At_plain hF (by (exact (rfl : _ = some (Value.bool _)))) ?_)) | ((with_reducible refine is_un ?_); (refine At_plain hF (by (exact (rfl : _ = some (Value.bool _)))) ?_)) | ((with_reducible refine is_store ?_); (first | refine At_store_0 hF rfl (by (first | exact (rfl : _ = (Value.int _ _)) | exact (rfl : _ = (Value.bool _)) | exact (rfl : _ = (Value.slice _ _ _)))) (by (decide)) (by exact rfl) (by exact rfl) (by (exact (rfl : _ = List.toArray (_ :: _)))) ?_ | refine At_store_1 hF rfl (by (first | exact (rfl : _ = (Value.bool _)) | exact (rfl : _ = (Value.slice _ _ _)))) (by (decide)) (by exact rfl) (by exact rfl) (by (exact (rfl : _ = List.toArray (_ :: _)))) ?_ | refine At_store_2 hF rfl (by (exact (rfl : _ = (Value.slice _ _ _)))) (by (decide)) (by exact rfl) (by exact rfl) (by (exact (rfl : _ = List.toArray (_ :: _)))) ?_)) | with_reducible refine At_nil ?_)) | ((with_reducible refine is_At ?_); (first | with_reducible refine At_seq ?_; intro K hK | with_reducible refine At_region ?_ | with_reducible refine At_ret ?_ | with_reducible refine At_then_n ?_ | with_reducible refine At_then_r ?_ | with_reducible refine At_nogo_r ?_ | with_reducible refine At_go (by assumption) ?_ | ((with_reducible refine is_cond ?_); (refine At_cond_t rfl ?_))))))
    refine At_ret3 rfl (rv_cell (by decide) rfl 2 rfl rfl) (rv_cell (by decide) rfl 1 rfl rfl) (rv_cell (by decide) rfl 0 rfl rfl) ?_
    exact At.sub (R' := []) (List.nil_sublist _) (At.newNil 3 1 (sc (Value.int .i64)) (fun _ => rfl) (fun w' hw' => ⟨_, rfl, _, by unfold vioPost; rw [hv]; exact ⟨none, 0, rfl, rfl⟩, hw'⟩))
  rw [decide_eq_true hok]
  (repeat (first | ((with_reducible refine is_AL ?_); (first | ((with_reducible refine is_guarded ?_); (refine At_guard_t rfl (by decide) rfl ?_)) | ((with_reducible refine is_pick ?_); (refine At_plain hF (by (exact (rfl : _ = some (Value.bool _)))) ?_)) | ((with_reducible refine is_un ?_); (refine At_plain hF (by (exact (rfl : _ = some (Value.bool _)))) ?_)) | with_reducible refine At_nil ?_)) | ((with_reducible refine is_At ?_); (first | with_reducible refine At_seq ?_; intro K hK | with_reducible refine At_region ?_ | with_reducible refine At_skip ?_ | with_reducible refine At_then_n ?_ | with_reducible refine At_go (by assumption) ?_ | ((with_reducible refine is_cond ?_); (refine At_cond_f rfl ?_))))))
  refine At_alloc (cs := buf (sc u32v) (List.replicate 64 0) []) hF (by exact rfl) ?_
  intro b5
  refine At_alloc (cs := buf (sc u32v) (List.replicate 64 0) []) hF (by exact rfl) ?_
  intro b6
  (repeat (first | ((with_reducible refine is_AL ?_); (first | ((with_reducible refine is_move ?_); (refine At_plain hF (by (exact (rfl : _ = some (Value.int _ _)))) ?_)) | ((with_reducible refine is_call ?_); (refine At_len hF rfl ?_)) | ((with_reducible refine is_load ?_); (refine At_load hF 5 rfl rfl (by (exact (rfl : _ = some (Value.slice _ _ _)))) ?_)) | with_reducible refine At_nil ?_)) | ((with_reducible refine is_At ?_); (first | with_reducible refine At_seq ?_; intro K hK | with_reducible refine At_block ?_ | with_reducible refine At_region ?_ | with_reducible refine At_then_n ?_ | with_reducible refine At_go (by assumption) ?_))))
  have hp2 : 2 ≤ p.length ∧ p.length ≤ 10 := by omega
  have hgood : ¬ (p.length < 2 ∨ p.length > 10 ∨ ¬ patOk p) := by
    rintro (h | h | h)
    · omega
    · omega
    · exact h hok
  refine At_loop (fun t : Nat => [(1, ip b1), (2, ip b2), (3, ip b3), (4, ip b4), (5, ip b5), (6, ip b6), (29, .slice A p.length c), (30, .int .i64 p.length), (31, .int .i64 t)])
    (fun t => [.obj b6 (.cells (buf (sc u32v) (mst (-1) p t 0) []) 55), .obj b5 (.cells (buf (sc u32v) (mst 1 p t 0) []) 55), .obj b4 (.cells #[.int .i64 0] 26), .obj b3 (.cells #[.bool false] 4), .obj b2 (.cells #[.slice none 0 0] 29), .obj b1 (.cells #[.slice A p.length c] 23)]) (fun t => t ≤ p.length) (fun t => p.length - t) 0 ?_ ?_ (Nat.zero_le _) ?_
  · rw [mst_zero, mst_zero]; (repeat (first | exact List.Sublist.refl _ | exact List.Sublist.slnil | refine List.Sublist.cons_cons _ ?_ | refine List.Sublist.cons _ ?_))
  · (repeat (first | exact True.intro | (refine And.intro ?_ ?_; focus (show _ = (_ : Value); first | exact rfl | (refine Eq.trans (b := Value.int IntKind.i64 _) rfl (congrArg (Value.int IntKind.i64) ?_); omega)))))
  intro t ht K hL ρ0
  try dsimp only
  (repeat (first | ((with_reducible refine is_AL ?_); (first | ((with_reducible refine is_bin ?_); (refine At_plain hF (by (exact (rfl : _ = some (Value.bool _)))) ?_)) | with_reducible refine At_nil ?_)) | ((with_reducible refine is_At ?_); (first | with_reducible refine At_seq ?_; intro K hK | with_reducible refine At_region ?_ | with_reducible refine At_then_n ?_ | with_reducible refine At_go (by assumption) ?_))))
  ((with_reducible refine is_cond ?_); (refine At_cond rfl ?_ ?_ <;> (intro hg; try (simp only [decide_eq_true_eq, decide_eq_false_iff_not, beq_iff_eq, bne_iff_ne, beq_eq_false_iff_ne, bne_eq_false_iff_eq, ne_eq, Bool.not_eq_true', Bool.not_eq_false', Bool.not_true, Bool.not_false, Decidable.not_not] at hg); try (exfalso; first | omega | exact hg True.intro))))
  · have hlt : t < p.length := by omega
    obtain ⟨ad, A0, c0, hA, hcell, hc0, hrow⟩ := CL hr t hlt
    have hro := hok.2 _ (getD_mem' (d := []) hlt)
    have hrl : (p.getD t []).length ≤ 64 := hro.2.1
    (repeat (first | ((with_reducible refine is_AL ?_); (first | ((with_reducible refine is_move ?_); (refine At_plain hF (by (exact (rfl : _ = some (Value.int _ _)))) ?_)) | ((with_reducible refine is_index ?_); (refine At_indexC1 hF rfl (by assumption) rfl rfl (by omega) ?_)))) | ((with_reducible refine is_At ?_); (first | with_reducible refine At_seq ?_; intro K hK | with_reducible refine At_block ?_ | with_reducible refine At_region ?_ | with_reducible refine At_skip ?_ | with_reducible refine At_then_n ?_ | with_reducible refine At_go (by assumption) ?_))))
    refine At_loadC hF (by exact rfl) hcell ?_
    clear hA hcell
    (repeat (first | ((with_reducible refine is_AL ?_); (first | ((with_reducible refine is_move ?_); (refine At_plain hF (by (first | exact (rfl : _ = some (Value.int _ _)) | exact (rfl : _ = some (Value.slice _ _ _)))) ?_)) | ((with_reducible refine is_assign ?_); (refine At_plain hF (by (first | exact (rfl : _ = some (Value.int _ _)) | exact (rfl : _ = some (Value.slice _ _ _)))) ?_)) | ((with_reducible refine is_call ?_); (refine At_len hF rfl ?_)) | with_reducible refine At_nil ?_)) | ((with_reducible refine is_At ?_); (first | with_reducible refine At_seq ?_; intro K hK | with_reducible refine At_block ?_ | with_reducible refine At_region ?_ | with_reducible refine At_then_n ?_ | with_reducible refine At_go (by assumption) ?_))))
    refine At_loop (fun r : Nat => [(1, ip b1), (2, ip b2), (3, ip b3), (4, ip b4), (5, ip b5), (6, ip b6), (7, .int .i64 t), (29, .slice A p.length c), (30, .int .i64 p.length), (31, .int .i64 t), (36, .slice A0 (p.getD t []).length c0), (37, .int .i64 (p.getD t []).length), (38, .int .i64 r)])
      (fun r => [.obj b6 (.cells (buf (sc u32v) (mst (-1) p t r) []) 55), .obj b5 (.cells (buf (sc u32v) (mst 1 p t r) []) 55), .obj b4 (.cells #[.int .i64 0] 26), .obj b3 (.cells #[.bool false] 4), .obj b2 (.cells #[.slice none 0 0] 29), .obj b1 (.cells #[.slice A p.length c] 23)]) (fun r => r ≤ (p.getD t []).length) (fun r => (p.getD t []).length - r) 0 ?_ ?_ (Nat.zero_le _) ?_
    · (repeat (first | exact List.Sublist.refl _ | exact List.Sublist.slnil | refine List.Sublist.cons_cons _ ?_ | refine List.Sublist.cons _ ?_))
    · (repeat (first | exact True.intro | (refine And.intro ?_ ?_; focus (show _ = (_ : Value); first | exact rfl | (refine Eq.trans (b := Value.int IntKind.i64 _) rfl (congrArg (Value.int IntKind.i64) ?_); omega)))))
    intro r hr2 K hI ρ1
    try dsimp only
    (repeat (first | ((with_reducible refine is_AL ?_); (first | ((with_reducible refine is_bin ?_); (refine At_plain hF (by (exact (rfl : _ = some (Value.bool _)))) ?_)) | with_reducible refine At_nil ?_)) | ((with_reducible refine is_At ?_); (first | with_reducible refine At_seq ?_; intro K hK | with_reducible refine At_region ?_ | with_reducible refine At_then_n ?_ | with_reducible refine At_go (by assumption) ?_))))
    ((with_reducible refine is_cond ?_); (refine At_cond rfl ?_ ?_ <;> (intro hg; try (simp only [decide_eq_true_eq, decide_eq_false_iff_not, beq_iff_eq, bne_iff_ne, beq_eq_false_iff_ne, bne_eq_false_iff_eq, ne_eq, Bool.not_eq_true', Bool.not_eq_false', Bool.not_true, Bool.not_false, Decidable.not_not] at hg); try (exfalso; first | omega | exact hg True.intro))))
    · have hlt2 : r < (p.getD t []).length := by omega
      obtain ⟨ad, hA, hcell⟩ := CI hrow r hlt2
      have hr64 : r < 64 := by omega
      have hl1 := mst_len 1 p t r
      have hl2 := mst_len (-1) p t r
      have hg1 := mst_get 1 p t r hr64
      have hg2 := mst_get (-1) p t r hr64
      have hk1 := mk_lt 1 p t r (by omega)
      have hk2 := mk_lt (-1) p t r (by omega)
      have hpt : 1 * 2 ^ t < 1024 := by rw [Nat.one_mul]; exact Nat.pow_lt_pow_right (n := 10) (by decide) (by omega)
      (repeat (first | ((with_reducible refine is_AL ?_); (first | ((with_reducible refine is_move ?_); (refine At_plain hF (by (exact (rfl : _ = some (Value.int _ _)))) ?_)) | ((with_reducible refine is_index ?_); (refine At_indexC1 hF rfl (by assumption) rfl rfl (by omega) ?_)))) | ((with_reducible refine is_At ?_); (first | with_reducible refine At_seq ?_; intro K hK | with_reducible refine At_block ?_ | with_reducible refine At_region ?_ | with_reducible refine At_skip ?_ | with_reducible refine At_then_n ?_ | with_reducible refine At_go (by assumption) ?_))))
      refine At_loadC hF (by exact rfl) hcell ?_
      clear hA hcell
      (repeat (first | ((with_reducible refine is_AL ?_); (first | ((with_reducible refine is_move ?_); (refine At_plain hF (by (exact (rfl : _ = some (Value.int _ _)))) ?_)) | ((with_reducible refine is_bin ?_); (refine At_plain hF (by (exact (rfl : _ = some (Value.bool _)))) ?_)) | ((with_reducible refine is_assign ?_); (refine At_plain hF (by (first | exact (rfl : _ = some (Value.int _ _)) | exact (rfl : _ = some (Value.bool _)))) ?_)) | with_reducible refine At_nil ?_)) | ((with_reducible refine is_At ?_); (first | with_reducible refine At_seq ?_; intro K hK | with_reducible refine At_block ?_ | with_reducible refine At_region ?_ | with_reducible refine At_then_n ?_ | with_reducible refine At_go (by assumption) ?_))))
      ((with_reducible refine is_cond ?_); (refine At_cond rfl ?_ ?_ <;> (intro hg; try (simp only [decide_eq_true_eq, decide_eq_false_iff_not, beq_iff_eq, bne_iff_ne, beq_eq_false_iff_ne, bne_eq_false_iff_eq, ne_eq, Bool.not_eq_true', Bool.not_eq_false', Bool.not_true, Bool.not_false, Decidable.not_not] at hg); try (exfalso; first | omega | exact hg True.intro))))
      · have hs1 := mst_set 1 p t r hr64 hg
        have hs2 := mst_skip (-1) p t r (by omega)
        skip
        refine At_draw hF 7 (by kernel_rfl) (by decide +kernel) ?_; simp only [List.take_succ_cons, List.take_zero, List.drop_succ_cons, List.drop_zero]; (repeat ((with_reducible refine is_AQc ?_); refine AQ_cons (by intro K Q hK; (repeat (first | ((with_reducible refine is_move ?_); (refine At_plain hF (by (exact (rfl : _ = some (Value.int _ _)))) ?_)) | ((with_reducible refine is_load ?_); (refine At_load hF 1 rfl rfl (by (exact buf_getI _ (by omega))) ?_)) | ((with_reducible refine is_index ?_); (refine At_indexA1 hF rfl rfl rfl rfl (by first | decide | (simp only [TArr.m]; omega)) ?_)))); exact At_nilK hK) ?_))
        refine AQ_cons (by intro K Q hK; refine At_shl (a := 1) (b := t) hF (by exact rfl) (by exact rfl) (by omega) (by omega) ?_; exact At_nilK hK) ?_
        refine AQ_cons (by intro K Q hK; refine At_or (a := (mst 1 p t r).getD r default) (b := 1 * 2 ^ t) hF (by exact rfl) (by exact rfl) (by omega) (by omega) ?_; exact At_nilK hK) ?_
        (repeat ((with_reducible refine is_AQc ?_); refine AQ_cons (by intro K Q hK; (repeat ((with_reducible refine is_index ?_); (refine At_indexA1 hF rfl rfl rfl rfl (by first | decide | (simp only [TArr.m]; omega)) ?_))); exact At_nilK hK) ?_)); refine AQ_done ?_
        (repeat (first | ((with_reducible refine is_AL ?_); (first | ((with_reducible refine is_move ?_); (refine At_plain hF (by (exact (rfl : _ = some (Value.int _ _)))) ?_)) | ((with_reducible refine is_bin ?_); ((with_reducible refine is_badd ?_); (refine At_add hF rfl rfl (by omega) ?_))) | ((with_reducible refine is_store ?_); (refine At_store_1 hF rfl (by (exact (rfl : _ = (Value.int _ _)))) (by (simp [buf_size1]; omega)) (by exact rfl) (by exact rfl) (by (exact buf_set1 _ (by omega))) ?_)) | with_reducible refine At_nil ?_)) | ((with_reducible refine is_At ?_); (first | with_reducible refine At_region ?_ | with_reducible refine At_then_n ?_ | with_reducible refine At_inb_n ?_ | with_reducible refine At_go (by assumption) ?_))))
        rw [hg1, hs1, hs2]
        refine At.sub ?_ (hI (r + 1) _ (by omega) (by omega) ?_)
        · (repeat (first | exact List.Sublist.refl _ | exact List.Sublist.slnil | refine List.Sublist.cons_cons _ ?_ | refine List.Sublist.cons _ ?_))
        · (repeat (first | exact True.intro | (refine And.intro ?_ ?_; focus (show _ = (_ : Value); first | exact rfl | (refine Eq.trans (b := Value.int IntKind.i64 _) rfl (congrArg (Value.int IntKind.i64) ?_); omega)))))
      · have hs1 := mst_skip 1 p t r hg
        (repeat (first | ((with_reducible refine is_AL ?_); (first | ((with_reducible refine is_bin ?_); (refine At_plain hF (by (exact (rfl : _ = some (Value.bool _)))) ?_)) | ((with_reducible refine is_assign ?_); (refine At_plain hF (by (exact (rfl : _ = some (Value.bool _)))) ?_)) | with_reducible refine At_nil ?_)) | ((with_reducible refine is_At ?_); (first | with_reducible refine At_seq ?_; intro K hK | with_reducible refine At_region ?_ | with_reducible refine At_then_n ?_ | with_reducible refine At_go (by assumption) ?_))))
        ((with_reducible refine is_cond ?_); (refine At_cond rfl ?_ ?_ <;> (intro hg; try (simp only [decide_eq_true_eq, decide_eq_false_iff_not, beq_iff_eq, bne_iff_ne, beq_eq_false_iff_ne, bne_eq_false_iff_eq, ne_eq, Bool.not_eq_true', Bool.not_eq_false', Bool.not_true, Bool.not_false, Decidable.not_not] at hg); try (exfalso; first | omega | exact hg True.intro))))
        · have hs2 := mst_set (-1) p t r hr64 hg
          skip
          refine At_draw hF 7 (by kernel_rfl) (by decide +kernel) ?_; simp only [List.take_succ_cons, List.take_zero, List.drop_succ_cons, List.drop_zero]; (repeat ((with_reducible refine is_AQc ?_); refine AQ_cons (by intro K Q hK; (repeat (first | ((with_reducible refine is_move ?_); (refine At_plain hF (by (exact (rfl : _ = some (Value.int _ _)))) ?_)) | ((with_reducible refine is_load ?_); (refine At_load hF 0 rfl rfl (by (exact buf_getI _ (by omega))) ?_)) | ((with_reducible refine is_index ?_); (refine At_indexA1 hF rfl rfl rfl rfl (by first | decide | (simp only [TArr.m]; omega)) ?_)))); exact At_nilK hK) ?_))
          refine AQ_cons (by intro K Q hK; refine At_shl (a := 1) (b := t) hF (by exact rfl) (by exact rfl) (by omega) (by omega) ?_; exact At_nilK hK) ?_
          refine AQ_cons (by intro K Q hK; refine At_or (a := (mst (-1) p t r).getD r default) (b := 1 * 2 ^ t) hF (by exact rfl) (by exact rfl) (by omega) (by omega) ?_; exact At_nilK hK) ?_
          (repeat ((with_reducible refine is_AQc ?_); refine AQ_cons (by intro K Q hK; (repeat ((with_reducible refine is_index ?_); (refine At_indexA1 hF rfl rfl rfl rfl (by first | decide | (simp only [TArr.m]; omega)) ?_))); exact At_nilK hK) ?_)); refine AQ_done ?_
          (repeat (first | ((with_reducible refine is_AL ?_); (first | ((with_reducible refine is_move ?_); (refine At_plain hF (by (exact (rfl : _ = some (Value.int _ _)))) ?_)) | ((with_reducible refine is_bin ?_); ((with_reducible refine is_badd ?_); (refine At_add hF rfl rfl (by omega) ?_))) | ((with_reducible refine is_store ?_); (refine At_store_0 hF rfl (by (exact (rfl : _ = (Value.int _ _)))) (by (simp [buf_size1]; omega)) (by exact rfl) (by exact rfl) (by (exact buf_set1 _ (by omega))) ?_)) | with_reducible refine At_nil ?_)) | ((with_reducible refine is_At ?_); (first | with_reducible refine At_region ?_ | with_reducible refine At_then_n ?_ | with_reducible refine At_inb_n ?_ | with_reducible refine At_go (by assumption) ?_))))
          rw [hg2, hs2, hs1]
          refine At.sub ?_ (hI (r + 1) _ (by omega) (by omega) ?_)
          · (repeat (first | exact List.Sublist.refl _ | exact List.Sublist.slnil | refine List.Sublist.cons_cons _ ?_ | refine List.Sublist.cons _ ?_))
          · (repeat (first | exact True.intro | (refine And.intro ?_ ?_; focus (show _ = (_ : Value); first | exact rfl | (refine Eq.trans (b := Value.int IntKind.i64 _) rfl (congrArg (Value.int IntKind.i64) ?_); omega)))))
        · have hs2 := mst_skip (-1) p t r hg
          (repeat (first | ((with_reducible refine is_AL ?_); (first | ((with_reducible refine is_move ?_); (refine At_plain hF (by (exact (rfl : _ = some (Value.int _ _)))) ?_)) | ((with_reducible refine is_bin ?_); ((with_reducible refine is_badd ?_); (refine At_add hF rfl rfl (by omega) ?_))) | with_reducible refine At_nil ?_)) | ((with_reducible refine is_At ?_); (first | with_reducible refine At_region ?_ | with_reducible refine At_skip ?_ | with_reducible refine At_then_n ?_ | with_reducible refine At_inb_n ?_ | with_reducible refine At_go (by assumption) ?_))))
          rw [hs1, hs2]
          refine At.sub ?_ (hI (r + 1) _ (by omega) (by omega) ?_)
          · (repeat (first | exact List.Sublist.refl _ | exact List.Sublist.slnil | refine List.Sublist.cons_cons _ ?_ | refine List.Sublist.cons _ ?_))
          · (repeat (first | exact True.intro | (refine And.intro ?_ ?_; focus (show _ = (_ : Value); first | exact rfl | (refine Eq.trans (b := Value.int IntKind.i64 _) rfl (congrArg (Value.int IntKind.i64) ?_); omega)))))
    · obtain rfl : r = (p.getD t []).length := by omega
      have hs1 := mst_row 1 (by decide) p t _ (Nat.le_refl (p.getD t []).length)
      have hs2 := mst_row (-1) (by decide) p t _ (Nat.le_refl (p.getD t []).length)
      (repeat (first | ((with_reducible refine is_AL ?_); (first | ((with_reducible refine is_move ?_); (refine At_plain hF (by (exact (rfl : _ = some (Value.int _ _)))) ?_)) | ((with_reducible refine is_bin ?_); ((with_reducible refine is_badd ?_); (refine At_add hF rfl rfl (by omega) ?_))) | with_reducible refine At_nil ?_)) | ((with_reducible refine is_At ?_); (first | with_reducible refine At_region ?_ | with_reducible refine At_exit ?_ | with_reducible refine At_then_n ?_ | with_reducible refine At_then_e ?_ | with_reducible refine At_inb_n ?_ | with_reducible refine At_inb_e rfl ?_ | with_reducible refine At_go (by assumption) ?_))))
      rw [hs1, hs2]
      refine At.sub ?_ (hL (t + 1) _ (by omega) (by omega) ?_)
      · (repeat (first | exact List.Sublist.refl _ | exact List.Sublist.slnil | refine List.Sublist.cons_cons _ ?_ | refine List.Sublist.cons _ ?_))
      · (repeat (first | exact True.intro | (refine And.intro ?_ ?_; focus (show _ = (_ : Value); first | exact rfl | (refine Eq.trans (b := Value.int IntKind.i64 _) rfl (congrArg (Value.int IntKind.i64) ?_); omega)))))
  · obtain rfl : t = p.length := by omega
    (repeat (first | ((with_reducible refine is_AL ?_); (first | ((with_reducible refine is_call ?_); (refine At_len hF rfl ?_)) | ((with_reducible refine is_load ?_); (refine At_load hF 5 rfl rfl (by (exact (rfl : _ = some (Value.slice _ _ _)))) ?_)))) | ((with_reducible refine is_At ?_); (first | with_reducible refine At_seq ?_; intro K hK | with_reducible refine At_region ?_ | with_reducible refine At_label ?_ | with_reducible refine At_exit ?_ | with_reducible refine At_then_n ?_ | with_reducible refine At_then_e ?_ | with_reducible refine At_inb_e rfl ?_ | with_reducible refine At_go (by assumption) ?_))))
    refine At_callM hF E27 rfl (arg1 (by (first | exact (rfl : _ = (Value.int _ _)) | exact (rfl : _ = (Value.bool _)) | exact (rfl : _ = (Value.pointer _)) | exact (rfl : _ = (Value.slice _ _ _)) | exact (rfl : _ = (Value.map _)) | exact (rfl : _ = (Value.func _ _ _)) | exact (rfl : _ = (Value.tuple _)) | exact (rfl : _ = (Value.agg _)) | exact (rfl : _ = (Value.string _)) | exact (rfl : _ = (Value.nilFunc)) | exact (rfl : _ = (Value.nilIface))))) (fun w' hw' => sets_rets p.length w') ?_
    rintro u Rs ⟨bs, rfl, rfl⟩
    simp only [List.cons_append, List.nil_append]
    (repeat (first | ((with_reducible refine is_AL ?_); (with_reducible refine At_nil ?_)) | ((with_reducible refine is_At ?_); (first | with_reducible refine At_block ?_ | with_reducible refine At_then_n ?_ | with_reducible refine At_go (by assumption) ?_))))
    obtain ⟨ad, A0, c0, hA, hcell, hc0, hrow⟩ := CL hr 0 (by omega)
    have hR64 : (p.getD 0 []).length ≤ 64 := (hok.2 _ (getD_mem' (d := []) (k := 0) (by omega))).2.1
    refine At_range hF rfl rfl rfl E35 [.obj bs (.cells #[.int .i64 p.length] 3)] argsU (fun xs => xs <+: setsL p.length) (fun xs => xs = setsL p.length) (sets_iter hF rfl rfl w p.length bs (by omega))
      (VRs A c p b1 b2 b3 b4 b5 b6) (fun xs s => s = none ∧ ∀ x ∈ xs, shortB p x = false) (fun e s => e = .ret ∧ ∃ set A' c', s = some (set, A', c') ∧ (setsL p.length).find? (shortB p) = some set) none ?_ ⟨rfl, fun x h => (by cases h)⟩ (fun _ => rfl) ?_ ?_ ?_
    · exact List.Sublist.refl _
    · rintro l rec Ri xs a s ⟨rfl, hno⟩ hpre
      have hF := Wide.inRound hF l
      simp only [VRs, List.cons_append, List.nil_append]
      (repeat (first | ((with_reducible refine is_AL ?_); (first | ((with_reducible refine is_assign ?_); (refine At_plain hF (by (exact (rfl : _ = some (Value.int _ _)))) ?_)) | with_reducible refine At_nil ?_)) | ((with_reducible refine is_At ?_); (with_reducible refine At_region ?_))))
      refine fun w' hw' => ⟨rfl, hw', ?_⟩
      have hmem : a ∈ setsL p.length := hpre.subset (by simp)
      obtain ⟨ha, hpc⟩ := sets_ok p.length (by omega) a hmem
      have hpb := popc_bd a
      have hq := q_bd (popc a) hpb
      (repeat (first | ((with_reducible refine is_AL ?_); ((with_reducible refine is_move ?_); (refine At_plain hF (by (exact (rfl : _ = some (Value.int _ _)))) ?_))) | ((with_reducible refine is_At ?_); (first | with_reducible refine At_seq ?_; intro K hK | with_reducible refine At_block ?_ | with_reducible refine At_region ?_))))
      refine At_callB hF E28 rfl (arg1 (by (first | exact (rfl : _ = (Value.int _ _)) | exact (rfl : _ = (Value.bool _)) | exact (rfl : _ = (Value.pointer _)) | exact (rfl : _ = (Value.slice _ _ _)) | exact (rfl : _ = (Value.map _)) | exact (rfl : _ = (Value.func _ _ _)) | exact (rfl : _ = (Value.tuple _)) | exact (rfl : _ = (Value.agg _)) | exact (rfl : _ = (Value.string _)) | exact (rfl : _ = (Value.nilFunc)) | exact (rfl : _ = (Value.nilIface))))) (fun w' hw' => ones_rets a ha w') ?_
      (repeat (first | ((with_reducible refine is_AL ?_); (first | ((with_reducible refine is_move ?_); (refine At_plain hF (by (exact (rfl : _ = some (Value.int _ _)))) ?_)) | ((with_reducible refine is_bin ?_); (first | ((with_reducible refine is_bsub ?_); (refine At_sub hF rfl rfl (by omega) ?_)) | ((with_reducible refine is_bmul ?_); (refine At_mul hF rfl rfl (by omega) ?_)) | ((with_reducible refine is_bquo ?_); (refine At_quo hF rfl rfl (by omega) ?_)))) | ((with_reducible refine is_assign ?_); (refine At_plain hF (by (exact (rfl : _ = some (Value.int _ _)))) ?_)) | ((with_reducible refine is_load ?_); (refine At_load hF 6 rfl rfl (by (exact (rfl : _ = some (Value.slice _ _ _)))) ?_)) | ((with_reducible refine is_index ?_); (refine At_indexC1i hF rfl (by assumption) rfl rfl (by omega) (by omega) ?_)) | with_reducible refine At_nil ?_)) | ((with_reducible refine is_At ?_); (first | with_reducible refine At_seq ?_; intro K hK | with_reducible refine At_region ?_ | with_reducible refine At_then_n ?_ | with_reducible refine At_go (by assumption) ?_))))
      refine At_loadC hF (by exact rfl) hcell ?_
      (repeat (first | ((with_reducible refine is_AL ?_); (first | ((with_reducible refine is_move ?_); (refine At_plain hF (by (exact (rfl : _ = some (Value.int _ _)))) ?_)) | ((with_reducible refine is_call ?_); (refine At_len hF rfl ?_)) | with_reducible refine At_nil ?_)) | ((with_reducible refine is_At ?_); (first | with_reducible refine At_block ?_ | with_reducible refine At_then_n ?_ | with_reducible refine At_go (by assumption) ?_))))
      rw [show (popc a : Int) * ((popc a : Int) - 1) / 2 = leftR p a 0 from rfl]
      refine At_loop (fun r : Nat => [(1, ip b1), (2, ip b2), (3, ip b3), (4, ip b4), (5, ip b5), (6, ip b6), (11, .int .u32 a), (13, .int .i64 (leftR p a r)), (78, .int .i64 (p.getD 0 []).length), (79, .int .i64 r)])
        (fun r => .obj l (.loop { rec with state := .busy }) :: .obj b6 (.cells (buf (sc u32v) (mst (-1) p p.length 0) []) 55) :: .obj b5 (.cells (buf (sc u32v) (mst 1 p p.length 0) []) 55) :: .obj b4 (.cells #[.int .i64 0] 26) :: .obj b3 (.cells #[.bool false] 4) :: .obj b2 (.cells #[.slice none 0 0] 29) :: .obj b1 (.cells #[.slice A p.length c] 23) :: Ri) (fun r => r ≤ (p.getD 0 []).length ∧ 0 < leftR p a r) (fun r => (p.getD 0 []).length - r) 0 ?_ ?_ ⟨Nat.zero_le _, left0_pos hpc⟩ ?_
      · (repeat (first | exact List.Sublist.refl _ | exact List.Sublist.slnil | refine List.Sublist.cons_cons _ ?_ | refine List.Sublist.cons _ ?_))
      · (repeat (first | exact True.intro | (refine And.intro ?_ ?_; focus (show _ = (_ : Value); first | exact rfl | (refine Eq.trans (b := Value.int IntKind.i64 _) rfl (congrArg (Value.int IntKind.i64) ?_); omega)))))
      rintro r ⟨hr1, hpos⟩ K hL ρ1
      try dsimp only
      (repeat (first | ((with_reducible refine is_AL ?_); (first | ((with_reducible refine is_bin ?_); (refine At_plain hF (by (exact (rfl : _ = some (Value.bool _)))) ?_)) | with_reducible refine At_nil ?_)) | ((with_reducible refine is_At ?_); (first | with_reducible refine At_seq ?_; intro K hK | with_reducible refine At_region ?_ | with_reducible refine At_then_n ?_ | with_reducible refine At_go (by assumption) ?_))))
      ((with_reducible refine is_cond ?_); (refine At_cond rfl ?_ ?_ <;> (intro hg; try (simp only [decide_eq_true_eq, decide_eq_false_iff_not, beq_iff_eq, bne_iff_ne, beq_eq_false_iff_ne, bne_eq_false_iff_eq, ne_eq, Bool.not_eq_true', Bool.not_eq_false', Bool.not_true, Bool.not_false, Decidable.not_not] at hg); try (exfalso; first | omega | exact hg True.intro))))
      · have hlt : r < (p.getD 0 []).length := by omega
        have hl1 := mst_len 1 p p.length 0
        have hl2 := mst_len (-1) p p.length 0
        have hg1 := mst_get0 1 p p.length r (by omega)
        have hg2 := mst_get0 (-1) p p.length r (by omega)
        have hk1 := mk_lt 1 p p.length r (by omega)
        have hk2 := mk_lt (-1) p p.length r (by omega)
        have hlm := leftR_mono p a 0 r
        rw [Nat.zero_add] at hlm
        have hl0 : leftR p a 0 ≤ 50 := (left0_bd a).2
        have hgn := gameR_nn p a r
        have hsucc : leftR p a (r + 1) = leftR p a r - min (popc (a &&& (mst 1 p p.length 0).getD r default) : Int) (popc (a &&& (mst (-1) p p.length 0).getD r default)) := by rw [hg1, hg2, leftR, gameR]
        have hx1 : a &&& (mst 1 p p.length 0).getD r default < 1024 := Nat.lt_of_le_of_lt Nat.and_le_left ha
        have hx2 : a &&& (mst (-1) p p.length 0).getD r default < 1024 := Nat.lt_of_le_of_lt Nat.and_le_left ha
        have hpb1 := popc_bd (a &&& (mst 1 p p.length 0).getD r default)
        have hpb2 := popc_bd (a &&& (mst (-1) p p.length 0).getD r default)
        (repeat (first | ((with_reducible refine is_AL ?_); (first | ((with_reducible refine is_move ?_); (refine At_plain hF (by (exact (rfl : _ = some (Value.int _ _)))) ?_)) | ((with_reducible refine is_assign ?_); (refine At_plain hF (by (exact (rfl : _ = some (Value.int _ _)))) ?_)) | with_reducible refine At_nil ?_)) | ((with_reducible refine is_At ?_); (first | with_reducible refine At_seq ?_; intro K hK | with_reducible refine At_block ?_ | with_reducible refine At_region ?_ | with_reducible refine At_skip ?_ | with_reducible refine At_then_n ?_ | with_reducible refine At_go (by assumption) ?_))))
        refine At_draw hF 15 (by kernel_rfl) (by decide +kernel) ?_; simp only [List.take_succ_cons, List.take_zero, List.drop_succ_cons, List.drop_zero]; (repeat ((with_reducible refine is_AQc ?_); refine AQ_cons (by intro K Q hK; (repeat (first | ((with_reducible refine is_move ?_); (refine At_plain hF (by (exact (rfl : _ = some (Value.int _ _)))) ?_)) | ((with_reducible refine is_load ?_); (refine At_load hF 2 rfl rfl (by (exact buf_getI _ (by omega))) ?_)) | ((with_reducible refine is_index ?_); (refine At_indexA1 hF rfl rfl rfl rfl (by first | decide | (simp only [TArr.m]; omega)) ?_)))); exact At_nilK hK) ?_))
        refine AQ_cons (by intro K Q hK; refine At_and (a := a) (b := (mst 1 p p.length 0).getD r default) hF (by exact rfl) (by exact rfl) (by omega) (by omega) ?_; exact At_nilK hK) ?_
        refine AQ_cons (by intro K Q hK; refine At_callB hF E28 rfl (arg1 (by (first | exact (rfl : _ = (Value.int _ _)) | exact (rfl : _ = (Value.bool _)) | exact (rfl : _ = (Value.pointer _)) | exact (rfl : _ = (Value.slice _ _ _)) | exact (rfl : _ = (Value.map _)) | exact (rfl : _ = (Value.func _ _ _)) | exact (rfl : _ = (Value.tuple _)) | exact (rfl : _ = (Value.agg _)) | exact (rfl : _ = (Value.string _)) | exact (rfl : _ = (Value.nilFunc)) | exact (rfl : _ = (Value.nilIface))))) (fun w' hw' => ones_rets _ hx1 w') ?_; exact At_nilK hK) ?_
        (repeat ((with_reducible refine is_AQc ?_); refine AQ_cons (by intro K Q hK; (repeat (first | ((with_reducible refine is_move ?_); (refine At_plain hF (by (exact (rfl : _ = some (Value.int _ _)))) ?_)) | ((with_reducible refine is_load ?_); (refine At_load hF 1 rfl rfl (by (exact buf_getI _ (by omega))) ?_)) | ((with_reducible refine is_index ?_); (refine At_indexA1 hF rfl rfl rfl rfl (by first | decide | (simp only [TArr.m]; omega)) ?_)))); exact At_nilK hK) ?_))
        refine AQ_cons (by intro K Q hK; refine At_and (a := a) (b := (mst (-1) p p.length 0).getD r default) hF (by exact rfl) (by exact rfl) (by omega) (by omega) ?_; exact At_nilK hK) ?_
        refine AQ_cons (by intro K Q hK; refine At_callB hF E28 rfl (arg1 (by (first | exact (rfl : _ = (Value.int _ _)) | exact (rfl : _ = (Value.bool _)) | exact (rfl : _ = (Value.pointer _)) | exact (rfl : _ = (Value.slice _ _ _)) | exact (rfl : _ = (Value.map _)) | exact (rfl : _ = (Value.func _ _ _)) | exact (rfl : _ = (Value.tuple _)) | exact (rfl : _ = (Value.agg _)) | exact (rfl : _ = (Value.string _)) | exact (rfl : _ = (Value.nilFunc)) | exact (rfl : _ = (Value.nilIface))))) (fun w' hw' => ones_rets _ hx2 w') ?_; exact At_nilK hK) ?_
        (repeat ((with_reducible refine is_AQc ?_); refine AQ_cons (by intro K Q hK; (repeat (first | ((with_reducible refine is_bin ?_); ((with_reducible refine is_bsub ?_); (refine At_sub hF rfl rfl (by omega) ?_))) | ((with_reducible refine is_call ?_); (refine At_min hF rfl rfl ?_)))); exact At_nilK hK) ?_)); refine AQ_done ?_
        rw [← hsucc]
        (repeat (first | ((with_reducible refine is_AL ?_); (first | ((with_reducible refine is_move ?_); (refine At_plain hF (by (exact (rfl : _ = some (Value.int _ _)))) ?_)) | ((with_reducible refine is_bin ?_); (refine At_plain hF (by (exact (rfl : _ = some (Value.bool _)))) ?_)) | ((with_reducible refine is_assign ?_); (refine At_plain hF (by (exact (rfl : _ = some (Value.int _ _)))) ?_)) | with_reducible refine At_nil ?_)) | ((with_reducible refine is_At ?_); (first | with_reducible refine At_seq ?_; intro K hK | with_reducible refine At_region ?_ | with_reducible refine At_then_n ?_ | with_reducible refine At_go (by assumption) ?_))))
        ((with_reducible refine is_cond ?_); (refine At_cond rfl ?_ ?_ <;> (intro hg; try (simp only [decide_eq_true_eq, decide_eq_false_iff_not, beq_iff_eq, bne_iff_ne, beq_eq_false_iff_ne, bne_eq_false_iff_eq, ne_eq, Bool.not_eq_true', Bool.not_eq_false', Bool.not_true, Bool.not_false, Decidable.not_not] at hg); try (exfalso; first | omega | exact hg True.intro))))
        · (repeat ((with_reducible refine is_At ?_); (first | with_reducible refine At_exit ?_ | with_reducible refine At_then_e ?_ | with_reducible refine At_inb_e rfl ?_ | with_reducible refine At_inb_x rfl ?_)))
          refine rnd_n none ?_ ⟨rfl, fun x hx => ?_⟩
          · exact List.Sublist.refl _
          · rcases List.mem_append.1 hx with hx | hx
            · exact hno x hx
            · rw [List.mem_singleton] at hx; subst hx
              have := leftR_mono p x (r + 1) ((p.getD 0 []).length - (r + 1))
              rw [show r + 1 + ((p.getD 0 []).length - (r + 1)) = (p.getD 0 []).length by omega] at this
              exact decide_eq_false (by omega)
        · (repeat (first | ((with_reducible refine is_AL ?_); (first | ((with_reducible refine is_move ?_); (refine At_plain hF (by (exact (rfl : _ = some (Value.int _ _)))) ?_)) | ((with_reducible refine is_bin ?_); ((with_reducible refine is_badd ?_); (refine At_add hF rfl rfl (by omega) ?_))) | with_reducible refine At_nil ?_)) | ((with_reducible refine is_At ?_); (first | with_reducible refine At_region ?_ | with_reducible refine At_skip ?_ | with_reducible refine At_then_n ?_ | with_reducible refine At_inb_n ?_ | with_reducible refine At_go (by assumption) ?_))))
          refine At.sub ?_ (hL (r + 1) _ ⟨by omega, by omega⟩ (by omega) ?_)
          · (repeat (first | exact List.Sublist.refl _ | exact List.Sublist.slnil | refine List.Sublist.cons_cons _ ?_ | refine List.Sublist.cons _ ?_))
          · (repeat (first | exact True.intro | (refine And.intro ?_ ?_; focus (show _ = (_ : Value); first | exact rfl | (refine Eq.trans (b := Value.int IntKind.i64 _) rfl (congrArg (Value.int IntKind.i64) ?_); omega)))))
      · obtain rfl : r = (p.getD 0 []).length := by omega
        have hfind := find_pre hpre hno (show shortB p a = true from decide_eq_true hpos)
        refine At.newNil 3 1 (sc (Value.int .i64)) (fun _ => rfl) ?_
        refine At.perm' (List.Perm.swap _ _ _) ?_
        (repeat (first | ((with_reducible refine is_AL ?_); (first | ((with_reducible refine is_move ?_); (refine At_plain hF (by (exact (rfl : _ = some (Value.int _ _)))) ?_)) | ((with_reducible refine is_call ?_); (refine At_len hF rfl ?_)) | ((with_reducible refine is_load ?_); (refine At_load hF 7 rfl rfl (by (exact (rfl : _ = some (Value.slice _ _ _)))) ?_)) | with_reducible refine At_nil ?_)) | ((with_reducible refine is_At ?_); (first | with_reducible refine At_seq ?_; intro K hK | with_reducible refine At_block ?_ | with_reducible refine At_region ?_ | with_reducible refine At_exit ?_ | with_reducible refine At_then_n ?_ | with_reducible refine At_then_e ?_ | with_reducible refine At_inb_e rfl ?_ | with_reducible refine At_go (by assumption) ?_))))
        refine At_loop (fun st : Nat × Option Nat × Nat => [(1, ip b1), (2, ip b2), (3, ip b3), (4, ip b4), (11, .int .u32 a), (101, .int .i64 p.length), (102, .int .i64 st.1)])
          (fun st => .obj l (.loop { rec with state := .busy }) :: .row 3 1 (sc (Value.int .i64)) st.2.1 st.2.2 (membs st.1 a) :: .obj b4 (.cells #[.int .i64 0] 26) :: .obj b3 (.cells #[.bool false] 4) :: .obj b2 (.cells #[rowV st.2.1 (membs st.1 a).length st.2.2] 29) :: .obj b1 (.cells #[.slice A p.length c] 23) :: Ri) (fun st => st.1 ≤ p.length) (fun st => p.length - st.1) (0, none, 0) ?_ ?_ (Nat.zero_le _) ?_
        · (repeat (first | exact List.Sublist.refl _ | exact List.Sublist.slnil | refine List.Sublist.cons_cons _ ?_ | refine List.Sublist.cons _ ?_))
        · (repeat (first | exact True.intro | (refine And.intro ?_ ?_; focus (show _ = (_ : Value); first | exact rfl | (refine Eq.trans (b := Value.int IntKind.i64 _) rfl (congrArg (Value.int IntKind.i64) ?_); omega)))))
        rintro ⟨t, A', c'⟩ ht K hI ρ2
        simp only at ht
        try dsimp only
        (repeat (first | ((with_reducible refine is_AL ?_); (first | ((with_reducible refine is_bin ?_); (refine At_plain hF (by (exact (rfl : _ = some (Value.bool _)))) ?_)) | with_reducible refine At_nil ?_)) | ((with_reducible refine is_At ?_); (first | with_reducible refine At_seq ?_; intro K hK | with_reducible refine At_region ?_ | with_reducible refine At_then_n ?_ | with_reducible refine At_go (by assumption) ?_))))
        ((with_reducible refine is_cond ?_); (refine At_cond rfl ?_ ?_ <;> (intro hg; try (simp only [decide_eq_true_eq, decide_eq_false_iff_not, beq_iff_eq, bne_iff_ne, beq_eq_false_iff_ne, bne_eq_false_iff_eq, ne_eq, Bool.not_eq_true', Bool.not_eq_false', Bool.not_true, Bool.not_false, Decidable.not_not] at hg); try (exfalso; first | omega | exact hg True.intro))))
        · have hlt : t < p.length := by omega
          have hda : a / 2 ^ t < 4294967296 := Nat.lt_of_le_of_lt (Nat.div_le_self ..) (by omega)
          have hms := membs_succ t a
          have hml := membs_len t a
          have htb := tb_iff a t
          (repeat (first | ((with_reducible refine is_AL ?_); (first | ((with_reducible refine is_move ?_); (refine At_plain hF (by (exact (rfl : _ = some (Value.int _ _)))) ?_)) | ((with_reducible refine is_assign ?_); (refine At_plain hF (by (exact (rfl : _ = some (Value.int _ _)))) ?_)) | with_reducible refine At_nil ?_)) | ((with_reducible refine is_At ?_); (first | with_reducible refine At_seq ?_; intro K hK | with_reducible refine At_block ?_ | with_reducible refine At_region ?_ | with_reducible refine At_skip ?_ | with_reducible refine At_then_n ?_ | with_reducible refine At_go (by assumption) ?_))))
          refine At_shr (a := a) (b := t) hF (by exact rfl) (by exact rfl) (by omega) ?_
          refine At_and (a := a / 2 ^ t) (b := 1) hF (by exact rfl) (by exact rfl) hda (by decide) ?_
          (repeat (first | ((with_reducible refine is_AL ?_); (first | ((with_reducible refine is_bin ?_); (refine At_plain hF (by (exact (rfl : _ = some (Value.bool _)))) ?_)) | with_reducible refine At_nil ?_)) | ((with_reducible refine is_At ?_); (first | with_reducible refine At_then_n ?_ | with_reducible refine At_go (by assumption) ?_))))
          ((with_reducible refine is_cond ?_); (refine At_cond rfl ?_ ?_ <;> (intro hg; try (simp only [decide_eq_true_eq, decide_eq_false_iff_not, beq_iff_eq, bne_iff_ne, beq_eq_false_iff_ne, bne_eq_false_iff_eq, ne_eq, Bool.not_eq_true', Bool.not_eq_false', Bool.not_true, Bool.not_false, Decidable.not_not] at hg); try (exfalso; first | omega | exact hg True.intro))))
          · rw [if_pos (htb.1 (by omega))] at hms
            ((repeat (first | ((with_reducible refine is_AL ?_); (first | ((with_reducible refine is_move ?_); (refine At_plain hF (by (exact (rfl : _ = some (Value.int _ _)))) ?_)) | ((with_reducible refine is_load ?_); (refine At_load hF 4 rfl rfl (by (exact (rfl : _ = some (Value.slice _ _ _)))) ?_)))) | ((with_reducible refine is_At ?_); (with_reducible refine At_region ?_)))); ((with_reducible refine is_bslice ?_); (refine At_slice1_1 hF (by decide) (by (exact (rfl : _ = (Value.int _ _)))) rfl ?_; intro bl)); (repeat (first | ((with_reducible refine is_AL ?_); (first | ((with_reducible refine is_move ?_); (refine At_plain hF (by (exact (rfl : _ = some (Value.int _ _)))) ?_)) | ((with_reducible refine is_load ?_); (refine At_load hF 4 rfl rfl (by (exact (rfl : _ = some (Value.slice _ _ _)))) ?_)))) | ((with_reducible refine is_At ?_); (with_reducible refine At_region ?_)))))
            refine At_append_2 hF 0 rfl rfl rfl rfl (x0 := (t : Int)) rfl (by decide) (by simp [Value.one1]) (by simp only [TS.bytes]; omega) (by omega) ?_
            intro A2 c2
            rw [← hms, show (membs t a).length + 1 = (membs (t + 1) a).length by rw [hms]; simp]
            (repeat (first | ((with_reducible refine is_AL ?_); (first | ((with_reducible refine is_move ?_); (refine At_plain hF (by (exact (rfl : _ = some (Value.int _ _)))) ?_)) | ((with_reducible refine is_bin ?_); ((with_reducible refine is_badd ?_); (refine At_add hF rfl rfl (by omega) ?_))) | ((with_reducible refine is_store ?_); (refine At_store_5 hF rfl (by (exact (rfl : _ = (Value.slice _ _ _)))) (by (exact of_decide_eq_true rfl)) (by exact rfl) (by exact rfl) (by (exact (rfl : _ = List.toArray (_ :: _)))) ?_)) | with_reducible refine At_nil ?_)) | ((with_reducible refine is_At ?_); (first | with_reducible refine At_region ?_ | with_reducible refine At_then_n ?_ | with_reducible refine At_inb_n ?_ | with_reducible refine At_go (by assumption) ?_))))
            refine At.sub ?_ (hI (t + 1, A2, c2) _ hlt (by simp only; omega) ?_)
            · (repeat (first | exact List.Sublist.refl _ | exact List.Sublist.slnil | refine List.Sublist.cons_cons _ ?_ | refine List.Sublist.cons _ ?_))
            · (repeat (first | exact True.intro | (refine And.intro ?_ ?_; focus (show _ = (_ : Value); first | exact rfl | (refine Eq.trans (b := Value.int IntKind.i64 _) rfl (congrArg (Value.int IntKind.i64) ?_); omega)))))
          · rw [if_neg (fun h => by have := htb.2 h; omega), List.append_nil] at hms
            rw [← hms]
            (repeat (first | ((with_reducible refine is_AL ?_); (first | ((with_reducible refine is_move ?_); (refine At_plain hF (by (exact (rfl : _ = some (Value.int _ _)))) ?_)) | ((with_reducible refine is_bin ?_); ((with_reducible refine is_badd ?_); (refine At_add hF rfl rfl (by omega) ?_))) | with_reducible refine At_nil ?_)) | ((with_reducible refine is_At ?_); (first | with_reducible refine At_region ?_ | with_reducible refine At_skip ?_ | with_reducible refine At_then_n ?_ | with_reducible refine At_inb_n ?_ | with_reducible refine At_go (by assumption) ?_))))
            refine At.sub ?_ (hI (t + 1, A', c') _ hlt (by simp only; omega) ?_)
            · (repeat (first | exact List.Sublist.refl _ | exact List.Sublist.slnil | refine List.Sublist.cons_cons _ ?_ | refine List.Sublist.cons _ ?_))
            · (repeat (first | exact True.intro | (refine And.intro ?_ ?_; focus (show _ = (_ : Value); first | exact rfl | (refine Eq.trans (b := Value.int IntKind.i64 _) rfl (congrArg (Value.int IntKind.i64) ?_); omega)))))
        · obtain rfl : t = p.length := by omega
          (repeat (first | ((with_reducible refine is_AL ?_); (first | ((with_reducible refine is_load ?_); (refine At_load hF 4 rfl rfl (by (exact (rfl : _ = some (Value.slice _ _ _)))) ?_)) | ((with_reducible refine is_store ?_); (first | refine At_store_2 hF rfl (by (first | exact (rfl : _ = (Value.int _ _)) | exact (rfl : _ = (Value.bool _)) | exact (rfl : _ = (Value.slice _ _ _)))) (by (decide)) (by exact rfl) (by exact rfl) (by (exact (rfl : _ = List.toArray (_ :: _)))) ?_ | refine At_store_3 hF rfl (by (first | exact (rfl : _ = (Value.bool _)) | exact (rfl : _ = (Value.slice _ _ _)))) (by (decide)) (by exact rfl) (by exact rfl) (by (exact (rfl : _ = List.toArray (_ :: _)))) ?_ | refine At_store_4 hF rfl (by (exact (rfl : _ = (Value.slice _ _ _)))) (by (exact of_decide_eq_true rfl)) (by exact rfl) (by exact rfl) (by (exact (rfl : _ = List.toArray (_ :: _)))) ?_)) | with_reducible refine At_nil ?_)) | ((with_reducible refine is_At ?_); (first | with_reducible refine At_seq ?_; intro K hK | with_reducible refine At_region ?_ | with_reducible refine At_ret ?_ | with_reducible refine At_exit ?_ | with_reducible refine At_then_n ?_ | with_reducible refine At_then_e ?_ | with_reducible refine At_inb_r ?_ | with_reducible refine At_inb_e rfl ?_ | with_reducible refine At_go (by assumption) ?_))))
          refine rnd_r (some (a, A', c')) ?_ ⟨rfl, a, A', c', rfl, hfind⟩
          simp only [VRs, List.cons_append, List.nil_append]
          (repeat (first | exact List.Sublist.refl _ | exact List.Sublist.slnil | refine List.Sublist.cons_cons _ ?_ | refine List.Sublist.cons _ ?_))
    · rintro D xs s hall ⟨rfl, hno⟩
      subst hall
      have hv : vioF p = ([], false, 0) := by
        rw [vioF, if_neg hgood, List.find?_eq_none.2 (fun x hx => by rw [hno x hx]; simp)]
      simp only [VRs, List.cons_append, List.nil_append]
      (repeat (first | ((with_reducible refine is_AL ?_); (first | ((with_reducible refine is_store ?_); (first | refine At_store_4 hF rfl (by (first | exact (rfl : _ = (Value.int _ _)) | exact (rfl : _ = (Value.bool _)) | exact (rfl : _ = (Value.slice _ _ _)))) (by (decide)) (by exact rfl) (by exact rfl) (by (exact (rfl : _ = List.toArray (_ :: _)))) ?_ | refine At_store_5 hF rfl (by (first | exact (rfl : _ = (Value.bool _)) | exact (rfl : _ = (Value.slice _ _ _)))) (by (decide)) (by exact rfl) (by exact rfl) (by (exact (rfl : _ = List.toArray (_ :: _)))) ?_ | refine At_store_6 hF rfl (by (exact (rfl : _ = (Value.slice _ _ _)))) (by (decide)) (by exact rfl) (by exact rfl) (by (exact (rfl : _ = List.toArray (_ :: _)))) ?_)) | with_reducible refine At_nil ?_)) | ((with_reducible refine is_At ?_); (first | with_reducible refine At_seq ?_; intro K hK | with_reducible refine At_region ?_ | with_reducible refine At_ret ?_ | with_reducible refine At_then_n ?_ | with_reducible refine At_inb_n ?_ | with_reducible refine At_nogo_r ?_ | with_reducible refine At_go (by assumption) ?_))))
      refine At_retm3 rfl (rv_cell (by decide) rfl 5 rfl rfl) (rv_cell (by decide) rfl 4 rfl rfl) (rv_cell (by decide) rfl 3 rfl rfl) ?_
      exact At.sub (R' := []) (List.nil_sublist _) (At.newNil 3 1 (sc (Value.int .i64)) (fun _ => rfl) (fun w' hw' => ⟨_, rfl, _, by unfold vioPost; rw [hv]; exact ⟨none, 0, rfl, rfl⟩, hw'⟩))
    · rintro D e s hpe ⟨rfl, set, A', c', rfl, hfind⟩
      have hv : vioF p = (membs p.length set, true, 0) := by
        rw [vioF, if_neg hgood, hfind]
      simp only [VRs, List.cons_append, List.nil_append]
      (repeat ((with_reducible refine is_At ?_); (first | with_reducible refine At_then_r ?_ | with_reducible refine At_inb_r ?_ | with_reducible refine At_nogo_r ?_)))
      refine At_retm3 rfl (rv_cell (by decide) rfl 4 rfl rfl) (rv_cell (by decide) rfl 3 rfl rfl) (rv_cell (by decide) rfl 2 rfl rfl) ?_
      exact At.pick [1] (by decide) rfl (fun w' hw' => ⟨_, rfl, _, by unfold vioPost; rw [hv]; exact ⟨A', c', rfl, rfl⟩, hw'⟩)
end Go.Proofs.Ytecgklfcblpkdaa.P

/- Violates: contract. -/
namespace Go.Proofs.Ytecgklfcblpkdaa.P
open Go.RowKit Go.Proofs.YtecgklfcblpkdaaW.PrintWords Go.Proofs.YtecgklfcblpkdaaW.PrintLast Go.Proofs.YtecgklfcblpkdaaW.PrintMore
open XW
set_option linter.unusedSimpArgs false
set_option linter.unusedVariables false
def patterns_Violates.f (l0 : List (List Int)) : Option (List Int × Bool × Int) := some (vioF l0)
theorem R_of_row {w w' : World} {A : Option Nat} {c : Nat} {l : List Int} (hmem : Mem w w' [.row 3 1 (sc (Value.int .i64)) A c l]) : Kd.R (Kd.int .i64) 3 w' w.heap.size (fun _ => True) (rowV A l.length c) l := by
  have h0 : RowOk 3 1 (sc (Value.int .i64)) A c l w' := hmem.ok _ (List.mem_cons_self ..)
  have h2 := ownsRow_of (B := w.heap.size) h0 (fun k hk => (hmem.bd _ (List.mem_cons_self ..) k hk).1)
  rw [flat_int] at h2
  exact Kd.R_of_own h2 (fun _ _ => trivial)
theorem patterns_Violates.calls (A0 : Option Addr) (c0 : Nat) (l0 : List (List Int)) (r1 : List Int) (r2 : Bool) (r3 : Int) (w : World) (hr0 : Kd.C (Kd.slice 3 (Kd.int .i64)) w A0 l0.length l0) (hc0 : l0.length ≤ c0) (h : patterns_Violates.f l0 = some (r1, r2, r3)) :
    Calls Try.prog 20 #[.slice A0 l0.length c0] w fun e w' => ∃ v0_ : Value, e = .returned (.tuple #[v0_, .bool r2, .int .i64 r3]) ∧ Kd.R (Kd.int .i64) 3 w' w.heap.size (fun _ => True) v0_ r1 ∧ Below w.heap.size w w' := by
  have hv : vioF l0 = (r1, r2, r3) := Option.some.inj h
  refine (vio_rets A0 c0 l0 w hr0 hc0).mono ?_
  rintro e w' ⟨u, rfl, Rs, hp, hmem⟩
  unfold vioPost at hp
  rw [hv] at hp
  obtain ⟨A, c, rfl, rfl⟩ := hp
  exact ⟨_, rfl, R_of_row hmem, hmem.below⟩
end Go.Proofs.Ytecgklfcblpkdaa.P
