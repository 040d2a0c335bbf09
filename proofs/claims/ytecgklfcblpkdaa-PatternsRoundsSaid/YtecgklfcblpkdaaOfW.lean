/- patterns.Of: walk. -/
import Derived.Test.YtecgklfcblpkdaaOfP
import Derived.Test.YtecgklfcblpkdaaXDrawE
import Derived.Test.YtecgklfcblpkdaaXCallF
namespace Go.Proofs.Ytecgklfcblpkdaa.P
open Go.RowKit Go.Proofs.YtecgklfcblpkdaaW.PrintWords Go.Proofs.YtecgklfcblpkdaaW.PrintLast Go.Proofs.YtecgklfcblpkdaaW.PrintMore
open XW RegInv
attribute [local irreducible] Addr.add
set_option linter.unusedSimpArgs false
set_option linter.unusedVariables false

theorem C_flat {α : Type} {d : Kd α} {enc : α → List Value} (ho : ∀ {w x cs}, d.K w x cs → cs = enc x) {w : World} {A : Option Addr} {n : Nat} {xs : List α} (h : Kd.C d w A n xs) (z : α) (k : Nat) (hk : k < n) :
    ∃ ad, A = some ad ∧ ∀ j u, (enc (xs.getD k z))[j]? = some u → w.cell? ((ad.add (k * d.sz)).add j) = some u := by
  obtain ⟨ad, c, hA, _, hK, hc⟩ := Kd.C_get h z (k : Int) (by omega) (by omega)
  rw [Int.toNat_natCast] at hK hc
  obtain rfl := ho hK
  exact ⟨ad, hA, fun j u hj => by rw [addr_add_add]; exact hc j u hj⟩
def enc44 (x : S44) : List Value := [.int .i64 x.f0, .int .i64 x.f1, .int .i64 x.f2]
/-- what a call of Of leaves -/
def ofPost (n : Int) (m : List S44) (u : Value) (Rs : List Res) : Prop :=
  if n < 2 ∨ n > 20 then u = .tuple #[.slice none 0 0, .int .i64 1] ∧ Rs = []
  else if okM n m then ∃ bs A c, bs.length = n.toNat ∧ u = .tuple #[.slice (A.map fun b => ⟨b, 0, none⟩) n.toNat c, .int .i64 0] ∧ Rs = [.row 29 1 (sc (gv (lastR m + 1).toNat)) A c bs, .grid 3 (Value.int .i64) bs (patM n.toNat m)]
  else u = .tuple #[.slice none 0 0, .int .i64 210] ∧ Rs = []
theorem ofPost_no {n : Int} {m : List S44} (h1 : ¬ (n < 2 ∨ n > 20)) (k : Nat) (h2 : ¬ okM n (m.take k)) : ofPost n m (.tuple #[.slice none 0 0, .int .i64 210]) [] := by
  rw [ofPost, if_neg h1, if_neg (fun h => h2 (okM_take h k))]; exact ⟨rfl, rfl⟩
def u32v (x : Nat) : Value := .int .u32 (x : Int)
set_option maxHeartbeats 8000000 in
theorem of_rets (n : Int) (A : Option Addr) (c : Nat) (m : List S44) (w : World) (hr : Kd.C k44 w A m.length m) (hc : m.length ≤ c) (hm : m.length ≤ 9223372036854775807) : Rets Try.prog 12 #[.int .i64 n, .slice A m.length c] w fun u w' => ∃ Rs, ofPost n m u Rs ∧ Mem w w' Rs := by
  have hF := wide_wide
  have hmx := hr.2.1
  refine rets_at (n := 122) Try.func12 rfl Try.ntmps12 (by simp) ?_
  (repeat' (first | ((with_reducible refine is_AL ?_); (first | ((with_reducible refine is_guarded ?_); (first | refine At_guard_t rfl (by decide) rfl ?_ | refine At_guard_f hF rfl (by decide) rfl rfl ?_)) | ((with_reducible refine is_move ?_); (refine At_plain hF (by (first | exact (rfl : _ = some (Value.int _ _)) | exact (rfl : _ = some (Value.bool _)))) ?_)) | ((with_reducible refine is_bin ?_); (refine At_plain hF (by (exact (rfl : _ = some (Value.bool _)))) ?_)) | ((with_reducible refine is_assign ?_); (refine At_plain hF (by (first | exact (rfl : _ = some (Value.int _ _)) | exact (rfl : _ = some (Value.slice _ _ _)))) ?_)) | ((with_reducible refine is_pick ?_); (refine At_plain hF (by (exact (rfl : _ = some (Value.bool _)))) ?_)) | with_reducible refine At_nil ?_)) | ((with_reducible refine is_At ?_); (first | with_reducible refine At_seq ?_; intro K hK | with_reducible refine At_region ?_ | with_reducible refine At_skip ?_ | with_reducible refine At_ret ?_ | with_reducible refine At_then_n ?_ | with_reducible refine At_then_r ?_ | with_reducible refine At_go (by assumption) ?_ | ((with_reducible refine is_cond ?_); (refine At_cond_t rfl ?_)))) | (first | ((with_reducible refine is_guarded ?_); (refine At_guard hF rfl (by decide) rfl ?_ ?_ <;> (intro hg; try (simp only [decide_eq_true_eq, decide_eq_false_iff_not, beq_iff_eq, bne_iff_ne, beq_eq_false_iff_ne, bne_eq_false_iff_eq, ne_eq, Bool.not_eq_true', Bool.not_eq_false', Bool.not_true, Bool.not_false, Decidable.not_not] at hg); try (exfalso; first | omega | exact hg True.intro)))) | ((with_reducible refine is_cond ?_); (refine At_cond rfl ?_ ?_ <;> (intro hg; try (simp only [decide_eq_true_eq, decide_eq_false_iff_not, beq_iff_eq, bne_iff_ne, beq_eq_false_iff_ne, bne_eq_false_iff_eq, ne_eq, Bool.not_eq_true', Bool.not_eq_false', Bool.not_true, Bool.not_false, Decidable.not_not] at hg); try (exfalso; first | omega | exact hg True.intro)))))))
  rotate_left
  rotate_left
  · exact At_ret2 rfl (rv_tmp (by decide)) (rv_tmp (by decide)) (fun w' hw' => ⟨_, rfl, [], by rw [ofPost, if_pos (.inl hg)]; exact ⟨rfl, rfl⟩, hw'⟩)
  · exact At_ret2 rfl (rv_tmp (by decide)) (rv_tmp (by decide)) (fun w' hw' => ⟨_, rfl, [], by rw [ofPost, if_pos (.inr hg)]; exact ⟨rfl, rfl⟩, hw'⟩)
  have h20 : ¬ (n < 2 ∨ n > 20) := by omega
  refine At_alloc (cs := buf (sc u32v) (List.replicate 64 0) []) hF (by exact rfl) ?_
  intro b6
  (repeat (first | ((with_reducible refine is_AL ?_); (first | ((with_reducible refine is_move ?_); (refine At_plain hF (by (first | exact (rfl : _ = some (Value.int _ _)) | exact (rfl : _ = some (Value.slice _ _ _)))) ?_)) | ((with_reducible refine is_assign ?_); (refine At_plain hF (by (exact (rfl : _ = some (Value.int _ _)))) ?_)) | ((with_reducible refine is_call ?_); (refine At_len hF rfl ?_)) | with_reducible refine At_nil ?_)) | ((with_reducible refine is_At ?_); (first | with_reducible refine At_seq ?_; intro K hK | with_reducible refine At_block ?_ | with_reducible refine At_region ?_ | with_reducible refine At_then_n ?_ | with_reducible refine At_go (by assumption) ?_))))
  refine At_loop (fun st : Nat × List Nat × Int => [(0, .int .i64 n), (1, .slice A m.length c), (4, .slice none 0 0), (6, .pointer (some ⟨b6, 0, none⟩)), (7, .int .i64 st.2.2), (19, .slice A m.length c), (20, .int .i64 m.length), (21, .int .i64 st.1)])
    (fun st => [.obj b6 (.cells (buf (sc u32v) st.2.1 []) 55)]) (fun st => st.1 ≤ m.length ∧ okM n (m.take st.1) ∧ Rep st.2.1 (ks (m.take st.1)) ∧ st.2.2 = lastR (m.take st.1)) (fun st => m.length - st.1) (0, List.replicate 64 0, -1) ?_ ?_ ⟨Nat.zero_le _, okM_nil n, rep_nil, rfl⟩ ?_
  · (repeat (first | exact List.Sublist.refl _ | exact List.Sublist.slnil | refine List.Sublist.cons_cons _ ?_ | refine List.Sublist.cons _ ?_))
  · (repeat (first | exact True.intro | (refine And.intro ?_ ?_; focus (show _ = (_ : Value); first | exact rfl | (refine Eq.trans (b := Value.int IntKind.i64 _) rfl (congrArg (Value.int IntKind.i64) ?_); omega)))))
  rintro ⟨k, plays, last⟩ ⟨hk, hok, hrep, hlast⟩ K hL ρ0
  simp only at hk hok hrep hlast
  try dsimp only
  (repeat (first | ((with_reducible refine is_AL ?_); (first | ((with_reducible refine is_bin ?_); (refine At_plain hF (by (exact (rfl : _ = some (Value.bool _)))) ?_)) | with_reducible refine At_nil ?_)) | ((with_reducible refine is_At ?_); (first | with_reducible refine At_seq ?_; intro K hK | with_reducible refine At_region ?_ | with_reducible refine At_then_n ?_ | with_reducible refine At_go (by assumption) ?_))))
  ((with_reducible refine is_cond ?_); (refine At_cond rfl ?_ ?_ <;> (intro hg; try (simp only [decide_eq_true_eq, decide_eq_false_iff_not, beq_iff_eq, bne_iff_ne, beq_eq_false_iff_ne, bne_eq_false_iff_eq, ne_eq, Bool.not_eq_true', Bool.not_eq_false', Bool.not_true, Bool.not_false, Decidable.not_not] at hg); try (exfalso; first | omega | exact hg True.intro))))
  · have hlt : k < m.length := by omega
    (repeat ((with_reducible refine is_At ?_); (first | with_reducible refine At_seq ?_; intro K hK | with_reducible refine At_block ?_ | with_reducible refine At_region ?_ | with_reducible refine At_skip ?_ | with_reducible refine At_then_n ?_ | with_reducible refine At_go (by assumption) ?_)))
    obtain ⟨ad, hA, hcell⟩ := C_flat (enc := enc44) (fun h => k44_open h) hr z44 k hlt
    have htk : m.take (k + 1) = m.take k ++ [m.getD k z44] := take_snocD m k z44 hlt
    generalize m.getD k z44 = x at hcell htk
    have hno : (bad n x ∨ (x.f1, x.f0) ∈ ks (m.take k) ∨ (x.f2, x.f0) ∈ ks (m.take k)) → ofPost n m (.tuple #[.slice none 0 0, .int .i64 210]) [] := fun h => ofPost_no h20 (k + 1) (by
      rw [htk, okM_snoc hok]; rintro ⟨h1, h2, h3⟩
      rcases h with h | h | h
      · exact h1 h
      · exact h2 h
      · exact h3 h)
    refine At_indexC (k := k) hF (by exact rfl) hA (by exact rfl) (by omega) ?_
    refine At_loadCS (vs := [.int .i64 x.f0, .int .i64 x.f1, .int .i64 x.f2]) hF (by exact rfl) (by exact rfl) hcell ?_
    clear hA hcell
    ((repeat (first | ((with_reducible refine is_AL ?_); (first | ((with_reducible refine is_move ?_); (refine At_plain hF (by (exact (rfl : _ = some (Value.bool _)))) ?_)) | ((with_reducible refine is_bin ?_); (refine At_plain hF (by (exact (rfl : _ = some (Value.bool _)))) ?_)) | ((with_reducible refine is_field ?_); (refine At_field hF rfl ?_)) | ((with_reducible refine is_load ?_); (refine At_load hF 0 rfl rfl (by (exact (rfl : _ = some (Value.int _ _)))) ?_)) | ((with_reducible refine is_store ?_); (refine At_storeB_0 hF rfl rfl rfl rfl (by simp [Value.one1, epair]) ?_)) | with_reducible refine At_nil ?_)) | ((with_reducible refine is_At ?_); (first | with_reducible refine At_seq ?_; intro K hK | with_reducible refine At_region ?_ | with_reducible refine At_then_n ?_ | with_reducible refine At_go (by assumption) ?_)))); ((with_reducible refine is_alloc ?_); (refine At_alloc hF (by (exact (rfl : _ = List.toArray (_ :: _)))) ?_; intro b9)); (repeat (first | ((with_reducible refine is_AL ?_); (first | ((with_reducible refine is_move ?_); (refine At_plain hF (by (exact (rfl : _ = some (Value.bool _)))) ?_)) | ((with_reducible refine is_bin ?_); (refine At_plain hF (by (exact (rfl : _ = some (Value.bool _)))) ?_)) | ((with_reducible refine is_field ?_); (refine At_field hF rfl ?_)) | ((with_reducible refine is_load ?_); (refine At_load hF 0 rfl rfl (by (exact (rfl : _ = some (Value.int _ _)))) ?_)) | ((with_reducible refine is_store ?_); (refine At_storeB_0 hF rfl rfl rfl rfl (by simp [Value.one1, epair]) ?_)) | with_reducible refine At_nil ?_)) | ((with_reducible refine is_At ?_); (first | with_reducible refine At_seq ?_; intro K hK | with_reducible refine At_region ?_ | with_reducible refine At_then_n ?_ | with_reducible refine At_go (by assumption) ?_)))))
    (repeat' (first | ((with_reducible refine is_AL ?_); (first | ((with_reducible refine is_guarded ?_); (first | refine At_guard_t rfl (by decide) rfl ?_ | refine At_guard_f hF rfl (by decide) rfl rfl ?_)) | ((with_reducible refine is_move ?_); (refine At_plain hF (by (first | exact (rfl : _ = some (Value.int _ _)) | exact (rfl : _ = some (Value.bool _)))) ?_)) | ((with_reducible refine is_bin ?_); (refine At_plain hF (by (exact (rfl : _ = some (Value.bool _)))) ?_)) | ((with_reducible refine is_assign ?_); (refine At_plain hF (by (first | exact (rfl : _ = some (Value.int _ _)) | exact (rfl : _ = some (Value.slice _ _ _)))) ?_)) | ((with_reducible refine is_pick ?_); (refine At_plain hF (by (exact (rfl : _ = some (Value.bool _)))) ?_)) | ((with_reducible refine is_field ?_); (refine At_field hF rfl ?_)) | ((with_reducible refine is_load ?_); (refine At_load hF 0 rfl rfl (by (exact (rfl : _ = some (Value.int _ _)))) ?_)) | with_reducible refine At_nil ?_)) | ((with_reducible refine is_At ?_); (first | with_reducible refine At_seq ?_; intro K hK | with_reducible refine At_region ?_ | with_reducible refine At_skip ?_ | with_reducible refine At_ret ?_ | with_reducible refine At_then_n ?_ | with_reducible refine At_then_r ?_ | with_reducible refine At_inb_r ?_ | with_reducible refine At_go (by assumption) ?_ | ((with_reducible refine is_cond ?_); (refine At_cond_t rfl ?_)))) | (first | ((with_reducible refine is_guarded ?_); (refine At_guard hF rfl (by decide) rfl ?_ ?_ <;> (intro hg; try (simp only [decide_eq_true_eq, decide_eq_false_iff_not, beq_iff_eq, bne_iff_ne, beq_eq_false_iff_ne, bne_eq_false_iff_eq, ne_eq, Bool.not_eq_true', Bool.not_eq_false', Bool.not_true, Bool.not_false, Decidable.not_not] at hg); try (exfalso; first | omega | exact hg True.intro)))) | ((with_reducible refine is_cond ?_); (refine At_cond rfl ?_ ?_ <;> (intro hg; try (simp only [decide_eq_true_eq, decide_eq_false_iff_not, beq_iff_eq, bne_iff_ne, beq_eq_false_iff_ne, bne_eq_false_iff_eq, ne_eq, Bool.not_eq_true', Bool.not_eq_false', Bool.not_true, Bool.not_false, Decidable.not_not] at hg); try (exfalso; first | omega | exact hg True.intro)))))))
    all_goals try (exact At_ret2 rfl (rv_tmp (by decide)) (rv_tmp (by decide)) (At.sub (List.nil_sublist _) (fun w' hw' => ⟨_, rfl, [], hno (.inl (by unfold bad; omega)), hw'⟩)))
    have hnb : ¬ bad n x := by unfold bad; omega
    obtain ⟨xr, xh, xa⟩ := x
    simp only at *
    obtain ⟨r, rfl⟩ : ∃ r : Nat, xr = r := ⟨xr.toNat, by omega⟩
    obtain ⟨h, rfl⟩ : ∃ h : Nat, xh = h := ⟨xh.toNat, by omega⟩
    obtain ⟨a, rfl⟩ : ∃ a : Nat, xa = a := ⟨xa.toNat, by omega⟩
    have hh20 : h < 20 := by omega
    have ha20 : a < 20 := by omega
    have hr64 : r < 64 := by omega
    have hph : 1 * 2 ^ h < 1048576 := by rw [Nat.one_mul]; exact Nat.pow_lt_pow_right (n := 20) (by decide) hh20
    have hpa : 1 * 2 ^ a < 1048576 := by rw [Nat.one_mul]; exact Nat.pow_lt_pow_right (n := 20) (by decide) ha20
    have hpb := both_lt hh20 ha20
    have hpl := hrep.1
    have hpr : plays.getD r default < 1048576 := hrep.2.1 r hr64
    have hbh : (plays.getD r default).testBit h = true ↔ ((h : Int), (r : Int)) ∈ ks (m.take k) := hrep.2.2 r h hr64 hh20
    have hba : (plays.getD r default).testBit a = true ↔ ((a : Int), (r : Int)) ∈ ks (m.take k) := hrep.2.2 r a hr64 ha20
    have hrs := rep_snoc hrep hr64 hh20 ha20
    have hpo : plays.getD r default ||| (1 * 2 ^ h ||| 1 * 2 ^ a) < 1048576 := Nat.or_lt_two_pow (n := 20) hpr hpb
    refine At_draw hF 7 (by kernel_rfl) (by decide +kernel) ?_; simp only [List.take_succ_cons, List.take_zero, List.drop_succ_cons, List.drop_zero]; (repeat ((with_reducible refine is_AQc ?_); refine AQ_cons (by intro K Q hK; (repeat (first | ((with_reducible refine is_field ?_); (refine At_field hF rfl ?_)) | ((with_reducible refine is_load ?_); (refine At_load hF 0 rfl rfl (by (exact (rfl : _ = some (Value.int _ _)))) ?_)))); exact At_nilK hK) ?_))
    refine AQ_cons (by intro K Q hK; refine At_shl (a := 1) (b := h) hF (by exact rfl) (by exact rfl) (by omega) (by omega) ?_; exact At_nilK hK) ?_
    (repeat ((with_reducible refine is_AQc ?_); refine AQ_cons (by intro K Q hK; (repeat (first | ((with_reducible refine is_field ?_); (refine At_field hF rfl ?_)) | ((with_reducible refine is_load ?_); (refine At_load hF 0 rfl rfl (by (exact (rfl : _ = some (Value.int _ _)))) ?_)))); exact At_nilK hK) ?_))
    refine AQ_cons (by intro K Q hK; refine At_shl (a := 1) (b := a) hF (by exact rfl) (by exact rfl) (by omega) (by omega) ?_; exact At_nilK hK) ?_
    (repeat ((with_reducible refine is_AQc ?_); refine AQ_cons (by intro K Q hK; skip; exact At_nilK hK) ?_))
    refine AQ_cons (by intro K Q hK; refine At_or (a := 1 * 2 ^ h) (b := 1 * 2 ^ a) hF (by exact rfl) (by exact rfl) (by omega) (by omega) ?_; exact At_nilK hK) ?_
    (repeat ((with_reducible refine is_AQc ?_); refine AQ_cons (by intro K Q hK; skip; exact At_nilK hK) ?_)); refine AQ_done ?_
    have hane := and_ne (h := h) (a := a) hpr
    generalize 1 * 2 ^ h ||| 1 * 2 ^ a = both at *
    (repeat (first | ((with_reducible refine is_AL ?_); (first | ((with_reducible refine is_move ?_); (refine At_plain hF (by (exact (rfl : _ = some (Value.int _ _)))) ?_)) | ((with_reducible refine is_assign ?_); (refine At_plain hF (by (exact (rfl : _ = some (Value.int _ _)))) ?_)) | ((with_reducible refine is_field ?_); (refine At_field hF rfl ?_)) | ((with_reducible refine is_load ?_); (first | refine At_load hF 0 rfl rfl (by (exact (rfl : _ = some (Value.int _ _)))) ?_ | refine At_load hF 1 rfl rfl (by (exact buf_getI _ (by omega))) ?_)) | ((with_reducible refine is_index ?_); (refine At_indexA1 hF rfl rfl rfl rfl (by first | decide | (simp only [TArr.m]; omega)) ?_)) | with_reducible refine At_nil ?_)) | ((with_reducible refine is_At ?_); (first | with_reducible refine At_seq ?_; intro K hK | with_reducible refine At_region ?_ | with_reducible refine At_then_n ?_ | with_reducible refine At_go (by assumption) ?_))))
    refine At_and (a := plays.getD r default) (b := both) hF (by exact rfl) (by exact rfl) (by omega) (by omega) ?_
    (repeat (first | ((with_reducible refine is_AL ?_); (first | ((with_reducible refine is_bin ?_); (refine At_plain hF (by (exact (rfl : _ = some (Value.bool _)))) ?_)) | with_reducible refine At_nil ?_)) | ((with_reducible refine is_At ?_); (first | with_reducible refine At_then_n ?_ | with_reducible refine At_go (by assumption) ?_))))
    ((with_reducible refine is_cond ?_); (refine At_cond rfl ?_ ?_ <;> (intro hg; try (simp only [decide_eq_true_eq, decide_eq_false_iff_not, beq_iff_eq, bne_iff_ne, beq_eq_false_iff_ne, bne_eq_false_iff_eq, ne_eq, Bool.not_eq_true', Bool.not_eq_false', Bool.not_true, Bool.not_false, Decidable.not_not] at hg); try (exfalso; first | omega | exact hg True.intro))))
    · have hc := hane.1 (by omega)
      (repeat (first | ((with_reducible refine is_AL ?_); (first | ((with_reducible refine is_assign ?_); (refine At_plain hF (by (first | exact (rfl : _ = some (Value.int _ _)) | exact (rfl : _ = some (Value.slice _ _ _)))) ?_)) | with_reducible refine At_nil ?_)) | ((with_reducible refine is_At ?_); (first | with_reducible refine At_seq ?_; intro K hK | with_reducible refine At_region ?_ | with_reducible refine At_ret ?_ | with_reducible refine At_then_n ?_ | with_reducible refine At_then_r ?_ | with_reducible refine At_inb_r ?_ | with_reducible refine At_go (by assumption) ?_))))
      exact At_ret2 rfl (rv_tmp (by decide)) (rv_tmp (by decide)) (At.sub (List.nil_sublist _) (fun w' hw' => ⟨_, rfl, [], hno (.inr (hc.imp hbh.1 hba.1)), hw'⟩))
    · have hnc : ¬ ((plays.getD r default).testBit h = true ∨ (plays.getD r default).testBit a = true) := fun hc => by
        have := hane.2 hc; omega
      have hok1 : okM n (m.take (k + 1)) := by
        rw [htk, okM_snoc hok]
        exact ⟨hnb, fun hc => hnc (.inl (hbh.2 hc)), fun hc => hnc (.inr (hba.2 hc))⟩
      (repeat (first | ((with_reducible refine is_AL ?_); (first | ((with_reducible refine is_move ?_); (refine At_plain hF (by (exact (rfl : _ = some (Value.int _ _)))) ?_)) | ((with_reducible refine is_field ?_); (refine At_field hF rfl ?_)) | ((with_reducible refine is_load ?_); (first | refine At_load hF 0 rfl rfl (by (exact (rfl : _ = some (Value.int _ _)))) ?_ | refine At_load hF 1 rfl rfl (by (exact buf_getI _ (by omega))) ?_)) | ((with_reducible refine is_index ?_); (refine At_indexA1 hF rfl rfl rfl rfl (by first | decide | (simp only [TArr.m]; omega)) ?_)))) | ((with_reducible refine is_At ?_); (first | with_reducible refine At_seq ?_; intro K hK | with_reducible refine At_region ?_ | with_reducible refine At_skip ?_ | with_reducible refine At_then_n ?_ | with_reducible refine At_go (by assumption) ?_))))
      refine At_or (a := plays.getD r default) (b := both) hF (by exact rfl) (by exact rfl) (by omega) (by omega) ?_
      (repeat (first | ((with_reducible refine is_AL ?_); (first | ((with_reducible refine is_move ?_); (refine At_plain hF (by (exact (rfl : _ = some (Value.int _ _)))) ?_)) | ((with_reducible refine is_bin ?_); ((with_reducible refine is_badd ?_); (refine At_add hF rfl rfl (by omega) ?_))) | ((with_reducible refine is_assign ?_); (refine At_plain hF (by (exact (rfl : _ = some (Value.int _ _)))) ?_)) | ((with_reducible refine is_call ?_); (refine At_max hF rfl rfl ?_)) | ((with_reducible refine is_field ?_); (refine At_field hF rfl ?_)) | ((with_reducible refine is_load ?_); (refine At_load hF 0 rfl rfl (by (exact (rfl : _ = some (Value.int _ _)))) ?_)) | ((with_reducible refine is_index ?_); (refine At_indexA1 hF rfl rfl rfl rfl (by first | decide | (simp only [TArr.m]; omega)) ?_)) | ((with_reducible refine is_store ?_); (refine At_store_1 hF rfl (by (exact (rfl : _ = (Value.int _ _)))) (by (simp [buf_size1]; omega)) (by exact rfl) (by exact rfl) (by (exact buf_set1 _ (by omega))) ?_)) | with_reducible refine At_nil ?_)) | ((with_reducible refine is_At ?_); (first | with_reducible refine At_region ?_ | with_reducible refine At_then_n ?_ | with_reducible refine At_inb_n ?_ | with_reducible refine At_go (by assumption) ?_))))
      refine At.sub ?_ (hL (k + 1, plays.set r (plays.getD r default ||| both), max last r) _ ⟨hlt, hok1, by rw [htk, ks_app]; exact hrs, by simp only; rw [htk, lastR, List.foldl_append, hlast]; rfl⟩ (by simp only; omega) ?_)
      · (repeat (first | exact List.Sublist.refl _ | exact List.Sublist.slnil | refine List.Sublist.cons_cons _ ?_ | refine List.Sublist.cons _ ?_))
      · (repeat (first | exact True.intro | (refine And.intro ?_ ?_; focus (show _ = (_ : Value); first | exact rfl | (refine Eq.trans (b := Value.int IntKind.i64 _) rfl (congrArg (Value.int IntKind.i64) ?_); omega)))))
  · obtain rfl : k = m.length := by omega
    rw [List.take_length] at hok hlast
    have hbd := last_bd m (fun x hx => by have := hok.1 x hx; unfold bad at this; omega) (-1) (by omega) (by omega)
    obtain ⟨R, hR⟩ : ∃ R : Nat, lastR m + 1 = R := ⟨(lastR m + 1).toNat, by have := hbd.1.1; unfold lastR; omega⟩
    have hR64 : R ≤ 64 := by have := hbd.1.2; unfold lastR at hR; omega
    have hxr : ∀ x ∈ m, x.f0 < R := fun x hx => by have := hbd.2.2 x hx; unfold lastR at hR; omega
    obtain ⟨N, rfl⟩ : ∃ N : Nat, n = N := ⟨n.toNat, by omega⟩
    obtain rfl : last = (R : Int) - 1 := by omega
    have hpost : ∀ u Rs, (∃ bs A c, bs.length = N ∧ u = .tuple #[.slice (A.map fun b => ⟨b, 0, none⟩) N c, .int .i64 0] ∧ Rs = [.row 29 1 (sc (gv R)) A c bs, .grid 3 (Value.int .i64) bs (m.foldl setP (Z0 R N))]) → ofPost N m u Rs := by
      intro u Rs h
      rw [ofPost, if_neg h20, if_pos hok, Int.toNat_natCast, patM, hR, Int.toNat_natCast]
      exact h
    (repeat (first | ((with_reducible refine is_AL ?_); (first | ((with_reducible refine is_move ?_); (refine At_plain hF (by (exact (rfl : _ = some (Value.int _ _)))) ?_)) | with_reducible refine At_nil ?_)) | ((with_reducible refine is_At ?_); (first | with_reducible refine At_seq ?_; intro K hK | with_reducible refine At_block ?_ | with_reducible refine At_region ?_ | with_reducible refine At_exit ?_ | with_reducible refine At_then_n ?_ | with_reducible refine At_then_e ?_ | with_reducible refine At_inb_e rfl ?_ | with_reducible refine At_go (by assumption) ?_))))
    refine At.newNil 29 1 (sc (gv R)) (fun _ => rfl) ?_
    refine At.gridNew 3 (Value.int .i64) ?_
    refine At_loop (fun st : Nat × List Nat × Option Nat × Nat => [(0, .int .i64 N), (1, .slice A m.length c), (4, .slice (st.2.2.1.map fun b => ⟨b, 0, none⟩) st.1 st.2.2.2), (7, .int .i64 ((R : Int) - 1)), (88, .int .i64 N), (89, .int .i64 st.1)])
      (fun st => [.grid 3 (Value.int .i64) st.2.1 (Z0 R st.1), .row 29 1 (sc (gv R)) st.2.2.1 st.2.2.2 st.2.1]) (fun st => st.1 ≤ N ∧ st.2.1.length = st.1) (fun st => N - st.1) (0, [], none, 0) ?_ ?_ ⟨Nat.zero_le _, rfl⟩ ?_
    · (repeat (first | exact List.Sublist.refl _ | exact List.Sublist.slnil | refine List.Sublist.cons_cons _ ?_ | refine List.Sublist.cons _ ?_))
    · (repeat (first | exact True.intro | (refine And.intro ?_ ?_; focus (show _ = (_ : Value); first | exact rfl | (refine Eq.trans (b := Value.int IntKind.i64 _) rfl (congrArg (Value.int IntKind.i64) ?_); omega)))))
    rintro ⟨i, bs, Ao, co⟩ ⟨hi, hbs⟩ K hL ρ1
    simp only at hi hbs
    try dsimp only
    (repeat (first | ((with_reducible refine is_AL ?_); (first | ((with_reducible refine is_bin ?_); (refine At_plain hF (by (exact (rfl : _ = some (Value.bool _)))) ?_)) | with_reducible refine At_nil ?_)) | ((with_reducible refine is_At ?_); (first | with_reducible refine At_seq ?_; intro K hK | with_reducible refine At_region ?_ | with_reducible refine At_then_n ?_ | with_reducible refine At_go (by assumption) ?_))))
    ((with_reducible refine is_cond ?_); (refine At_cond rfl ?_ ?_ <;> (intro hg; try (simp only [decide_eq_true_eq, decide_eq_false_iff_not, beq_iff_eq, bne_iff_ne, beq_eq_false_iff_ne, bne_eq_false_iff_eq, ne_eq, Bool.not_eq_true', Bool.not_eq_false', Bool.not_true, Bool.not_false, Decidable.not_not] at hg); try (exfalso; first | omega | exact hg True.intro))))
    · have hlt : i < N := by omega
      (repeat (first | ((with_reducible refine is_AL ?_); (first | ((with_reducible refine is_move ?_); (refine At_plain hF (by (first | exact (rfl : _ = some (Value.int _ _)) | exact (rfl : _ = some (Value.slice _ _ _)))) ?_)) | ((with_reducible refine is_bin ?_); ((with_reducible refine is_badd ?_); (refine At_add hF rfl rfl (by omega) ?_))))) | ((with_reducible refine is_At ?_); (first | with_reducible refine At_seq ?_; intro K hK | with_reducible refine At_block ?_ | with_reducible refine At_region ?_ | with_reducible refine At_skip ?_ | with_reducible refine At_then_n ?_ | with_reducible refine At_go (by assumption) ?_))))
      rw [show (R : Int) - 1 + 1 = R by omega]
      (refine At_make hF (Value.int .i64) 0 rfl rfl rfl rfl (by exact rfl) (by exact rfl) (by simp only [TS.bytes] <;> omega) (by omega) ?_; intro bi)
      (skip; ((with_reducible refine is_bslice ?_); (refine At_slice1_1 hF (by decide) (by (exact (rfl : _ = (Value.slice _ _ _)))) rfl ?_; intro bl)); skip)
      refine At_append_3 hF 0 rfl rfl (by simp [hbs]) rfl (x0 := bi) rfl (by decide) (by simp [Value.one1]) (by simp only [TS.bytes]; omega) (by omega) ?_
      intro A2 c2
      (repeat (first | ((with_reducible refine is_AL ?_); (first | ((with_reducible refine is_move ?_); (refine At_plain hF (by (exact (rfl : _ = some (Value.int _ _)))) ?_)) | ((with_reducible refine is_bin ?_); ((with_reducible refine is_badd ?_); (refine At_add hF rfl rfl (by omega) ?_))) | ((with_reducible refine is_assign ?_); (refine At_plain hF (by (exact (rfl : _ = some (Value.slice _ _ _)))) ?_)) | with_reducible refine At_nil ?_)) | ((with_reducible refine is_At ?_); (first | with_reducible refine At_region ?_ | with_reducible refine At_then_n ?_ | with_reducible refine At_inb_n ?_ | with_reducible refine At_go (by assumption) ?_))))
      (refine At.pick [1, 2, 3] (by decide) (R' := [_, _, _]) rfl ?_)
      refine At.gridPush ?_
      rw [hbs, show Z0 R i ++ [List.replicate R 0] = Z0 R (i + 1) from (List.replicate_succ' ..).symm]
      refine At.sub ?_ (hL (i + 1, bs ++ [bi], A2, c2) _ ⟨hlt, by simp [hbs]⟩ (by simp only; omega) ?_)
      · (repeat (first | exact List.Sublist.refl _ | exact List.Sublist.slnil | refine List.Sublist.cons_cons _ ?_ | refine List.Sublist.cons _ ?_))
      · (repeat (first | exact True.intro | (refine And.intro ?_ ?_; focus (show _ = (_ : Value); first | exact rfl | (refine Eq.trans (b := Value.int IntKind.i64 _) rfl (congrArg (Value.int IntKind.i64) ?_); omega)))))
    · obtain rfl : i = N := by omega
      refine At_rowSome 1 rfl (by omega) ?_
      rintro bo rfl
      (repeat (first | ((with_reducible refine is_AL ?_); (first | ((with_reducible refine is_move ?_); (refine At_plain hF (by (first | exact (rfl : _ = some (Value.int _ _)) | exact (rfl : _ = some (Value.slice _ _ _)))) ?_)) | ((with_reducible refine is_call ?_); (refine At_len hF rfl ?_)) | with_reducible refine At_nil ?_)) | ((with_reducible refine is_At ?_); (first | with_reducible refine At_seq ?_; intro K hK | with_reducible refine At_block ?_ | with_reducible refine At_region ?_ | with_reducible refine At_exit ?_ | with_reducible refine At_then_n ?_ | with_reducible refine At_then_e ?_ | with_reducible refine At_inb_e rfl ?_ | with_reducible refine At_go (by assumption) ?_))))
      refine At_loop (fun st : Nat × List (List Int) => [(0, .int .i64 i), (4, .slice (some ⟨bo, 0, none⟩) i co), (98, .slice A m.length c), (99, .int .i64 m.length), (100, .int .i64 st.1)])
        (fun st => [.grid 3 (Value.int .i64) bs st.2, .row 29 1 (sc (gv R)) (some bo) co bs]) (fun st => st.1 ≤ m.length ∧ st.2 = (m.take st.1).foldl setP (Z0 R i) ∧ Rect R i st.2) (fun st => m.length - st.1) (0, Z0 R i) ?_ ?_ ⟨Nat.zero_le _, rfl, Rect.rep R i⟩ ?_
      · (repeat (first | exact List.Sublist.refl _ | exact List.Sublist.slnil | refine List.Sublist.cons_cons _ ?_ | refine List.Sublist.cons _ ?_))
      · (repeat (first | exact True.intro | (refine And.intro ?_ ?_; focus (show _ = (_ : Value); first | exact rfl | (refine Eq.trans (b := Value.int IntKind.i64 _) rfl (congrArg (Value.int IntKind.i64) ?_); omega)))))
      rintro ⟨k, M⟩ ⟨hk2, hM, hRect⟩ K hI ρ2
      simp only at hk2 hM hRect
      try dsimp only
      (repeat (first | ((with_reducible refine is_AL ?_); (first | ((with_reducible refine is_bin ?_); (refine At_plain hF (by (exact (rfl : _ = some (Value.bool _)))) ?_)) | with_reducible refine At_nil ?_)) | ((with_reducible refine is_At ?_); (first | with_reducible refine At_seq ?_; intro K hK | with_reducible refine At_region ?_ | with_reducible refine At_then_n ?_ | with_reducible refine At_go (by assumption) ?_))))
      ((with_reducible refine is_cond ?_); (refine At_cond rfl ?_ ?_ <;> (intro hg; try (simp only [decide_eq_true_eq, decide_eq_false_iff_not, beq_iff_eq, bne_iff_ne, beq_eq_false_iff_ne, bne_eq_false_iff_eq, ne_eq, Bool.not_eq_true', Bool.not_eq_false', Bool.not_true, Bool.not_false, Decidable.not_not] at hg); try (exfalso; first | omega | exact hg True.intro))))
      · have hlt : k < m.length := by omega
        (repeat ((with_reducible refine is_At ?_); (first | with_reducible refine At_seq ?_; intro K hK | with_reducible refine At_block ?_ | with_reducible refine At_region ?_ | with_reducible refine At_skip ?_ | with_reducible refine At_then_n ?_ | with_reducible refine At_go (by assumption) ?_)))
        obtain ⟨ad, hA, hcell⟩ := C_flat (enc := enc44) (fun h => k44_open h) hr z44 k hlt
        have htk : m.take (k + 1) = m.take k ++ [m.getD k z44] := take_snocD m k z44 hlt
        have hnb := hok.1 _ (getD_mem' (d := z44) hlt)
        have hx0 := hxr _ (getD_mem' (d := z44) hlt)
        generalize m.getD k z44 = x at hcell htk hnb hx0
        unfold bad at hnb
        refine At_indexC (k := k) hF (by exact rfl) hA (by exact rfl) (by omega) ?_
        refine At_loadCS (vs := [.int .i64 x.f0, .int .i64 x.f1, .int .i64 x.f2]) hF (by exact rfl) (by exact rfl) hcell ?_
        clear hA hcell
        ((repeat (first | ((with_reducible refine is_AL ?_); (first | ((with_reducible refine is_store ?_); (refine At_storeB_0 hF rfl rfl rfl rfl (by simp [Value.one1, epair]) ?_)) | with_reducible refine At_nil ?_)) | ((with_reducible refine is_At ?_); (first | with_reducible refine At_then_n ?_ | with_reducible refine At_go (by assumption) ?_)))); ((with_reducible refine is_alloc ?_); (refine At_alloc hF (by (exact (rfl : _ = List.toArray (_ :: _)))) ?_; intro b12)); (repeat (first | ((with_reducible refine is_AL ?_); (first | ((with_reducible refine is_store ?_); (refine At_storeB_0 hF rfl rfl rfl rfl (by simp [Value.one1, epair]) ?_)) | with_reducible refine At_nil ?_)) | ((with_reducible refine is_At ?_); (first | with_reducible refine At_then_n ?_ | with_reducible refine At_go (by assumption) ?_)))))
        obtain ⟨xr, xh, xa⟩ := x
        simp only at hnb hx0
        obtain ⟨r, rfl⟩ : ∃ r : Nat, xr = r := ⟨xr.toNat, by omega⟩
        obtain ⟨h, rfl⟩ : ∃ h : Nat, xh = h := ⟨xh.toNat, by omega⟩
        obtain ⟨a, rfl⟩ : ∃ a : Nat, xa = a := ⟨xa.toNat, by omega⟩
        have hMl := hRect.1
        have hl1 := hRect.get (t := h) (by omega)
        have hl2 := hRect.get (t := a) (by omega)
        have hR2 : Rect R i (setP M ⟨r, h, a⟩) := hRect.pat (by simp only; omega) (by simp only; omega)
        have hsn : (m.take (k + 1)).foldl setP (Z0 R i) = setP M ⟨r, h, a⟩ := by rw [htk, List.foldl_append, ← hM]; rfl
        refine At_open 2 rfl (by omega) ?_
        rintro b junk hbo hj1 hj2 hj3
        cases hbo
        simp only [List.set_cons_succ, List.set_cons_zero]
        refine At_drawE hF 18 [0, 1, 2, 3, 4, 5, 6, 7, 8, 9, 10, 11, 12, 13, 14, 16] [0, 1, 2, 3, 4, 5, 6, 7, 8, 9, 10, 11, 14] [15, 17] ([.obj b12 (.cells #[.int .i64 r, .int .i64 h, .int .i64 a] 44), .obj bo (.cells (buf (sc (gv R)) bs junk) 29)]) (by kernel_rfl) (by decide +kernel) (by decide +kernel) ?_; simp only [List.drop_succ_cons, List.drop_zero]; (repeat ((with_reducible refine is_AQF ?_); first | refine AQF_early (by decide) (by exact (rfl : _ = some (Oper.mk _ _ _ _ _ _))) (by intro K Q hK; (repeat (first | ((with_reducible refine is_move ?_); (refine At_plain hF (by (exact (rfl : _ = some (Value.slice _ _ _)))) ?_)) | ((with_reducible refine is_field ?_); (refine At_field hF rfl ?_)) | ((with_reducible refine is_load ?_); (first | refine At_load hF 0 rfl rfl (by (exact (rfl : _ = some (Value.int _ _)))) ?_ | refine At_load hF 2 rfl rfl (by (exact buf_getI _ (by omega))) ?_)) | ((with_reducible refine is_index ?_); (refine At_indexS1 hF rfl rfl rfl (by omega) ?_)))); exact At_nilK hK) ?_ | refine AQF_late (by decide) (by exact (rfl : _ = some (Oper.mk _ _ _ _ _ _))) (by intro E K Q hK; simp only [List.cons_append, List.nil_append] at hK ⊢; (repeat (first | ((with_reducible refine is_move ?_); (refine At_plain hF (by (exact (rfl : _ = some (Value.slice _ _ _)))) ?_)) | ((with_reducible refine is_field ?_); (refine At_field hF rfl ?_)) | ((with_reducible refine is_load ?_); (first | refine At_load hF 0 rfl rfl (by (exact (rfl : _ = some (Value.int _ _)))) ?_ | refine At_load hF 2 rfl rfl (by (exact buf_getI _ (by omega))) ?_)) | ((with_reducible refine is_index ?_); (refine At_indexS1 hF rfl rfl rfl (by omega) ?_)))); exact At_nilK hK) ?_))
        refine AQF_done ?_
        have hset : setP M ⟨r, h, a⟩ = (M.set h ((M.getD h []).set r 1)).set a (((M.set h ((M.getD h []).set r 1)).getD a []).set r (-1)) := rfl
        have hRect1 : Rect R i (M.set h ((M.getD h []).set r 1)) := hRect.set (by rw [List.length_set]; exact hl1)
        have hM1l := hRect1.1
        have hl3 := hRect1.get (t := a) (by omega)
        (refine WAt_cons ?_ (by exact (rfl : _ = some (Oper.mk _ _ _ _ _ _))) ?_; (focus (repeat (first | exact List.Sublist.refl _ | exact List.Sublist.slnil | refine List.Sublist.cons_cons _ ?_ | refine List.Sublist.cons _ ?_))); intro K Q hK)
        refine At_storeGrid (r := h) (a := (1 : Int)) hF 1 (by exact rfl) (by exact rfl) rfl rfl rfl rfl (by omega) (by omega) ?_
        simp only [List.set_cons_succ, List.set_cons_zero]
        refine At_nilK (hK _ _ ?_)
        generalize M.set h ((M.getD h []).set r 1) = M1 at *
        (refine WAt_cons ?_ (by exact (rfl : _ = some (Oper.mk _ _ _ _ _ _))) ?_; (focus (repeat (first | exact List.Sublist.refl _ | exact List.Sublist.slnil | refine List.Sublist.cons_cons _ ?_ | refine List.Sublist.cons _ ?_))); intro K Q hK)
        refine At_storeGrid (r := a) (a := (-1 : Int)) hF 1 (by exact rfl) (by exact rfl) rfl rfl rfl rfl (by omega) (by omega) ?_
        simp only [List.set_cons_succ, List.set_cons_zero]
        refine At_nilK (hK _ _ ?_)
        rw [← hset]
        (refine WAt_nil ?_ ?_; (focus (repeat (first | exact List.Sublist.refl _ | exact List.Sublist.slnil | refine List.Sublist.cons_cons _ ?_ | refine List.Sublist.cons _ ?_))))
        (repeat (first | ((with_reducible refine is_AL ?_); (first | ((with_reducible refine is_move ?_); (refine At_plain hF (by (exact (rfl : _ = some (Value.int _ _)))) ?_)) | ((with_reducible refine is_bin ?_); ((with_reducible refine is_badd ?_); (refine At_add hF rfl rfl (by omega) ?_))) | with_reducible refine At_nil ?_)) | ((with_reducible refine is_At ?_); (first | with_reducible refine At_region ?_ | with_reducible refine At_then_n ?_ | with_reducible refine At_inb_n ?_ | with_reducible refine At_go (by assumption) ?_))))
        refine At_close 2 rfl (sc_len _) hj1 hj2 hj3 ?_
        refine At.sub ?_ (hI (k + 1, setP M ⟨r, h, a⟩) _ ⟨hlt, hsn.symm, hR2⟩ (by simp only; omega) ?_)
        · (repeat (first | exact List.Sublist.refl _ | exact List.Sublist.slnil | refine List.Sublist.cons_cons _ ?_ | refine List.Sublist.cons _ ?_))
        · (repeat (first | exact True.intro | (refine And.intro ?_ ?_; focus (show _ = (_ : Value); first | exact rfl | (refine Eq.trans (b := Value.int IntKind.i64 _) rfl (congrArg (Value.int IntKind.i64) ?_); omega)))))
      · obtain rfl : k = m.length := by omega
        (repeat (first | ((with_reducible refine is_AL ?_); (first | ((with_reducible refine is_move ?_); (refine At_plain hF (by (exact (rfl : _ = some (Value.slice _ _ _)))) ?_)) | ((with_reducible refine is_assign ?_); (refine At_plain hF (by (first | exact (rfl : _ = some (Value.int _ _)) | exact (rfl : _ = some (Value.slice _ _ _)))) ?_)) | with_reducible refine At_nil ?_)) | ((with_reducible refine is_At ?_); (first | with_reducible refine At_seq ?_; intro K hK | with_reducible refine At_region ?_ | with_reducible refine At_ret ?_ | with_reducible refine At_exit ?_ | with_reducible refine At_then_n ?_ | with_reducible refine At_then_e ?_ | with_reducible refine At_inb_e rfl ?_ | with_reducible refine At_go (by assumption) ?_))))
        refine At_ret2 rfl (rv_tmp (by decide)) (rv_tmp (by decide)) ?_
        rw [List.take_length] at hM
        subst hM
        (refine At.pick [1, 0] (by decide) (R' := [_, _]) rfl ?_)
        exact fun w' hw' => ⟨_, rfl, _, hpost _ _ ⟨bs, some bo, co, hbs, rfl, rfl⟩, hw'⟩
end Go.Proofs.Ytecgklfcblpkdaa.P
