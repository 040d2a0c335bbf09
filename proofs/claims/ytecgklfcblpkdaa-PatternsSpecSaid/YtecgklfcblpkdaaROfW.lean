/- The reference's Of: walk. -/
import Derived.Test.YtecgklfcblpkdaaOfW
import Derived.Test.YtecgklfcblpkdaaRightP
namespace Go.Proofs.Ytecgklfcblpkdaa.P
open Go.RowKit Go.Proofs.YtecgklfcblpkdaaW.PrintWords Go.Proofs.YtecgklfcblpkdaaW.PrintLast Go.Proofs.YtecgklfcblpkdaaW.PrintMore
open XW RegInv
attribute [local irreducible] Addr.add
set_option linter.unusedSimpArgs false
set_option linter.unusedVariables false

theorem E24 : Enters Try.prog 24 := enters Try.func24 (by kernel_rfl) rfl
theorem C44 {w : World} {A : Option Addr} {n : Nat} {m : List S44} (h : Kd.C k44 w A n m) (k : Nat) (hk : k < n) :
    ∃ ad, A = some ad ∧ w.cell? (ad.add (k * 3 + 0)) = some (.int .i64 (m.getD k z44).f0) ∧ w.cell? (ad.add (k * 3 + 1)) = some (.int .i64 (m.getD k z44).f1) ∧ w.cell? (ad.add (k * 3 + 2)) = some (.int .i64 (m.getD k z44).f2) := by
  obtain ⟨ad, hA, hc⟩ := C_flat (enc := enc44) (fun h => k44_open h) h z44 k hk
  refine ⟨ad, hA, ?_, ?_, ?_⟩
  · rw [← addr_add_add]; exact hc 0 _ rfl
  · rw [← addr_add_add]; exact hc 1 _ rfl
  · rw [← addr_add_add]; exact hc 2 _ rfl
theorem right_rets (n : Int) (hn : n ≤ 20) (A : Option Addr) (c : Nat) (m : List S44) (w : World) (hr : Kd.C k44 w A m.length m) (hc : m.length ≤ c) : Rets Try.prog 24 #[.int .i64 n, .slice A m.length c] w fun u w' => u = .bool (decide (okM n m)) ∧ Below w.heap.size w w' := by
  obtain ⟨k, hk⟩ := right_f n hn m
  exact (fastiref21_Right.calls k n A c m _ w hr hc hk).mono (by rintro e w'' ⟨rfl, hb⟩; exact ⟨_, rfl, rfl, hb⟩)
theorem lastF_succ (m : List S44) (s : Int) : m.foldl (fun s x => max s (x.f0 + 1)) (s + 1) = m.foldl lastF s + 1 := by
  induction m generalizing s with
  | nil => rfl
  | cons x m ih =>
    rw [List.foldl_cons, List.foldl_cons, ← ih]
    congr 1
    unfold lastF; omega
set_option maxHeartbeats 8000000 in
theorem rof_rets (n : Int) (A : Option Addr) (c : Nat) (m : List S44) (w : World) (hr : Kd.C k44 w A m.length m) (hc : m.length ≤ c) (hm : m.length ≤ 9223372036854775807) : Rets Try.prog 13 #[.int .i64 n, .slice A m.length c] w fun u w' => ∃ Rs, ofPost n m u Rs ∧ Mem w w' Rs := by
  have hF := wide_wide
  have hmx := hr.2.1
  refine rets_at (n := 83) Try.func13 rfl Try.ntmps13 (by simp) ?_
  (repeat' (first | ((with_reducible refine is_AL ?_); (first | ((with_reducible refine is_guarded ?_); (first | refine At_guard_t rfl (by decide) rfl ?_ | refine At_guard_f hF rfl (by decide) rfl rfl ?_)) | ((with_reducible refine is_move ?_); (refine At_plain hF (by (first | exact (rfl : _ = some (Value.int _ _)) | exact (rfl : _ = some (Value.bool _)) | exact (rfl : _ = some (Value.slice _ _ _)))) ?_)) | ((with_reducible refine is_bin ?_); (refine At_plain hF (by (exact (rfl : _ = some (Value.bool _)))) ?_)) | ((with_reducible refine is_assign ?_); (refine At_plain hF (by (first | exact (rfl : _ = some (Value.int _ _)) | exact (rfl : _ = some (Value.slice _ _ _)))) ?_)) | ((with_reducible refine is_pick ?_); (refine At_plain hF (by (exact (rfl : _ = some (Value.bool _)))) ?_)) | with_reducible refine At_nil ?_)) | ((with_reducible refine is_At ?_); (first | with_reducible refine At_seq ?_; intro K hK | with_reducible refine At_region ?_ | with_reducible refine At_skip ?_ | with_reducible refine At_ret ?_ | with_reducible refine At_then_n ?_ | with_reducible refine At_then_r ?_ | with_reducible refine At_go (by assumption) ?_ | ((with_reducible refine is_cond ?_); (refine At_cond_t rfl ?_)))) | (first | ((with_reducible refine is_guarded ?_); (refine At_guard hF rfl (by decide) rfl ?_ ?_ <;> (intro hg; try (simp only [decide_eq_true_eq, decide_eq_false_iff_not, beq_iff_eq, bne_iff_ne, beq_eq_false_iff_ne, bne_eq_false_iff_eq, ne_eq, Bool.not_eq_true', Bool.not_eq_false', Bool.not_true, Bool.not_false, Decidable.not_not] at hg); try (exfalso; first | omega | exact hg True.intro)))) | ((with_reducible refine is_cond ?_); (refine At_cond rfl ?_ ?_ <;> (intro hg; try (simp only [decide_eq_true_eq, decide_eq_false_iff_not, beq_iff_eq, bne_iff_ne, beq_eq_false_iff_ne, bne_eq_false_iff_eq, ne_eq, Bool.not_eq_true', Bool.not_eq_false', Bool.not_true, Bool.not_false, Decidable.not_not] at hg); try (exfalso; first | omega | exact hg True.intro)))))))
  rotate_left
  rotate_left
  · exact At_ret2 rfl (rv_tmp (by decide)) (rv_tmp (by decide)) (fun w' hw' => ⟨_, rfl, [], by rw [ofPost, if_pos (.inl hg)]; exact ⟨rfl, rfl⟩, hw'⟩)
  · exact At_ret2 rfl (rv_tmp (by decide)) (rv_tmp (by decide)) (fun w' hw' => ⟨_, rfl, [], by rw [ofPost, if_pos (.inr hg)]; exact ⟨rfl, rfl⟩, hw'⟩)
  have h20 : ¬ (n < 2 ∨ n > 20) := by omega
  refine At_callB hF E24 rfl (arg2 (by (first | exact (rfl : _ = (Value.int _ _)) | exact (rfl : _ = (Value.bool _)) | exact (rfl : _ = (Value.pointer _)) | exact (rfl : _ = (Value.slice _ _ _)) | exact (rfl : _ = (Value.map _)) | exact (rfl : _ = (Value.func _ _ _)) | exact (rfl : _ = (Value.tuple _)) | exact (rfl : _ = (Value.agg _)) | exact (rfl : _ = (Value.string _)) | exact (rfl : _ = (Value.nilFunc)) | exact (rfl : _ = (Value.nilIface)))) (by (first | exact (rfl : _ = (Value.int _ _)) | exact (rfl : _ = (Value.bool _)) | exact (rfl : _ = (Value.pointer _)) | exact (rfl : _ = (Value.slice _ _ _)) | exact (rfl : _ = (Value.map _)) | exact (rfl : _ = (Value.func _ _ _)) | exact (rfl : _ = (Value.tuple _)) | exact (rfl : _ = (Value.agg _)) | exact (rfl : _ = (Value.string _)) | exact (rfl : _ = (Value.nilFunc)) | exact (rfl : _ = (Value.nilIface))))) (fun w' hw' => right_rets n (by omega) A c m w' (Kd.C_below hr hw'.below) hc) ?_
  by_cases hok : okM n m
  rotate_left
  · rw [decide_eq_false hok]
    (repeat (first | ((with_reducible refine is_AL ?_); (first | ((with_reducible refine is_move ?_); (refine At_plain hF (by (exact (rfl : _ = some (Value.bool _)))) ?_)) | ((with_reducible refine is_assign ?_); (refine At_plain hF (by (first | exact (rfl : _ = some (Value.int _ _)) | exact (rfl : _ = some (Value.bool _)) | exact (rfl : _ = some (Value.slice _ _ _)))) ?_)) | ((with_reducible refine is_un ?_); (refine At_plain hF (by (exact (rfl : _ = some (Value.bool _)))) ?_)) | with_reducible refine At_nil ?_)) | ((with_reducible refine is_At ?_); (first | with_reducible refine At_seq ?_; intro K hK | with_reducible refine At_region ?_ | with_reducible refine At_ret ?_ | with_reducible refine At_then_n ?_ | with_reducible refine At_then_r ?_ | with_reducible refine At_go (by assumption) ?_ | ((with_reducible refine is_cond ?_); (refine At_cond_t rfl ?_))))))
    exact At_ret2 rfl (rv_tmp (by decide)) (rv_tmp (by decide)) (fun w' hw' => ⟨_, rfl, [], by rw [ofPost, if_neg h20, if_neg hok]; exact ⟨rfl, rfl⟩, hw'⟩)
  rw [decide_eq_true hok]
  have hbd := last_bd m (fun x hx => by have := hok.1 x hx; unfold bad at this; omega) (-1) (by omega) (by omega)
  obtain ⟨R, hR⟩ : ∃ R : Nat, lastR m + 1 = R := ⟨(lastR m + 1).toNat, by have := hbd.1.1; unfold lastR; omega⟩
  have hR64 : R ≤ 64 := by have := hbd.1.2; unfold lastR at hR; omega
  have hxr : ∀ x ∈ m, x.f0 < R := fun x hx => by have := hbd.2.2 x hx; unfold lastR at hR; omega
  obtain ⟨N, rfl⟩ : ∃ N : Nat, n = N := ⟨n.toNat, by omega⟩
  have hpost : ∀ u Rs, (∃ bs A c, bs.length = N ∧ u = .tuple #[.slice (A.map fun b => ⟨b, 0, none⟩) N c, .int .i64 0] ∧ Rs = [.row 29 1 (sc (gv R)) A c bs, .grid 3 (Value.int .i64) bs (m.foldl setP (Z0 R N))]) → ofPost N m u Rs := by
    intro u Rs h
    rw [ofPost, if_neg h20, if_pos hok, Int.toNat_natCast, patM, hR, Int.toNat_natCast]
    exact h
  (repeat (first | ((with_reducible refine is_AL ?_); (first | ((with_reducible refine is_move ?_); (refine At_plain hF (by (exact (rfl : _ = some (Value.bool _)))) ?_)) | ((with_reducible refine is_assign ?_); (refine At_plain hF (by (first | exact (rfl : _ = some (Value.int _ _)) | exact (rfl : _ = some (Value.bool _)))) ?_)) | ((with_reducible refine is_un ?_); (refine At_plain hF (by (exact (rfl : _ = some (Value.bool _)))) ?_)) | with_reducible refine At_nil ?_)) | ((with_reducible refine is_At ?_); (first | with_reducible refine At_seq ?_; intro K hK | with_reducible refine At_block ?_ | with_reducible refine At_region ?_ | with_reducible refine At_skip ?_ | with_reducible refine At_then_n ?_ | with_reducible refine At_go (by assumption) ?_ | ((with_reducible refine is_cond ?_); (refine At_cond_f rfl ?_))))))
  refine At_loop (fun st : Nat × Int => [(0, .int .i64 N), (1, .slice A m.length c), (7, .int .i64 st.2), (8, .int .i64 st.1)]) (fun _ => []) (fun st => st.1 ≤ m.length ∧ st.2 = (m.take st.1).foldl (fun s x => max s (x.f0 + 1)) 0) (fun st => m.length - st.1) (0, 0) ?_ ?_ ⟨Nat.zero_le _, rfl⟩ ?_
  · (repeat (first | exact List.Sublist.refl _ | exact List.Sublist.slnil | refine List.Sublist.cons_cons _ ?_ | refine List.Sublist.cons _ ?_))
  · (repeat (first | exact True.intro | (refine And.intro ?_ ?_; focus (show _ = (_ : Value); first | exact rfl | (refine Eq.trans (b := Value.int IntKind.i64 _) rfl (congrArg (Value.int IntKind.i64) ?_); omega)))))
  rintro ⟨k, s⟩ ⟨hk, hs⟩ K hL ρ0
  simp only at hk hs
  try dsimp only
  (repeat (first | ((with_reducible refine is_AL ?_); (first | ((with_reducible refine is_move ?_); (refine At_plain hF (by (first | exact (rfl : _ = some (Value.int _ _)) | exact (rfl : _ = some (Value.slice _ _ _)))) ?_)) | ((with_reducible refine is_bin ?_); (refine At_plain hF (by (exact (rfl : _ = some (Value.bool _)))) ?_)) | ((with_reducible refine is_call ?_); (refine At_len hF rfl ?_)) | with_reducible refine At_nil ?_)) | ((with_reducible refine is_At ?_); (first | with_reducible refine At_seq ?_; intro K hK | with_reducible refine At_region ?_ | with_reducible refine At_then_n ?_ | with_reducible refine At_go (by assumption) ?_))))
  ((with_reducible refine is_cond ?_); (refine At_cond rfl ?_ ?_ <;> (intro hg; try (simp only [decide_eq_true_eq, decide_eq_false_iff_not, beq_iff_eq, bne_iff_ne, beq_eq_false_iff_ne, bne_eq_false_iff_eq, ne_eq, Bool.not_eq_true', Bool.not_eq_false', Bool.not_true, Bool.not_false, Decidable.not_not] at hg); try (exfalso; first | omega | exact hg True.intro))))
  · have hlt : k < m.length := by omega
    obtain ⟨ad, hA, h0, h1, h2⟩ := C44 hr k hlt
    have hx := hxr _ (getD_mem' (d := z44) hlt)
    have hx2 := hok.1 _ (getD_mem' (d := z44) hlt)
    unfold bad at hx2
    (repeat (first | ((with_reducible refine is_AL ?_); (first | ((with_reducible refine is_move ?_); (refine At_plain hF (by (first | exact (rfl : _ = some (Value.int _ _)) | exact (rfl : _ = some (Value.slice _ _ _)))) ?_)) | ((with_reducible refine is_field ?_); (refine At_fieldC hF rfl ?_)) | ((with_reducible refine is_index ?_); (refine At_indexC hF rfl (by assumption) rfl (by omega) ?_)))) | ((with_reducible refine is_At ?_); (first | with_reducible refine At_seq ?_; intro K hK | with_reducible refine At_block ?_ | with_reducible refine At_region ?_ | with_reducible refine At_skip ?_ | with_reducible refine At_then_n ?_ | with_reducible refine At_go (by assumption) ?_))))
    refine At_loadC hF (by exact rfl) h0 ?_
    (repeat (first | ((with_reducible refine is_AL ?_); (first | ((with_reducible refine is_move ?_); (refine At_plain hF (by (exact (rfl : _ = some (Value.int _ _)))) ?_)) | ((with_reducible refine is_bin ?_); ((with_reducible refine is_badd ?_); (refine At_add hF rfl rfl (by omega) ?_))) | ((with_reducible refine is_assign ?_); (refine At_plain hF (by (exact (rfl : _ = some (Value.int _ _)))) ?_)) | ((with_reducible refine is_call ?_); (refine At_max hF rfl rfl ?_)) | with_reducible refine At_nil ?_)) | ((with_reducible refine is_At ?_); (first | with_reducible refine At_region ?_ | with_reducible refine At_then_n ?_ | with_reducible refine At_inb_n ?_ | with_reducible refine At_go (by assumption) ?_))))
    refine At.sub ?_ (hL (k + 1, max s ((m.getD k z44).f0 + 1)) _ ⟨hlt, by simp only; rw [take_snocD m k z44 hlt, List.foldl_append, ← hs]; rfl⟩ (by simp only; omega) ?_)
    · (repeat (first | exact List.Sublist.refl _ | exact List.Sublist.slnil | refine List.Sublist.cons_cons _ ?_ | refine List.Sublist.cons _ ?_))
    · (repeat (first | exact True.intro | (refine And.intro ?_ ?_; focus (show _ = (_ : Value); first | exact rfl | (refine Eq.trans (b := Value.int IntKind.i64 _) rfl (congrArg (Value.int IntKind.i64) ?_); omega)))))
  · obtain rfl : k = m.length := by omega
    obtain rfl : s = (R : Int) := by
      rw [hs, List.take_length, ← hR, show (0 : Int) = -1 + 1 from rfl, lastF_succ]; rfl
    clear hs hL
    (repeat ((with_reducible refine is_At ?_); (first | with_reducible refine At_seq ?_; intro K hK | with_reducible refine At_region ?_ | with_reducible refine At_exit ?_ | with_reducible refine At_then_n ?_ | with_reducible refine At_then_e ?_ | with_reducible refine At_inb_e rfl ?_ | with_reducible refine At_go (by assumption) ?_)))
    refine At_slice0 hF (sc (gv R)) (fun _ => rfl) ?_
    intro bo
    (repeat (first | ((with_reducible refine is_AL ?_); (first | ((with_reducible refine is_assign ?_); (refine At_plain hF (by (first | exact (rfl : _ = some (Value.int _ _)) | exact (rfl : _ = some (Value.slice _ _ _)))) ?_)) | with_reducible refine At_nil ?_)) | ((with_reducible refine is_At ?_); (first | with_reducible refine At_seq ?_; intro K hK | with_reducible refine At_block ?_ | with_reducible refine At_region ?_ | with_reducible refine At_then_n ?_ | with_reducible refine At_go (by assumption) ?_))))
    refine At.gridNew 3 (Value.int .i64) ?_
    refine At_loop (fun st : Nat × List Nat × Option Nat × Nat => [(0, .int .i64 N), (1, .slice A m.length c), (7, .int .i64 R), (9, .slice (st.2.2.1.map fun b => ⟨b, 0, none⟩) st.1 st.2.2.2), (10, .int .i64 st.1)])
      (fun st => [.grid 3 (Value.int .i64) st.2.1 (Z0 R st.1), .row 29 1 (sc (gv R)) st.2.2.1 st.2.2.2 st.2.1]) (fun st => st.1 ≤ N ∧ st.2.1.length = st.1) (fun st => N - st.1) (0, [], some bo, 0) ?_ ?_ ⟨Nat.zero_le _, rfl⟩ ?_
    · (repeat (first | exact List.Sublist.refl _ | exact List.Sublist.slnil | refine List.Sublist.cons_cons _ ?_ | refine List.Sublist.cons _ ?_))
    · (repeat (first | exact True.intro | (refine And.intro ?_ ?_; focus (show _ = (_ : Value); first | exact rfl | (refine Eq.trans (b := Value.int IntKind.i64 _) rfl (congrArg (Value.int IntKind.i64) ?_); omega)))))
    rintro ⟨i, bs, Ao, co⟩ ⟨hi, hbs⟩ K hL ρ1
    simp only at hi hbs
    try dsimp only
    (repeat (first | ((with_reducible refine is_AL ?_); (first | ((with_reducible refine is_move ?_); (refine At_plain hF (by (exact (rfl : _ = some (Value.int _ _)))) ?_)) | ((with_reducible refine is_bin ?_); (refine At_plain hF (by (exact (rfl : _ = some (Value.bool _)))) ?_)) | with_reducible refine At_nil ?_)) | ((with_reducible refine is_At ?_); (first | with_reducible refine At_seq ?_; intro K hK | with_reducible refine At_region ?_ | with_reducible refine At_then_n ?_ | with_reducible refine At_go (by assumption) ?_))))
    ((with_reducible refine is_cond ?_); (refine At_cond rfl ?_ ?_ <;> (intro hg; try (simp only [decide_eq_true_eq, decide_eq_false_iff_not, beq_iff_eq, bne_iff_ne, beq_eq_false_iff_ne, bne_eq_false_iff_eq, ne_eq, Bool.not_eq_true', Bool.not_eq_false', Bool.not_true, Bool.not_false, Decidable.not_not] at hg); try (exfalso; first | omega | exact hg True.intro))))
    · have hlt : i < N := by omega
      (repeat (first | ((with_reducible refine is_AL ?_); ((with_reducible refine is_move ?_); (refine At_plain hF (by (first | exact (rfl : _ = some (Value.int _ _)) | exact (rfl : _ = some (Value.slice _ _ _)))) ?_))) | ((with_reducible refine is_At ?_); (first | with_reducible refine At_seq ?_; intro K hK | with_reducible refine At_block ?_ | with_reducible refine At_region ?_ | with_reducible refine At_skip ?_ | with_reducible refine At_then_n ?_ | with_reducible refine At_go (by assumption) ?_))))
      (refine At_make hF (Value.int .i64) 0 rfl rfl rfl rfl (by exact rfl) (by exact rfl) (by simp only [TS.bytes] <;> omega) (by omega) ?_; intro bi)
      (skip; ((with_reducible refine is_bslice ?_); (refine At_slice1_1 hF (by decide) (by (exact (rfl : _ = (Value.slice _ _ _)))) rfl ?_; intro bl)); skip)
      refine At_append_3 hF 0 rfl rfl (by simp [hbs]) rfl (x0 := bi) rfl (by decide) (by simp [Value.one1]) (by simp only [TS.bytes]; omega) (by omega) ?_
      intro A2 c2
      (repeat (first | ((with_reducible refine is_AL ?_); (first | ((with_reducible refine is_move ?_); (refine At_plain hF (by (exact (rfl : _ = some (Value.int _ _)))) ?_)) | ((with_reducible refine is_bin ?_); ((with_reducible refine is_badd ?_); (refine At_add hF rfl rfl (by omega) ?_))) | ((with_reducible refine is_assign ?_); (refine At_plain hF (by (first | exact (rfl : _ = some (Value.int _ _)) | exact (rfl : _ = some (Value.slice _ _ _)))) ?_)) | with_reducible refine At_nil ?_)) | ((with_reducible refine is_At ?_); (first | with_reducible refine At_region ?_ | with_reducible refine At_then_n ?_ | with_reducible refine At_inb_n ?_ | with_reducible refine At_go (by assumption) ?_))))
      (refine At.pick [1, 2, 3] (by decide) (R' := [_, _, _]) rfl ?_)
      refine At.gridPush ?_
      rw [hbs, show Z0 R i ++ [List.replicate R 0] = Z0 R (i + 1) from (List.replicate_succ' ..).symm]
      refine At.sub ?_ (hL (i + 1, bs ++ [bi], A2, c2) _ ⟨hlt, by simp [hbs]⟩ (by simp only; omega) ?_)
      · (repeat (first | exact List.Sublist.refl _ | exact List.Sublist.slnil | refine List.Sublist.cons_cons _ ?_ | refine List.Sublist.cons _ ?_))
      · (repeat (first | exact True.intro | (refine And.intro ?_ ?_; focus (show _ = (_ : Value); first | exact rfl | (refine Eq.trans (b := Value.int IntKind.i64 _) rfl (congrArg (Value.int IntKind.i64) ?_); omega)))))
    · obtain rfl : i = N := by omega
      refine At_rowSome 1 rfl (by omega) ?_
      rintro bo rfl
      (repeat (first | ((with_reducible refine is_AL ?_); (first | ((with_reducible refine is_assign ?_); (refine At_plain hF (by (exact (rfl : _ = some (Value.int _ _)))) ?_)) | with_reducible refine At_nil ?_)) | ((with_reducible refine is_At ?_); (first | with_reducible refine At_seq ?_; intro K hK | with_reducible refine At_block ?_ | with_reducible refine At_region ?_ | with_reducible refine At_exit ?_ | with_reducible refine At_then_n ?_ | with_reducible refine At_then_e ?_ | with_reducible refine At_inb_e rfl ?_ | with_reducible refine At_go (by assumption) ?_))))
      refine At_loop (fun st : Nat × List (List Int) => [(1, .slice A m.length c), (9, .slice (some ⟨bo, 0, none⟩) i co), (11, .int .i64 st.1)])
        (fun st => [.grid 3 (Value.int .i64) bs st.2, .row 29 1 (sc (gv R)) (some bo) co bs]) (fun st => st.1 ≤ m.length ∧ st.2 = (m.take st.1).foldl setP (Z0 R i) ∧ Rect R i st.2) (fun st => m.length - st.1) (0, Z0 R i) ?_ ?_ ⟨Nat.zero_le _, rfl, Rect.rep R i⟩ ?_
      · (repeat (first | exact List.Sublist.refl _ | exact List.Sublist.slnil | refine List.Sublist.cons_cons _ ?_ | refine List.Sublist.cons _ ?_))
      · (repeat (first | exact True.intro | (refine And.intro ?_ ?_; focus (show _ = (_ : Value); first | exact rfl | (refine Eq.trans (b := Value.int IntKind.i64 _) rfl (congrArg (Value.int IntKind.i64) ?_); omega)))))
      rintro ⟨k, M⟩ ⟨hk2, hM, hRect⟩ K hI ρ2
      simp only at hk2 hM hRect
      try dsimp only
      (repeat (first | ((with_reducible refine is_AL ?_); (first | ((with_reducible refine is_move ?_); (refine At_plain hF (by (first | exact (rfl : _ = some (Value.int _ _)) | exact (rfl : _ = some (Value.slice _ _ _)))) ?_)) | ((with_reducible refine is_bin ?_); (refine At_plain hF (by (exact (rfl : _ = some (Value.bool _)))) ?_)) | ((with_reducible refine is_call ?_); (refine At_len hF rfl ?_)) | with_reducible refine At_nil ?_)) | ((with_reducible refine is_At ?_); (first | with_reducible refine At_seq ?_; intro K hK | with_reducible refine At_region ?_ | with_reducible refine At_then_n ?_ | with_reducible refine At_go (by assumption) ?_))))
      ((with_reducible refine is_cond ?_); (refine At_cond rfl ?_ ?_ <;> (intro hg; try (simp only [decide_eq_true_eq, decide_eq_false_iff_not, beq_iff_eq, bne_iff_ne, beq_eq_false_iff_ne, bne_eq_false_iff_eq, ne_eq, Bool.not_eq_true', Bool.not_eq_false', Bool.not_true, Bool.not_false, Decidable.not_not] at hg); try (exfalso; first | omega | exact hg True.intro))))
      · have hlt : k < m.length := by omega
        obtain ⟨ad, hA, h0, h1, h2⟩ := C44 hr k hlt
        have htk : m.take (k + 1) = m.take k ++ [m.getD k z44] := take_snocD m k z44 hlt
        have hnb := hok.1 _ (getD_mem' (d := z44) hlt)
        have hx0 := hxr _ (getD_mem' (d := z44) hlt)
        generalize m.getD k z44 = x at h0 h1 h2 htk hnb hx0
        unfold bad at hnb
        obtain ⟨xr, xh, xa⟩ := x
        simp only at hnb hx0 h0 h1 h2
        obtain ⟨r, rfl⟩ : ∃ r : Nat, xr = r := ⟨xr.toNat, by omega⟩
        obtain ⟨h, rfl⟩ : ∃ h : Nat, xh = h := ⟨xh.toNat, by omega⟩
        obtain ⟨a, rfl⟩ : ∃ a : Nat, xa = a := ⟨xa.toNat, by omega⟩
        have hMl := hRect.1
        have hl1 := hRect.get (t := h) (by omega)
        have hl2 := hRect.get (t := a) (by omega)
        have hR2 : Rect R i (setP M ⟨r, h, a⟩) := hRect.pat (by simp only; omega) (by simp only; omega)
        have hsn : (m.take (k + 1)).foldl setP (Z0 R i) = setP M ⟨r, h, a⟩ := by rw [htk, List.foldl_append, ← hM]; rfl
        have hset : setP M ⟨r, h, a⟩ = (M.set h ((M.getD h []).set r 1)).set a (((M.set h ((M.getD h []).set r 1)).getD a []).set r (-1)) := rfl
        have hRect1 : Rect R i (M.set h ((M.getD h []).set r 1)) := hRect.set (by rw [List.length_set]; exact hl1)
        have hM1l := hRect1.1
        have hl3 := hRect1.get (t := a) (by omega)
        refine At_open 1 rfl (by omega) ?_
        rintro b junk hbo hj1 hj2 hj3
        cases hbo
        simp only [List.set_cons_succ, List.set_cons_zero]
        (repeat ((with_reducible refine is_At ?_); (first | with_reducible refine At_seq ?_; intro K hK | with_reducible refine At_block ?_ | with_reducible refine At_skip ?_ | with_reducible refine At_then_n ?_ | with_reducible refine At_go (by assumption) ?_)))
        refine At_draw hF 14 (by kernel_rfl) (by decide +kernel) ?_; simp only [List.take_succ_cons, List.take_zero, List.drop_succ_cons, List.drop_zero]; (repeat ((with_reducible refine is_AQc ?_); refine AQ_cons (by intro K Q hK; (repeat (first | ((with_reducible refine is_move ?_); (refine At_plain hF (by (first | exact (rfl : _ = some (Value.int _ _)) | exact (rfl : _ = some (Value.slice _ _ _)))) ?_)) | ((with_reducible refine is_field ?_); (refine At_fieldC hF rfl ?_)) | ((with_reducible refine is_index ?_); (refine At_indexC hF rfl (by assumption) rfl (by omega) ?_)))); exact At_nilK hK) ?_))
        refine AQ_cons (by intro K Q hK; refine At_loadC hF (by exact rfl) h1 ?_; exact At_nilK hK) ?_
        (repeat ((with_reducible refine is_AQc ?_); refine AQ_cons (by intro K Q hK; (repeat (first | ((with_reducible refine is_move ?_); (refine At_plain hF (by (first | exact (rfl : _ = some (Value.int _ _)) | exact (rfl : _ = some (Value.slice _ _ _)))) ?_)) | ((with_reducible refine is_field ?_); (refine At_fieldC hF rfl ?_)) | ((with_reducible refine is_load ?_); (refine At_load hF 1 rfl rfl (by (exact buf_getI _ (by omega))) ?_)) | ((with_reducible refine is_index ?_); (first | refine At_indexS1 hF rfl rfl rfl (by omega) ?_ | refine At_indexC hF rfl (by assumption) rfl (by omega) ?_)))); exact At_nilK hK) ?_))
        refine AQ_cons (by intro K Q hK; refine At_loadC hF (by exact rfl) h0 ?_; exact At_nilK hK) ?_
        (repeat ((with_reducible refine is_AQc ?_); refine AQ_cons (by intro K Q hK; (repeat ((with_reducible refine is_index ?_); (refine At_indexS1 hF rfl rfl rfl (by omega) ?_))); exact At_nilK hK) ?_)); refine AQ_done ?_
        skip
        refine At_storeGrid (r := h) (a := (1 : Int)) hF 0 (by exact rfl) (by exact rfl) rfl rfl rfl rfl (by omega) (by omega) ?_
        simp only [List.set_cons_succ, List.set_cons_zero]
        generalize M.set h ((M.getD h []).set r 1) = M1 at *
        (repeat (first | ((with_reducible refine is_AL ?_); (with_reducible refine At_nil ?_)) | ((with_reducible refine is_At ?_); (first | with_reducible refine At_then_n ?_ | with_reducible refine At_go (by assumption) ?_))))
        refine At_draw hF 14 (by kernel_rfl) (by decide +kernel) ?_; simp only [List.take_succ_cons, List.take_zero, List.drop_succ_cons, List.drop_zero]; (repeat ((with_reducible refine is_AQc ?_); refine AQ_cons (by intro K Q hK; (repeat (first | ((with_reducible refine is_move ?_); (refine At_plain hF (by (first | exact (rfl : _ = some (Value.int _ _)) | exact (rfl : _ = some (Value.slice _ _ _)))) ?_)) | ((with_reducible refine is_field ?_); (refine At_fieldC hF rfl ?_)) | ((with_reducible refine is_index ?_); (refine At_indexC hF rfl (by assumption) rfl (by omega) ?_)))); exact At_nilK hK) ?_))
        refine AQ_cons (by intro K Q hK; refine At_loadC hF (by exact rfl) h2 ?_; exact At_nilK hK) ?_
        (repeat ((with_reducible refine is_AQc ?_); refine AQ_cons (by intro K Q hK; (repeat (first | ((with_reducible refine is_move ?_); (refine At_plain hF (by (first | exact (rfl : _ = some (Value.int _ _)) | exact (rfl : _ = some (Value.slice _ _ _)))) ?_)) | ((with_reducible refine is_field ?_); (refine At_fieldC hF rfl ?_)) | ((with_reducible refine is_load ?_); (refine At_load hF 1 rfl rfl (by (exact buf_getI _ (by omega))) ?_)) | ((with_reducible refine is_index ?_); (first | refine At_indexS1 hF rfl rfl rfl (by omega) ?_ | refine At_indexC hF rfl (by assumption) rfl (by omega) ?_)))); exact At_nilK hK) ?_))
        refine AQ_cons (by intro K Q hK; refine At_loadC hF (by exact rfl) h0 ?_; exact At_nilK hK) ?_
        (repeat ((with_reducible refine is_AQc ?_); refine AQ_cons (by intro K Q hK; (repeat ((with_reducible refine is_index ?_); (refine At_indexS1 hF rfl rfl rfl (by omega) ?_))); exact At_nilK hK) ?_)); refine AQ_done ?_
        skip
        refine At_storeGrid (r := a) (a := (-1 : Int)) hF 0 (by exact rfl) (by exact rfl) rfl rfl rfl rfl (by omega) (by omega) ?_
        rw [← hset]
        simp only [List.set_cons_succ, List.set_cons_zero]
        (repeat (first | ((with_reducible refine is_AL ?_); (first | ((with_reducible refine is_move ?_); (refine At_plain hF (by (exact (rfl : _ = some (Value.int _ _)))) ?_)) | ((with_reducible refine is_bin ?_); ((with_reducible refine is_badd ?_); (refine At_add hF rfl rfl (by omega) ?_))) | ((with_reducible refine is_assign ?_); (refine At_plain hF (by (exact (rfl : _ = some (Value.int _ _)))) ?_)) | with_reducible refine At_nil ?_)) | ((with_reducible refine is_At ?_); (first | with_reducible refine At_region ?_ | with_reducible refine At_then_n ?_ | with_reducible refine At_inb_n ?_ | with_reducible refine At_go (by assumption) ?_))))
        refine At_close 1 rfl (sc_len _) hj1 hj2 hj3 ?_
        refine At.sub ?_ (hI (k + 1, setP M ⟨r, h, a⟩) _ ⟨hlt, hsn.symm, hR2⟩ (by simp only; omega) ?_)
        · (repeat (first | exact List.Sublist.refl _ | exact List.Sublist.slnil | refine List.Sublist.cons_cons _ ?_ | refine List.Sublist.cons _ ?_))
        · (repeat (first | exact True.intro | (refine And.intro ?_ ?_; focus (show _ = (_ : Value); first | exact rfl | (refine Eq.trans (b := Value.int IntKind.i64 _) rfl (congrArg (Value.int IntKind.i64) ?_); omega)))))
      · obtain rfl : k = m.length := by omega
        (repeat (first | ((with_reducible refine is_AL ?_); (first | ((with_reducible refine is_move ?_); (refine At_plain hF (by (exact (rfl : _ = some (Value.slice _ _ _)))) ?_)) | ((with_reducible refine is_assign ?_); (refine At_plain hF (by (first | exact (rfl : _ = some (Value.int _ _)) | exact (rfl : _ = some (Value.slice _ _ _)))) ?_)) | with_reducible refine At_nil ?_)) | ((with_reducible refine is_At ?_); (first | with_reducible refine At_seq ?_; intro K hK | with_reducible refine At_region ?_ | with_reducible refine At_ret ?_ | with_reducible refine At_exit ?_ | with_reducible refine At_then_n ?_ | with_reducible refine At_then_e ?_ | with_reducible refine At_inb_e rfl ?_ | with_reducible refine At_go (by assumption) ?_))))
        refine At_ret2 rfl (rv_tmp (by decide)) (rv_tmp (by decide)) ?_
        rw [List.take_length] at hM
        subst hM
        (refine At.pick [1, 0] (by decide) (R' := [_, _]) rfl ?_)
        exact fun w' hw' => ⟨_, rfl, _, hpost _ _ ⟨bs, some bo, co, hbs, rfl, rfl⟩, hw'⟩
end Go.Proofs.Ytecgklfcblpkdaa.P
