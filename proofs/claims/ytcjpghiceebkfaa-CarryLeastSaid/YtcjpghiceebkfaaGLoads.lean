import Derived.Test.YtcjpghiceebkfaaP0
import Derived.Test.YtcjpghiceebkfaaXB
import Derived.Test.YtcjpghiceebkfaaXTy
import Derived.Test.YtcjpghiceebkfaaWApart
/- carry.foes: the walk. -/
namespace Go.Proofs.Ytcjpghiceebkfaa.P
open Go.RowKit Go.Proofs.YtcjpghiceebkfaaW.PrintWords Go.Proofs.YtcjpghiceebkfaaW.PrintLast Go.Proofs.YtcjpghiceebkfaaW.PrintMore
open XW RegInv
attribute [local irreducible] Addr.add
set_option linter.unusedSimpArgs false
set_option linter.unusedVariables false
theorem C_flat {α : Type} {d : Kd α} {enc : α → List Value} (ho : ∀ {w x cs}, d.K w x cs → cs = enc x) {w : World} {A : Option Addr} {n : Nat} {xs : List α} (h : Kd.C d w A n xs) (z : α) (k : Nat) (hk : k < n) :
  ∃ ad, A = some ad ∧ ∀ j u, (enc (xs.getD k z))[j]? = some u → w.cell? ((ad.add (k * d.sz)).add j) = some u := by
 obtain ⟨ad, c, hA, _, hK, hc⟩ := Kd.C_get h z (k : Int) (by omega) (by omega)
 rw [Int.toNat_natCast] at hK hc
 obtain rfl := ho hK
 exact ⟨ad, hA, fun j u hj => by rw [addr_add_add]; exact hc j u hj⟩
def enc45 (x : S45) : List Value := [.int .i64 x.f0, .int .i64 x.f1, .int .i64 x.f2]
abbrev bad (n : Int) (x : S45) : Prop := x.f0 < 0 ∨ x.f0 > 63 ∨ min x.f1 x.f2 < 0 ∨ max x.f1 x.f2 ≥ n ∨ min x.f1 x.f2 = max x.f1 x.f2
abbrev Ent := List ((Int × Int) × Int)
def foeStep (n : Int) (st : Option (Ent × Int)) (x : S45) : Option (Ent × Int) :=
 st.bind fun s => if bad n x then none else if (mget s.1 (x.f1, x.f0)).isSome then none else if (mget (mput s.1 (x.f1, x.f0) x.f2) (x.f2, x.f0)).isSome then none else
  some (mput (mput s.1 (x.f1, x.f0) x.f2) (x.f2, x.f0) x.f1, max s.2 (x.f0 + 1))
def foesF (n : Int) (m : List S45) : Option (Ent × Int) := if n < 2 ∨ n > 20 then none else m.foldl (foeStep n) (some ([], 0))
theorem fold_none (n : Int) (m : List S45) : m.foldl (foeStep n) none = none := by
 induction m with
 | nil => rfl
 | cons x m ih => exact ih
theorem take_snoc45 (l : List S45) (k : Nat) (h : k < l.length) : l.take (k + 1) = l.take k ++ [l.getD k z45] := by
 rw [List.take_succ_eq_append_getElem h, List.getD_eq_getElem?_getD, List.getElem?_eq_getElem h]; rfl
theorem fold_snoc (n : Int) (m : List S45) (k : Nat) (h : k < m.length) (st : Option (Ent × Int)) : (m.take (k + 1)).foldl (foeStep n) st = foeStep n ((m.take k).foldl (foeStep n) st) (m.getD k z45) := by
 rw [take_snoc45 m k h, List.foldl_append]; rfl
theorem fold_fail (n : Int) (m : List S45) (k : Nat) (st : Option (Ent × Int)) (h : (m.take k).foldl (foeStep n) st = none) : m.foldl (foeStep n) st = none := by
 have e : m = m.take k ++ m.drop k := (List.take_append_drop k m).symm
 rw [e, List.foldl_append, h, fold_none]
theorem keyOk80 : KeyOk Try.prog 80 epair := by
 obtain ⟨i, hi, hs, _⟩ := inf3
 exact keyOk_pair Try.underlying80 Try.underlying3 hi hs
def foesPost (n : Int) (m : List S45) (u : Value) (Rs : List Res) : Prop := match foesF n m with
 | none => u = .tuple #[.map none, .int .i64 0] ∧ Rs = []
 | some (es, r) => ∃ b, u = .tuple #[.map (some b), .int .i64 r] ∧ Rs = [.map epair (Value.int .i64) b es]
set_option maxHeartbeats 4000000 in
theorem foes_rets (n : Int) (A : Option Addr) (c : Nat) (m : List S45) (w : World) (hr : Kd.C k45 w A m.length m) (hc : m.length ≤ c) : Rets Try.prog 29 #[.int .i64 n, .slice A m.length c] w fun u w' => ∃ Rs, foesPost n m u Rs ∧ Mem w w' Rs := by
 have hF := wide_wide
 have hmx := hr.2.1
 have hk80 := keyOk80
 refine rets_at (n := 101) Try.func29 rfl Try.ntmps29 (by simp) ?_
 (repeat' (first | ((with_reducible refine is_AL ?_); (first | ((with_reducible refine is_guarded ?_); (first | refine At_guard_t rfl (by decide) rfl ?_ | refine At_guard_f hF rfl (by decide) rfl rfl ?_)) | ((with_reducible refine is_move ?_); (refine At_plain hF (by (first | exact (rfl : _ = some (Value.int _ _)) | exact (rfl : _ = some (Value.bool _)))) ?_)) | ((with_reducible refine is_bin ?_); (refine At_plain hF (by (exact (rfl : _ = some (Value.bool _)))) ?_)) | ((with_reducible refine is_assign ?_); (refine At_plain hF (by (first | exact (rfl : _ = some (Value.int _ _)) | exact (rfl : _ = some (Value.map _)))) ?_)) | ((with_reducible refine is_pick ?_); (refine At_plain hF (by (exact (rfl : _ = some (Value.bool _)))) ?_)) | with_reducible refine At_nil ?_)) | ((with_reducible refine is_At ?_); (first | with_reducible refine At_seq ?_; intro K hK | with_reducible refine At_region ?_ | with_reducible refine At_skip ?_ | with_reducible refine At_ret ?_ | with_reducible refine At_then_n ?_ | with_reducible refine At_then_r ?_ | with_reducible refine At_go (by assumption) ?_ | ((with_reducible refine is_cond ?_); (refine At_cond_t rfl ?_)))) | (first | ((with_reducible refine is_guarded ?_); (refine At_guard hF rfl (by decide) rfl ?_ ?_ <;> (intro hg; try (simp only [decide_eq_true_eq, decide_eq_false_iff_not, beq_iff_eq, bne_iff_ne, beq_eq_false_iff_ne, bne_eq_false_iff_eq, ne_eq, Bool.not_eq_true', Bool.not_eq_false', Bool.not_true, Bool.not_false, Decidable.not_not] at hg); try (exfalso; first | omega | exact hg True.intro)))) | ((with_reducible refine is_cond ?_); (refine At_cond rfl ?_ ?_ <;> (intro hg; try (simp only [decide_eq_true_eq, decide_eq_false_iff_not, beq_iff_eq, bne_iff_ne, beq_eq_false_iff_ne, bne_eq_false_iff_eq, ne_eq, Bool.not_eq_true', Bool.not_eq_false', Bool.not_true, Bool.not_false, Decidable.not_not] at hg); try (exfalso; first | omega | exact hg True.intro)))))))
 rotate_left
 rotate_left
 ·exact At_ret2 rfl (rv_tmp (by decide)) (rv_tmp (by decide)) (fun w' hw' => ⟨_, rfl, [], by rw [foesPost, foesF, if_pos (.inl hg)]; exact ⟨rfl, rfl⟩, hw'⟩)
 ·exact At_ret2 rfl (rv_tmp (by decide)) (rv_tmp (by decide)) (fun w' hw' => ⟨_, rfl, [], by rw [foesPost, foesF, if_pos (.inr hg)]; exact ⟨rfl, rfl⟩, hw'⟩)
 rename_i h2
 have h20 : ¬ (n < 2 ∨ n > 20) := by omega
 refine At_makeMap hF epair (Value.int .i64) ?_
 intro bm
 (repeat (first | ((with_reducible refine is_AL ?_); (first | ((with_reducible refine is_move ?_); (refine At_plain hF (by (first | exact (rfl : _ = some (Value.int _ _)) | exact (rfl : _ = some (Value.slice _ _ _)))) ?_)) | ((with_reducible refine is_assign ?_); (refine At_plain hF (by (exact (rfl : _ = some (Value.map _)))) ?_)) | ((with_reducible refine is_call ?_); (refine At_len hF rfl ?_)) | with_reducible refine At_nil ?_)) | ((with_reducible refine is_At ?_); (first | with_reducible refine At_seq ?_; intro K hK | with_reducible refine At_block ?_ | with_reducible refine At_region ?_ | with_reducible refine At_then_n ?_ | with_reducible refine At_go (by assumption) ?_))))
 refine At_loop (fun st : Nat × Ent × Int => [(0, .int .i64 n), (4, .map (some bm)), (5, .int .i64 st.2.2), (22, .slice A m.length c), (23, .int .i64 m.length), (24, .int .i64 st.1)]) (fun st => [.map epair (Value.int .i64) bm st.2.1])
  (fun st => st.1 ≤ m.length ∧ (m.take st.1).foldl (foeStep n) (some ([], 0)) = some st.2) (fun st => m.length - st.1) (0, [], 0) ?_ ?_ ⟨Nat.zero_le _, rfl⟩ ?_
 ·(repeat (first | exact List.Sublist.refl _ | exact List.Sublist.slnil | refine List.Sublist.cons_cons _ ?_ | refine List.Sublist.cons _ ?_))
 ·(repeat (first | exact True.intro | (refine And.intro ?_ ?_; focus (show _ = (_ : Value); first | exact rfl | (refine Eq.trans (b := Value.int IntKind.i64 _) rfl (congrArg (Value.int IntKind.i64) ?_); omega)))))
 rintro ⟨k, es, rounds⟩ ⟨hk, hfold⟩ K hL ρ0
 simp only at hk hfold
 (repeat (first | ((with_reducible refine is_AL ?_); (first | ((with_reducible refine is_bin ?_); (refine At_plain hF (by (exact (rfl : _ = some (Value.bool _)))) ?_)) | with_reducible refine At_nil ?_)) | ((with_reducible refine is_At ?_); (first | with_reducible refine At_seq ?_; intro K hK | with_reducible refine At_region ?_ | with_reducible refine At_then_n ?_ | with_reducible refine At_go (by assumption) ?_))))
 ((with_reducible refine is_cond ?_); (refine At_cond rfl ?_ ?_ <;> (intro hg; try (simp only [decide_eq_true_eq, decide_eq_false_iff_not, beq_iff_eq, bne_iff_ne, beq_eq_false_iff_ne, bne_eq_false_iff_eq, ne_eq, Bool.not_eq_true', Bool.not_eq_false', Bool.not_true, Bool.not_false, Decidable.not_not] at hg); try (exfalso; first | omega | exact hg True.intro))))
 ·rename_i hlt
  have hlt : k < m.length := by omega
  dsimp only
  (repeat ((with_reducible refine is_At ?_); (first | with_reducible refine At_seq ?_; intro K hK | with_reducible refine At_block ?_ | with_reducible refine At_region ?_ | with_reducible refine At_skip ?_ | with_reducible refine At_then_n ?_ | with_reducible refine At_go (by assumption) ?_)))
  obtain ⟨ad, hA, hcell⟩ := C_flat (enc := enc45) (fun h => k45_open h) hr z45 k hlt
  have hsn := fold_snoc n m k hlt (some ([], 0))
  rw [hfold] at hsn
  generalize m.getD k z45 = x at hcell hsn
  have hfail : foeStep n (some (es, rounds)) x = none → foesF n m = none := fun h => by
   rw [foesF, if_neg h20]
   exact fold_fail n m (k + 1) _ (hsn.trans h)
  refine At_indexC (k := k) hF (by exact rfl) hA (by exact rfl) (by omega) ?_
  refine At_loadCS (vs := [.int .i64 x.f0, .int .i64 x.f1, .int .i64 x.f2]) hF (by exact rfl) (by exact rfl) hcell ?_
  ((repeat (first | ((with_reducible refine is_AL ?_); (first | ((with_reducible refine is_store ?_); (refine At_storeB_0 hF rfl rfl rfl rfl (by simp [Value.one1, epair]) ?_)) | with_reducible refine At_nil ?_)) | ((with_reducible refine is_At ?_); (first | with_reducible refine At_seq ?_; intro K hK | with_reducible refine At_then_n ?_ | with_reducible refine At_go (by assumption) ?_)))); ((with_reducible refine is_alloc ?_); (refine At_alloc hF (by (exact (rfl : _ = List.toArray (_ :: _)))) ?_; intro b7)); (repeat (first | ((with_reducible refine is_AL ?_); (first | ((with_reducible refine is_store ?_); (refine At_storeB_0 hF rfl rfl rfl rfl (by simp [Value.one1, epair]) ?_)) | with_reducible refine At_nil ?_)) | ((with_reducible refine is_At ?_); (first | with_reducible refine At_seq ?_; intro K hK | with_reducible refine At_then_n ?_ | with_reducible refine At_go (by assumption) ?_)))))
  refine At_draw hF 12 (by kernel_rfl) (by decide +kernel) ?_; simp only [List.take_succ_cons, List.take_zero, List.drop_succ_cons, List.drop_zero]; (repeat ((with_reducible refine is_AQc ?_); refine AQ_cons (by intro K Q hK; (repeat (first | ((with_reducible refine is_assign ?_); (refine At_plain hF (by (exact (rfl : _ = some (Value.int _ _)))) ?_)) | ((with_reducible refine is_call ?_); (first | refine At_max hF rfl rfl ?_ | refine At_min hF rfl rfl ?_)) | ((with_reducible refine is_field ?_); (refine At_field hF rfl ?_)) | ((with_reducible refine is_load ?_); (refine At_load hF 0 rfl rfl (by (exact (rfl : _ = some (Value.int _ _)))) ?_)))); exact At_nilK hK) ?_)); refine AQ_done ?_
  (repeat' (first | ((with_reducible refine is_AL ?_); (first | ((with_reducible refine is_guarded ?_); (first | refine At_guard_t rfl (by decide) rfl ?_ | refine At_guard_f hF rfl (by decide) rfl rfl ?_)) | ((with_reducible refine is_move ?_); (refine At_plain hF (by (first | exact (rfl : _ = some (Value.int _ _)) | exact (rfl : _ = some (Value.bool _)))) ?_)) | ((with_reducible refine is_bin ?_); (refine At_plain hF (by (exact (rfl : _ = some (Value.bool _)))) ?_)) | ((with_reducible refine is_assign ?_); (refine At_plain hF (by (first | exact (rfl : _ = some (Value.int _ _)) | exact (rfl : _ = some (Value.map _)))) ?_)) | ((with_reducible refine is_pick ?_); (refine At_plain hF (by (exact (rfl : _ = some (Value.bool _)))) ?_)) | ((with_reducible refine is_field ?_); (refine At_field hF rfl ?_)) | ((with_reducible refine is_load ?_); (refine At_load hF 0 rfl rfl (by (exact (rfl : _ = some (Value.int _ _)))) ?_)) | ((with_reducible refine is_build ?_); (refine At_buildPair hF (by decide) rfl rfl rfl ?_)) | with_reducible refine At_nil ?_)) | ((with_reducible refine is_At ?_); (first | with_reducible refine At_seq ?_; intro K hK | with_reducible refine At_region ?_ | with_reducible refine At_skip ?_ | with_reducible refine At_ret ?_ | with_reducible refine At_then_n ?_ | with_reducible refine At_then_r ?_ | with_reducible refine At_inb_r ?_ | with_reducible refine At_go (by assumption) ?_ | ((with_reducible refine is_cond ?_); (refine At_cond_t rfl ?_)))) | (first | ((with_reducible refine is_guarded ?_); (refine At_guard hF rfl (by decide) rfl ?_ ?_ <;> (intro hg; try (simp only [decide_eq_true_eq, decide_eq_false_iff_not, beq_iff_eq, bne_iff_ne, beq_eq_false_iff_ne, bne_eq_false_iff_eq, ne_eq, Bool.not_eq_true', Bool.not_eq_false', Bool.not_true, Bool.not_false, Decidable.not_not] at hg); try (exfalso; first | omega | exact hg True.intro)))) | ((with_reducible refine is_cond ?_); (refine At_cond rfl ?_ ?_ <;> (intro hg; try (simp only [decide_eq_true_eq, decide_eq_false_iff_not, beq_iff_eq, bne_iff_ne, beq_eq_false_iff_ne, bne_eq_false_iff_eq, ne_eq, Bool.not_eq_true', Bool.not_eq_false', Bool.not_true, Bool.not_false, Decidable.not_not] at hg); try (exfalso; first | omega | exact hg True.intro)))))))
  all_goals try (exact At_ret2 rfl (rv_tmp (by decide)) (rv_tmp (by decide)) (At.sub (List.nil_sublist _) (fun w' hw' => ⟨_, rfl, [], by rw [foesPost, hfail (by simp only [foeStep, Option.bind_some]; rw [if_pos (by unfold bad; omega)])]; exact ⟨rfl, rfl⟩, hw'⟩)))
  ((repeat (first | ((with_reducible refine is_AL ?_); (first | ((with_reducible refine is_move ?_); (refine At_plain hF (by (exact (rfl : _ = some (Value.int _ _)))) ?_)) | ((with_reducible refine is_call ?_); (refine At_len hF rfl ?_)) | with_reducible refine At_nil ?_)) | ((with_reducible refine is_At ?_); (first | with_reducible refine At_block ?_ | with_reducible refine At_then_n ?_ | with_reducible refine At_go (by assumption) ?_)))); ((with_reducible refine is_bslice ?_); (refine At_sliceA_2 hF (by decide) rfl rfl rfl rfl ?_; intro b70)); (repeat (first | ((with_reducible refine is_AL ?_); (first | ((with_reducible refine is_move ?_); (refine At_plain hF (by (exact (rfl : _ = some (Value.int _ _)))) ?_)) | ((with_reducible refine is_call ?_); (refine At_len hF rfl ?_)) | with_reducible refine At_nil ?_)) | ((with_reducible refine is_At ?_); (first | with_reducible refine At_block ?_ | with_reducible refine At_then_n ?_ | with_reducible refine At_go (by assumption) ?_)))))
  have hnb : ¬ bad n x := by unfold bad; omega
  refine At_loop (fun st : Nat × Ent => [(0, .int .i64 n), (4, .map (some bm)), (5, .int .i64 rounds), (7, .pointer (some ⟨b7, 0, none⟩)), (22, .slice A m.length c), (23, .int .i64 m.length), (24, .int .i64 k), (70, .slice (some ⟨b70, 0, none⟩) 2 2), (71, .int .i64 (2 : Nat)), (72, .int .i64 (st.1 : Nat))])
   (fun st => [.obj b70 (.cells #[.int .i64 x.f1, .int .i64 x.f2, .int .i64 x.f2, .int .i64 x.f1] 77), .obj b7 (.cells #[.int .i64 x.f0, .int .i64 x.f1, .int .i64 x.f2] 45), .map epair (Value.int .i64) bm st.2])
   (fun st => st = (0, es) ∨ (st = (1, mput es (x.f1, x.f0) x.f2) ∧ (mget es (x.f1, x.f0)).isSome = false) ∨ (st = (2, mput (mput es (x.f1, x.f0) x.f2) (x.f2, x.f0) x.f1) ∧ (mget es (x.f1, x.f0)).isSome = false ∧ (mget (mput es (x.f1, x.f0) x.f2) (x.f2, x.f0)).isSome = false)) (fun st => 2 - st.1) (0, es) ?_ ?_ (.inl rfl) ?_
  ·(repeat (first | exact List.Sublist.refl _ | exact List.Sublist.slnil | refine List.Sublist.cons_cons _ ?_ | refine List.Sublist.cons _ ?_))
  ·(repeat (first | exact True.intro | (refine And.intro ?_ ?_; focus (show _ = (_ : Value); first | exact rfl | (refine Eq.trans (b := Value.int IntKind.i64 _) rfl (congrArg (Value.int IntKind.i64) ?_); omega)))))
  clear ρ0
  rintro ⟨i, es'⟩ (e | ⟨e, hn1⟩ | ⟨e, hn1, hn2⟩) K hM ρ0 <;> cases e
  ·dsimp only
   ((repeat (first | ((with_reducible refine is_AL ?_); (first | ((with_reducible refine is_move ?_); (refine At_plain hF (by (first | exact (rfl : _ = some (Value.bool _)) | exact (rfl : _ = some (Value.map _)) | exact (rfl : _ = some (Value.tuple _)))) ?_)) | ((with_reducible refine is_bin ?_); (refine At_plain hF (by (exact (rfl : _ = some (Value.bool _)))) ?_)) | ((with_reducible refine is_assign ?_); (refine At_plain hF (by (first | exact (rfl : _ = some (Value.bool _)) | exact rfl)) ?_)) | ((with_reducible refine is_extract ?_); (refine At_plain hF (by (first | exact (rfl : _ = some (Value.bool _)) | exact rfl)) ?_)) | ((with_reducible refine is_field ?_); (refine At_field hF rfl ?_)) | ((with_reducible refine is_load ?_); (first | refine At_load hF 0 rfl rfl (by (exact (rfl : _ = some (Value.int _ _)))) ?_ | refine At_load hF 2 rfl rfl (by (exact (rfl : _ = some (Value.int _ _)))) ?_ | refine At_loadB hF 0 rfl rfl rfl ?_ | refine At_load2 hF 0 rfl rfl rfl (by (exact (rfl : _ = some (Value.int _ _)))) (by (exact (rfl : _ = some (Value.int _ _)))) ?_)) | ((with_reducible refine is_index ?_); (first | refine At_indexA1 hF rfl rfl rfl rfl (by first | decide | (simp only [TArr.m]; omega)) ?_ | refine At_indexS hF rfl rfl (by omega) ?_)) | ((with_reducible refine is_build ?_); (refine At_buildPair hF (by decide) rfl rfl rfl ?_)) | ((with_reducible refine is_store ?_); (refine At_storeB_0 hF rfl rfl rfl rfl (by simp [Value.one1, epair]) ?_)) | ((with_reducible refine is_lookup ?_); (refine At_lookup hF 4 (k := (_, _)) (by assumption) rfl rfl rfl rfl ?_)) | with_reducible refine At_nil ?_)) | ((with_reducible refine is_At ?_); (first | with_reducible refine At_seq ?_; intro K hK | with_reducible refine At_block ?_ | with_reducible refine At_region ?_ | with_reducible refine At_skip ?_ | with_reducible refine At_then_n ?_ | with_reducible refine At_go (by assumption) ?_ | ((with_reducible refine is_cond ?_); (refine At_cond_t rfl ?_)))))); ((with_reducible refine is_alloc ?_); (refine At_alloc hF (by (exact (rfl : _ = List.toArray (_ :: _)))) ?_; intro b11)); (repeat (first | ((with_reducible refine is_AL ?_); (first | ((with_reducible refine is_move ?_); (refine At_plain hF (by (first | exact (rfl : _ = some (Value.bool _)) | exact (rfl : _ = some (Value.map _)) | exact (rfl : _ = some (Value.tuple _)))) ?_)) | ((with_reducible refine is_bin ?_); (refine At_plain hF (by (exact (rfl : _ = some (Value.bool _)))) ?_)) | ((with_reducible refine is_assign ?_); (refine At_plain hF (by (first | exact (rfl : _ = some (Value.bool _)) | exact rfl)) ?_)) | ((with_reducible refine is_extract ?_); (refine At_plain hF (by (first | exact (rfl : _ = some (Value.bool _)) | exact rfl)) ?_)) | ((with_reducible refine is_field ?_); (refine At_field hF rfl ?_)) | ((with_reducible refine is_load ?_); (first | refine At_load hF 0 rfl rfl (by (exact (rfl : _ = some (Value.int _ _)))) ?_ | refine At_load hF 2 rfl rfl (by (exact (rfl : _ = some (Value.int _ _)))) ?_ | refine At_loadB hF 0 rfl rfl rfl ?_ | refine At_load2 hF 0 rfl rfl rfl (by (exact (rfl : _ = some (Value.int _ _)))) (by (exact (rfl : _ = some (Value.int _ _)))) ?_)) | ((with_reducible refine is_index ?_); (first | refine At_indexA1 hF rfl rfl rfl rfl (by first | decide | (simp only [TArr.m]; omega)) ?_ | refine At_indexS hF rfl rfl (by omega) ?_)) | ((with_reducible refine is_build ?_); (refine At_buildPair hF (by decide) rfl rfl rfl ?_)) | ((with_reducible refine is_store ?_); (refine At_storeB_0 hF rfl rfl rfl rfl (by simp [Value.one1, epair]) ?_)) | ((with_reducible refine is_lookup ?_); (refine At_lookup hF 4 (k := (_, _)) (by assumption) rfl rfl rfl rfl ?_)) | with_reducible refine At_nil ?_)) | ((with_reducible refine is_At ?_); (first | with_reducible refine At_seq ?_; intro K hK | with_reducible refine At_block ?_ | with_reducible refine At_region ?_ | with_reducible refine At_skip ?_ | with_reducible refine At_then_n ?_ | with_reducible refine At_go (by assumption) ?_ | ((with_reducible refine is_cond ?_); (refine At_cond_t rfl ?_)))))); ((with_reducible refine is_alloc ?_); (refine At_alloc hF (by (exact (rfl : _ = List.toArray (_ :: _)))) ?_; intro b12)); (repeat (first | ((with_reducible refine is_AL ?_); (first | ((with_reducible refine is_move ?_); (refine At_plain hF (by (first | exact (rfl : _ = some (Value.bool _)) | exact (rfl : _ = some (Value.map _)) | exact (rfl : _ = some (Value.tuple _)))) ?_)) | ((with_reducible refine is_bin ?_); (refine At_plain hF (by (exact (rfl : _ = some (Value.bool _)))) ?_)) | ((with_reducible refine is_assign ?_); (refine At_plain hF (by (first | exact (rfl : _ = some (Value.bool _)) | exact rfl)) ?_)) | ((with_reducible refine is_extract ?_); (refine At_plain hF (by (first | exact (rfl : _ = some (Value.bool _)) | exact rfl)) ?_)) | ((with_reducible refine is_field ?_); (refine At_field hF rfl ?_)) | ((with_reducible refine is_load ?_); (first | refine At_load hF 0 rfl rfl (by (exact (rfl : _ = some (Value.int _ _)))) ?_ | refine At_load hF 2 rfl rfl (by (exact (rfl : _ = some (Value.int _ _)))) ?_ | refine At_loadB hF 0 rfl rfl rfl ?_ | refine At_load2 hF 0 rfl rfl rfl (by (exact (rfl : _ = some (Value.int _ _)))) (by (exact (rfl : _ = some (Value.int _ _)))) ?_)) | ((with_reducible refine is_index ?_); (first | refine At_indexA1 hF rfl rfl rfl rfl (by first | decide | (simp only [TArr.m]; omega)) ?_ | refine At_indexS hF rfl rfl (by omega) ?_)) | ((with_reducible refine is_build ?_); (refine At_buildPair hF (by decide) rfl rfl rfl ?_)) | ((with_reducible refine is_store ?_); (refine At_storeB_0 hF rfl rfl rfl rfl (by simp [Value.one1, epair]) ?_)) | ((with_reducible refine is_lookup ?_); (refine At_lookup hF 4 (k := (_, _)) (by assumption) rfl rfl rfl rfl ?_)) | with_reducible refine At_nil ?_)) | ((with_reducible refine is_At ?_); (first | with_reducible refine At_seq ?_; intro K hK | with_reducible refine At_block ?_ | with_reducible refine At_region ?_ | with_reducible refine At_skip ?_ | with_reducible refine At_then_n ?_ | with_reducible refine At_go (by assumption) ?_ | ((with_reducible refine is_cond ?_); (refine At_cond_t rfl ?_)))))))
   ((with_reducible refine is_cond ?_); (refine At_cond rfl ?_ ?_ <;> (intro hg; try (simp only [decide_eq_true_eq, decide_eq_false_iff_not, beq_iff_eq, bne_iff_ne, beq_eq_false_iff_ne, bne_eq_false_iff_eq, ne_eq, Bool.not_eq_true', Bool.not_eq_false', Bool.not_true, Bool.not_false, Decidable.not_not] at hg); try (exfalso; first | omega | exact hg True.intro))))
   ·have hs := hg
    (repeat (first | ((with_reducible refine is_AL ?_); (first | ((with_reducible refine is_assign ?_); (refine At_plain hF (by (first | exact (rfl : _ = some (Value.int _ _)) | exact (rfl : _ = some (Value.map _)))) ?_)) | with_reducible refine At_nil ?_)) | ((with_reducible refine is_At ?_); (first | with_reducible refine At_seq ?_; intro K hK | with_reducible refine At_region ?_ | with_reducible refine At_ret ?_ | with_reducible refine At_then_n ?_ | with_reducible refine At_then_r ?_ | with_reducible refine At_inb_r ?_ | with_reducible refine At_go (by assumption) ?_))))
    exact At_ret2 rfl (rv_tmp (by decide)) (rv_tmp (by decide)) (At.sub (List.nil_sublist _) (fun w' hw' => ⟨_, rfl, [], by rw [foesPost, hfail (by simp only [foeStep, Option.bind_some]; rw [if_neg hnb, if_pos hs])]; exact ⟨rfl, rfl⟩, hw'⟩))
   ·have hs := hg
    (repeat (first | ((with_reducible refine is_AL ?_); (first | ((with_reducible refine is_move ?_); (refine At_plain hF (by (first | exact (rfl : _ = some (Value.int _ _)) | exact (rfl : _ = some (Value.map _)))) ?_)) | ((with_reducible refine is_bin ?_); ((with_reducible refine is_badd ?_); (refine At_add hF rfl rfl (by omega) ?_))) | ((with_reducible refine is_load ?_); (first | refine At_load hF 1 rfl rfl (by (exact (rfl : _ = some (Value.int _ _)))) ?_ | refine At_loadB hF 0 rfl rfl rfl ?_)) | ((with_reducible refine is_index ?_); (refine At_indexA1 hF rfl rfl rfl rfl (by first | decide | (simp only [TArr.m]; omega)) ?_)) | ((with_reducible refine is_mupd ?_); (refine At_mapUpdate_4 hF (by assumption) rfl rfl rfl ?_)) | with_reducible refine At_nil ?_)) | ((with_reducible refine is_At ?_); (first | with_reducible refine At_region ?_ | with_reducible refine At_skip ?_ | with_reducible refine At_then_n ?_ | with_reducible refine At_inb_n ?_ | with_reducible refine At_go (by assumption) ?_))))
    refine At.sub ?_ (hM (1, mput es (x.f1, x.f0) x.f2) _ (.inr (.inl ⟨rfl, hs⟩)) (by simp) ?_)
    ·(repeat (first | exact List.Sublist.refl _ | exact List.Sublist.slnil | refine List.Sublist.cons_cons _ ?_ | refine List.Sublist.cons _ ?_))
    ·(repeat (first | exact True.intro | (refine And.intro ?_ ?_; focus (show _ = (_ : Value); first | exact rfl | (refine Eq.trans (b := Value.int IntKind.i64 _) rfl (congrArg (Value.int IntKind.i64) ?_); omega)))))
  ·dsimp only
   ((repeat (first | ((with_reducible refine is_AL ?_); (first | ((with_reducible refine is_move ?_); (refine At_plain hF (by (first | exact (rfl : _ = some (Value.bool _)) | exact (rfl : _ = some (Value.map _)) | exact (rfl : _ = some (Value.tuple _)))) ?_)) | ((with_reducible refine is_bin ?_); (refine At_plain hF (by (exact (rfl : _ = some (Value.bool _)))) ?_)) | ((with_reducible refine is_assign ?_); (refine At_plain hF (by (first | exact (rfl : _ = some (Value.bool _)) | exact rfl)) ?_)) | ((with_reducible refine is_extract ?_); (refine At_plain hF (by (first | exact (rfl : _ = some (Value.bool _)) | exact rfl)) ?_)) | ((with_reducible refine is_field ?_); (refine At_field hF rfl ?_)) | ((with_reducible refine is_load ?_); (first | refine At_load hF 0 rfl rfl (by (exact (rfl : _ = some (Value.int _ _)))) ?_ | refine At_load hF 2 rfl rfl (by (exact (rfl : _ = some (Value.int _ _)))) ?_ | refine At_loadB hF 0 rfl rfl rfl ?_ | refine At_load2 hF 0 rfl rfl rfl (by (exact (rfl : _ = some (Value.int _ _)))) (by (exact (rfl : _ = some (Value.int _ _)))) ?_)) | ((with_reducible refine is_index ?_); (first | refine At_indexA1 hF rfl rfl rfl rfl (by first | decide | (simp only [TArr.m]; omega)) ?_ | refine At_indexS hF rfl rfl (by omega) ?_)) | ((with_reducible refine is_build ?_); (refine At_buildPair hF (by decide) rfl rfl rfl ?_)) | ((with_reducible refine is_store ?_); (refine At_storeB_0 hF rfl rfl rfl rfl (by simp [Value.one1, epair]) ?_)) | ((with_reducible refine is_lookup ?_); (refine At_lookup hF 4 (k := (_, _)) (by assumption) rfl rfl rfl rfl ?_)) | with_reducible refine At_nil ?_)) | ((with_reducible refine is_At ?_); (first | with_reducible refine At_seq ?_; intro K hK | with_reducible refine At_block ?_ | with_reducible refine At_region ?_ | with_reducible refine At_skip ?_ | with_reducible refine At_then_n ?_ | with_reducible refine At_go (by assumption) ?_ | ((with_reducible refine is_cond ?_); (refine At_cond_t rfl ?_)))))); ((with_reducible refine is_alloc ?_); (refine At_alloc hF (by (exact (rfl : _ = List.toArray (_ :: _)))) ?_; intro b11)); (repeat (first | ((with_reducible refine is_AL ?_); (first | ((with_reducible refine is_move ?_); (refine At_plain hF (by (first | exact (rfl : _ = some (Value.bool _)) | exact (rfl : _ = some (Value.map _)) | exact (rfl : _ = some (Value.tuple _)))) ?_)) | ((with_reducible refine is_bin ?_); (refine At_plain hF (by (exact (rfl : _ = some (Value.bool _)))) ?_)) | ((with_reducible refine is_assign ?_); (refine At_plain hF (by (first | exact (rfl : _ = some (Value.bool _)) | exact rfl)) ?_)) | ((with_reducible refine is_extract ?_); (refine At_plain hF (by (first | exact (rfl : _ = some (Value.bool _)) | exact rfl)) ?_)) | ((with_reducible refine is_field ?_); (refine At_field hF rfl ?_)) | ((with_reducible refine is_load ?_); (first | refine At_load hF 0 rfl rfl (by (exact (rfl : _ = some (Value.int _ _)))) ?_ | refine At_load hF 2 rfl rfl (by (exact (rfl : _ = some (Value.int _ _)))) ?_ | refine At_loadB hF 0 rfl rfl rfl ?_ | refine At_load2 hF 0 rfl rfl rfl (by (exact (rfl : _ = some (Value.int _ _)))) (by (exact (rfl : _ = some (Value.int _ _)))) ?_)) | ((with_reducible refine is_index ?_); (first | refine At_indexA1 hF rfl rfl rfl rfl (by first | decide | (simp only [TArr.m]; omega)) ?_ | refine At_indexS hF rfl rfl (by omega) ?_)) | ((with_reducible refine is_build ?_); (refine At_buildPair hF (by decide) rfl rfl rfl ?_)) | ((with_reducible refine is_store ?_); (refine At_storeB_0 hF rfl rfl rfl rfl (by simp [Value.one1, epair]) ?_)) | ((with_reducible refine is_lookup ?_); (refine At_lookup hF 4 (k := (_, _)) (by assumption) rfl rfl rfl rfl ?_)) | with_reducible refine At_nil ?_)) | ((with_reducible refine is_At ?_); (first | with_reducible refine At_seq ?_; intro K hK | with_reducible refine At_block ?_ | with_reducible refine At_region ?_ | with_reducible refine At_skip ?_ | with_reducible refine At_then_n ?_ | with_reducible refine At_go (by assumption) ?_ | ((with_reducible refine is_cond ?_); (refine At_cond_t rfl ?_)))))); ((with_reducible refine is_alloc ?_); (refine At_alloc hF (by (exact (rfl : _ = List.toArray (_ :: _)))) ?_; intro b12)); (repeat (first | ((with_reducible refine is_AL ?_); (first | ((with_reducible refine is_move ?_); (refine At_plain hF (by (first | exact (rfl : _ = some (Value.bool _)) | exact (rfl : _ = some (Value.map _)) | exact (rfl : _ = some (Value.tuple _)))) ?_)) | ((with_reducible refine is_bin ?_); (refine At_plain hF (by (exact (rfl : _ = some (Value.bool _)))) ?_)) | ((with_reducible refine is_assign ?_); (refine At_plain hF (by (first | exact (rfl : _ = some (Value.bool _)) | exact rfl)) ?_)) | ((with_reducible refine is_extract ?_); (refine At_plain hF (by (first | exact (rfl : _ = some (Value.bool _)) | exact rfl)) ?_)) | ((with_reducible refine is_field ?_); (refine At_field hF rfl ?_)) | ((with_reducible refine is_load ?_); (first | refine At_load hF 0 rfl rfl (by (exact (rfl : _ = some (Value.int _ _)))) ?_ | refine At_load hF 2 rfl rfl (by (exact (rfl : _ = some (Value.int _ _)))) ?_ | refine At_loadB hF 0 rfl rfl rfl ?_ | refine At_load2 hF 0 rfl rfl rfl (by (exact (rfl : _ = some (Value.int _ _)))) (by (exact (rfl : _ = some (Value.int _ _)))) ?_)) | ((with_reducible refine is_index ?_); (first | refine At_indexA1 hF rfl rfl rfl rfl (by first | decide | (simp only [TArr.m]; omega)) ?_ | refine At_indexS hF rfl rfl (by omega) ?_)) | ((with_reducible refine is_build ?_); (refine At_buildPair hF (by decide) rfl rfl rfl ?_)) | ((with_reducible refine is_store ?_); (refine At_storeB_0 hF rfl rfl rfl rfl (by simp [Value.one1, epair]) ?_)) | ((with_reducible refine is_lookup ?_); (refine At_lookup hF 4 (k := (_, _)) (by assumption) rfl rfl rfl rfl ?_)) | with_reducible refine At_nil ?_)) | ((with_reducible refine is_At ?_); (first | with_reducible refine At_seq ?_; intro K hK | with_reducible refine At_block ?_ | with_reducible refine At_region ?_ | with_reducible refine At_skip ?_ | with_reducible refine At_then_n ?_ | with_reducible refine At_go (by assumption) ?_ | ((with_reducible refine is_cond ?_); (refine At_cond_t rfl ?_)))))))
   ((with_reducible refine is_cond ?_); (refine At_cond rfl ?_ ?_ <;> (intro hg; try (simp only [decide_eq_true_eq, decide_eq_false_iff_not, beq_iff_eq, bne_iff_ne, beq_eq_false_iff_ne, bne_eq_false_iff_eq, ne_eq, Bool.not_eq_true', Bool.not_eq_false', Bool.not_true, Bool.not_false, Decidable.not_not] at hg); try (exfalso; first | omega | exact hg True.intro))))
   ·have hs := hg
    (repeat (first | ((with_reducible refine is_AL ?_); (first | ((with_reducible refine is_assign ?_); (refine At_plain hF (by (first | exact (rfl : _ = some (Value.int _ _)) | exact (rfl : _ = some (Value.map _)))) ?_)) | with_reducible refine At_nil ?_)) | ((with_reducible refine is_At ?_); (first | with_reducible refine At_seq ?_; intro K hK | with_reducible refine At_region ?_ | with_reducible refine At_ret ?_ | with_reducible refine At_then_n ?_ | with_reducible refine At_then_r ?_ | with_reducible refine At_inb_r ?_ | with_reducible refine At_go (by assumption) ?_))))
    exact At_ret2 rfl (rv_tmp (by decide)) (rv_tmp (by decide)) (At.sub (List.nil_sublist _) (fun w' hw' => ⟨_, rfl, [], by rw [foesPost, hfail (by simp only [foeStep, Option.bind_some]; rw [if_neg hnb, if_neg (by rw [hn1]; decide), if_pos hs])]; exact ⟨rfl, rfl⟩, hw'⟩))
   ·have hs := hg
    (repeat (first | ((with_reducible refine is_AL ?_); (first | ((with_reducible refine is_move ?_); (refine At_plain hF (by (first | exact (rfl : _ = some (Value.int _ _)) | exact (rfl : _ = some (Value.map _)))) ?_)) | ((with_reducible refine is_bin ?_); ((with_reducible refine is_badd ?_); (refine At_add hF rfl rfl (by omega) ?_))) | ((with_reducible refine is_load ?_); (first | refine At_load hF 1 rfl rfl (by (exact (rfl : _ = some (Value.int _ _)))) ?_ | refine At_loadB hF 0 rfl rfl rfl ?_)) | ((with_reducible refine is_index ?_); (refine At_indexA1 hF rfl rfl rfl rfl (by first | decide | (simp only [TArr.m]; omega)) ?_)) | ((with_reducible refine is_mupd ?_); (refine At_mapUpdate_4 hF (by assumption) rfl rfl rfl ?_)) | with_reducible refine At_nil ?_)) | ((with_reducible refine is_At ?_); (first | with_reducible refine At_region ?_ | with_reducible refine At_skip ?_ | with_reducible refine At_then_n ?_ | with_reducible refine At_inb_n ?_ | with_reducible refine At_go (by assumption) ?_))))
    refine At.sub ?_ (hM (2, mput (mput es (x.f1, x.f0) x.f2) (x.f2, x.f0) x.f1) _ (.inr (.inr ⟨rfl, hn1, hs⟩)) (by simp) ?_)
    ·(repeat (first | exact List.Sublist.refl _ | exact List.Sublist.slnil | refine List.Sublist.cons_cons _ ?_ | refine List.Sublist.cons _ ?_))
    ·(repeat (first | exact True.intro | (refine And.intro ?_ ?_; focus (show _ = (_ : Value); first | exact rfl | (refine Eq.trans (b := Value.int IntKind.i64 _) rfl (congrArg (Value.int IntKind.i64) ?_); omega)))))
  ·dsimp only
   (repeat (first | ((with_reducible refine is_AL ?_); (first | ((with_reducible refine is_move ?_); (refine At_plain hF (by (exact (rfl : _ = some (Value.int _ _)))) ?_)) | ((with_reducible refine is_bin ?_); (first | ((with_reducible refine is_badd ?_); (refine At_add hF rfl rfl (by omega) ?_)) | refine At_plain hF (by (exact (rfl : _ = some (Value.bool _)))) ?_)) | ((with_reducible refine is_assign ?_); (refine At_plain hF (by (exact (rfl : _ = some (Value.int _ _)))) ?_)) | ((with_reducible refine is_call ?_); (refine At_max hF rfl rfl ?_)) | ((with_reducible refine is_field ?_); (refine At_field hF rfl ?_)) | ((with_reducible refine is_load ?_); (refine At_load hF 1 rfl rfl (by (exact (rfl : _ = some (Value.int _ _)))) ?_)) | with_reducible refine At_nil ?_)) | ((with_reducible refine is_At ?_); (first | with_reducible refine At_seq ?_; intro K hK | with_reducible refine At_region ?_ | with_reducible refine At_exit ?_ | with_reducible refine At_then_n ?_ | with_reducible refine At_then_e ?_ | with_reducible refine At_inb_n ?_ | with_reducible refine At_inb_e rfl ?_ | with_reducible refine At_go (by assumption) ?_ | ((with_reducible refine is_cond ?_); (refine At_cond_f rfl ?_))))))
   have hst : foeStep n (some (es, rounds)) x = some (mput (mput es (x.f1, x.f0) x.f2) (x.f2, x.f0) x.f1, max rounds (x.f0 + 1)) := by
    simp only [foeStep, Option.bind_some]; rw [if_neg hnb, if_neg (by rw [hn1]; decide), if_neg (by rw [hn2]; decide)]
   refine At.sub ?_ (hL (k + 1, mput (mput es (x.f1, x.f0) x.f2) (x.f2, x.f0) x.f1, max rounds (x.f0 + 1)) _ ⟨hlt, hsn.trans hst⟩ (by simp only; omega) ?_)
   ·(repeat (first | exact List.Sublist.refl _ | exact List.Sublist.slnil | refine List.Sublist.cons_cons _ ?_ | refine List.Sublist.cons _ ?_))
   ·(repeat (first | exact True.intro | (refine And.intro ?_ ?_; focus (show _ = (_ : Value); first | exact rfl | (refine Eq.trans (b := Value.int IntKind.i64 _) rfl (congrArg (Value.int IntKind.i64) ?_); omega)))))
 ·obtain rfl : k = m.length := by omega
  (repeat (first | ((with_reducible refine is_AL ?_); (first | ((with_reducible refine is_move ?_); (refine At_plain hF (by (first | exact (rfl : _ = some (Value.int _ _)) | exact (rfl : _ = some (Value.map _)))) ?_)) | ((with_reducible refine is_assign ?_); (refine At_plain hF (by (first | exact (rfl : _ = some (Value.int _ _)) | exact (rfl : _ = some (Value.map _)))) ?_)) | with_reducible refine At_nil ?_)) | ((with_reducible refine is_At ?_); (first | with_reducible refine At_seq ?_; intro K hK | with_reducible refine At_region ?_ | with_reducible refine At_ret ?_ | with_reducible refine At_exit ?_ | with_reducible refine At_then_n ?_ | with_reducible refine At_then_e ?_ | with_reducible refine At_inb_e rfl ?_ | with_reducible refine At_go (by assumption) ?_))))
  rw [List.take_length] at hfold
  exact At_ret2 rfl (rv_tmp (by decide)) (rv_tmp (by decide)) (fun w' hw' => ⟨_, rfl, _, by rw [foesPost, foesF, if_neg h20, hfold]; exact ⟨bm, rfl, rfl⟩, hw'⟩)
end Go.Proofs.Ytcjpghiceebkfaa.P

/- carry.carried: the walk of the iterator. -/
namespace Go.Proofs.Ytcjpghiceebkfaa.P
open Go.RowKit Go.Proofs.YtcjpghiceebkfaaW.PrintWords Go.Proofs.YtcjpghiceebkfaaW.PrintLast Go.Proofs.YtcjpghiceebkfaaW.PrintMore
open XW RegInv
attribute [local irreducible] Addr.add
set_option linter.unusedSimpArgs false
set_option linter.unusedVariables false
abbrev ip (b : Nat) : Value := .pointer (some ⟨b, 0, none⟩)
def aft (r : Int) (k : Int × Int) : Int × Int := if k.2 + 1 = r then (k.1, 0) else (k.1, k.2 + 1)
def nxt (es : Ent) (r : Int) (e : (Int × Int) × Int) : Option (Int × Int) := (mget es (aft r e.1)).map fun j => (e.2, j)
def carried_all (es : Ent) (r : Int) (xs : List (Int × Int)) : Prop := ∃ es' : Ent, es'.Perm es ∧ es'.filterMap (nxt es r) = xs
def carried_pre (es : Ent) (r : Int) (xs : List (Int × Int)) : Prop := xs.length ≤ es.length ∧ ∀ x ∈ xs, ∃ e ∈ es, nxt es r e = some x
def args2 (x : Int × Int) : Array Value := #[.int .i64 x.1, .int .i64 x.2]
def ritC (bm b2 b3 : Nat) (es : Ent) (r : Int) : List Res := [.obj b3 (.cells #[.int .i64 r] 3), .obj b2 (.cells #[.map (some bm)] 54), .map epair (Value.int .i64) bm es]
theorem carried_rets (bm : Nat) (r : Int) (w : World) : Rets Try.prog 30 #[.map (some bm), .int .i64 r] w fun u w' => ∃ Rs, (∃ b2 b3, u = .func (.func 43) #[] #[ip b2, ip b3] ∧ Rs = [.obj b3 (.cells #[.int .i64 r] 3), .obj b2 (.cells #[.map (some bm)] 54)]) ∧ Mem w w' Rs := by
 have hF := wide_wide
 refine rets_at (n := 6) Try.func30 rfl Try.ntmps30 (by simp) ?_
 ((repeat (first | ((with_reducible refine is_AL ?_); (first | ((with_reducible refine is_assign ?_); (refine At_plain hF (by (first | exact (rfl : _ = some (Value.func _ _ _)) | exact (rfl : _ = some (Value.nilFunc)))) ?_)) | ((with_reducible refine is_func ?_); (refine At_func2 hF (by (exact (rfl : _ = (Value.pointer _)))) (by (exact (rfl : _ = (Value.pointer _)))) ?_)) | with_reducible refine At_nil ?_)) | ((with_reducible refine is_At ?_); (first | with_reducible refine At_seq ?_; intro K hK | with_reducible refine At_region ?_ | with_reducible refine At_ret ?_ | with_reducible refine At_then_n ?_ | with_reducible refine At_go (by assumption) ?_)))); ((with_reducible refine is_box ?_); (refine At_box1 hF (by (first | exact (rfl : _ = (Value.int _ _)) | exact (rfl : _ = (Value.map _)))) rfl ?_; intro b2)); (repeat (first | ((with_reducible refine is_AL ?_); (first | ((with_reducible refine is_assign ?_); (refine At_plain hF (by (first | exact (rfl : _ = some (Value.func _ _ _)) | exact (rfl : _ = some (Value.nilFunc)))) ?_)) | ((with_reducible refine is_func ?_); (refine At_func2 hF (by (exact (rfl : _ = (Value.pointer _)))) (by (exact (rfl : _ = (Value.pointer _)))) ?_)) | with_reducible refine At_nil ?_)) | ((with_reducible refine is_At ?_); (first | with_reducible refine At_seq ?_; intro K hK | with_reducible refine At_region ?_ | with_reducible refine At_ret ?_ | with_reducible refine At_then_n ?_ | with_reducible refine At_go (by assumption) ?_)))); ((with_reducible refine is_box ?_); (refine At_box1 hF (by (first | exact (rfl : _ = (Value.int _ _)) | exact (rfl : _ = (Value.map _)))) rfl ?_; intro b3)); (repeat (first | ((with_reducible refine is_AL ?_); (first | ((with_reducible refine is_assign ?_); (refine At_plain hF (by (first | exact (rfl : _ = some (Value.func _ _ _)) | exact (rfl : _ = some (Value.nilFunc)))) ?_)) | ((with_reducible refine is_func ?_); (refine At_func2 hF (by (exact (rfl : _ = (Value.pointer _)))) (by (exact (rfl : _ = (Value.pointer _)))) ?_)) | with_reducible refine At_nil ?_)) | ((with_reducible refine is_At ?_); (first | with_reducible refine At_seq ?_; intro K hK | with_reducible refine At_region ?_ | with_reducible refine At_ret ?_ | with_reducible refine At_then_n ?_ | with_reducible refine At_go (by assumption) ?_)))))
 exact At_ret1 rfl (rv_tmp (by decide)) (fun w' hw' => ⟨_, rfl, _, ⟨b2, b3, by rfl, rfl⟩, hw'⟩)
set_option maxHeartbeats 4000000 in
theorem carried_iter {F : Fence} (hF : Wide F) (ha : F.alive = false) (hro : F.round = none) (base : World) (bm b2 b3 : Nat) (es : Ent) (r : Int) (hes : ∀ e ∈ es, 0 ≤ e.1.2 ∧ e.1.2 ≤ 63) :
  IterOk F Try.prog 43 #[ip b2, ip b3] base (ritC bm b2 b3 es r) args2 (carried_pre es r) (carried_all es r) := by
 intro σ l Rc φ ψ hy s0 h0 w hw
 have hk80 := keyOk80
 refine callsIn_at (n := 43) hF hro hw Try.func43 rfl Try.ntmps43 (by simp) ?_
 simp only [ritC, List.cons_append, List.nil_append]
 ((repeat (first | ((with_reducible refine is_AL ?_); (first | ((with_reducible refine is_load ?_); (refine At_load hF 1 rfl rfl (by (exact (rfl : _ = some (Value.map _)))) ?_)) | with_reducible refine At_nil ?_)) | ((with_reducible refine is_At ?_); (first | with_reducible refine At_seq ?_; intro K hK | with_reducible refine At_block ?_ | with_reducible refine At_region ?_ | with_reducible refine At_then_n ?_ | with_reducible refine At_go (by assumption) ?_)))); ((with_reducible refine is_range ?_); (refine At_rangeMap_2 hF rfl ?_; intro r10)); (repeat (first | ((with_reducible refine is_AL ?_); (first | ((with_reducible refine is_load ?_); (refine At_load hF 1 rfl rfl (by (exact (rfl : _ = some (Value.map _)))) ?_)) | with_reducible refine At_nil ?_)) | ((with_reducible refine is_At ?_); (first | with_reducible refine At_seq ?_; intro K hK | with_reducible refine At_block ?_ | with_reducible refine At_region ?_ | with_reducible refine At_then_n ?_ | with_reducible refine At_go (by assumption) ?_)))))
 refine At_loop (fun st : Ent × Ent × σ => [(0, .func (.yield l) #[] #[]), (1, ip b2), (2, ip b3), (10, ip r10)])
  (fun st => .obj b3 (.cells #[.int .i64 r] 3) :: .obj b2 (.cells #[.map (some bm)] 54) :: .mapIt epair (Value.int .i64) bm r10 es st.2.1 :: Rc st.2.2)
  (fun st => (st.1 ++ st.2.1).Perm es ∧ φ (st.1.filterMap (nxt es r)) st.2.2) (fun st => st.2.1.length) ([], es, s0) ?_ ?_ ⟨List.Perm.refl _, h0⟩ ?_
 ·(repeat (first | exact List.Sublist.refl _ | exact List.Sublist.slnil | refine List.Sublist.cons_cons _ ?_ | refine List.Sublist.cons _ ?_))
 ·(repeat (first | exact True.intro | (refine And.intro ?_ ?_; focus (show _ = (_ : Value); first | exact rfl | (refine Eq.trans (b := Value.int IntKind.i64 _) rfl (congrArg (Value.int IntKind.i64) ?_); omega)))))
 rintro ⟨done, left, s⟩ ⟨hperm, hφ⟩ K hL ρ0
 simp only at hperm hφ
 dsimp only
 (repeat (first | ((with_reducible refine is_AL ?_); ((with_reducible refine is_next ?_); (refine At_mapNext_2 hF rfl ?_ ?_))) | ((with_reducible refine is_At ?_); (first | with_reducible refine At_seq ?_; intro K hK | with_reducible refine At_region ?_))))
 ·intro hl
  subst hl
  (repeat (first | ((with_reducible refine is_AL ?_); (first | ((with_reducible refine is_extract ?_); (refine At_plain hF (by (exact (rfl : _ = some (Value.bool _)))) ?_)) | with_reducible refine At_nil ?_)) | ((with_reducible refine is_At ?_); (first | with_reducible refine At_seq ?_; intro K hK | with_reducible refine At_exit ?_ | with_reducible refine At_then_n ?_ | with_reducible refine At_then_e ?_ | with_reducible refine At_inb_e rfl ?_ | with_reducible refine At_go (by assumption) ?_ | ((with_reducible refine is_cond ?_); (refine At_cond_f rfl ?_))))))
  refine At_fin0n rfl ?_
  rw [List.append_nil] at hperm
  refine At_mapDone 2 rfl ?_
  exact fun w' hw' => ⟨_, s, rfl, hw', .inl ⟨_, ⟨done, hperm, rfl⟩, hφ⟩⟩
 rintro l1 ⟨k1, k2⟩ v l2 rfl
 have hmem : ((k1, k2), v) ∈ es := hperm.subset (by simp)
 have hb := hes _ hmem
 simp only at hb
 have hperm2 : ((done ++ [((k1, k2), v)]) ++ (l1 ++ l2)).Perm es := by
  refine List.Perm.trans ?_ hperm
  rw [List.append_assoc]
  show (done ++ ((k1, k2), v) :: (l1 ++ l2)).Perm _
  exact (List.perm_middle.symm).append_left done
 ((repeat (first | ((with_reducible refine is_AL ?_); (first | ((with_reducible refine is_bin ?_); ((with_reducible refine is_badd ?_); (refine At_add hF rfl rfl (by omega) ?_))) | ((with_reducible refine is_assign ?_); (refine At_plain hF (by (exact (rfl : _ = some (Value.int _ _)))) ?_)) | ((with_reducible refine is_extract ?_); (refine At_plain hF (by (first | exact (rfl : _ = some (Value.int _ _)) | exact (rfl : _ = some (Value.bool _)) | exact (rfl : _ = some (Value.agg _)))) ?_)) | ((with_reducible refine is_load ?_); (first | refine At_load hF 0 rfl rfl (by (exact (rfl : _ = some (Value.int _ _)))) ?_ | refine At_load hF 1 rfl rfl (by (exact (rfl : _ = some (Value.int _ _)))) ?_ | refine At_load hF 2 rfl rfl (by (exact (rfl : _ = some (Value.int _ _)))) ?_ | refine At_loadB hF 0 rfl rfl rfl ?_)) | ((with_reducible refine is_index ?_); (refine At_indexA1 hF rfl rfl rfl rfl (by first | decide | (simp only [TArr.m]; omega)) ?_)) | ((with_reducible refine is_build ?_); (refine At_buildPair hF (by decide) rfl rfl rfl ?_)) | ((with_reducible refine is_store ?_); (refine At_storeB_0 hF rfl rfl rfl rfl (by simp [Value.one1, epair]) ?_)) | ((with_reducible refine is_entry ?_); (refine At_mapEntry_2 hF rfl ?_)) | with_reducible refine At_nil ?_)) | ((with_reducible refine is_At ?_); (first | with_reducible refine At_seq ?_; intro K hK | with_reducible refine At_block ?_ | with_reducible refine At_region ?_ | with_reducible refine At_skip ?_ | with_reducible refine At_then_n ?_ | with_reducible refine At_go (by assumption) ?_ | ((with_reducible refine is_cond ?_); (refine At_cond_t rfl ?_)))))); ((with_reducible refine is_alloc ?_); (refine At_alloc hF (by (exact (rfl : _ = List.toArray (_ :: _)))) ?_; intro b4)); (repeat (first | ((with_reducible refine is_AL ?_); (first | ((with_reducible refine is_bin ?_); ((with_reducible refine is_badd ?_); (refine At_add hF rfl rfl (by omega) ?_))) | ((with_reducible refine is_assign ?_); (refine At_plain hF (by (exact (rfl : _ = some (Value.int _ _)))) ?_)) | ((with_reducible refine is_extract ?_); (refine At_plain hF (by (first | exact (rfl : _ = some (Value.int _ _)) | exact (rfl : _ = some (Value.bool _)) | exact (rfl : _ = some (Value.agg _)))) ?_)) | ((with_reducible refine is_load ?_); (first | refine At_load hF 0 rfl rfl (by (exact (rfl : _ = some (Value.int _ _)))) ?_ | refine At_load hF 1 rfl rfl (by (exact (rfl : _ = some (Value.int _ _)))) ?_ | refine At_load hF 2 rfl rfl (by (exact (rfl : _ = some (Value.int _ _)))) ?_ | refine At_loadB hF 0 rfl rfl rfl ?_)) | ((with_reducible refine is_index ?_); (refine At_indexA1 hF rfl rfl rfl rfl (by first | decide | (simp only [TArr.m]; omega)) ?_)) | ((with_reducible refine is_build ?_); (refine At_buildPair hF (by decide) rfl rfl rfl ?_)) | ((with_reducible refine is_store ?_); (refine At_storeB_0 hF rfl rfl rfl rfl (by simp [Value.one1, epair]) ?_)) | ((with_reducible refine is_entry ?_); (refine At_mapEntry_2 hF rfl ?_)) | with_reducible refine At_nil ?_)) | ((with_reducible refine is_At ?_); (first | with_reducible refine At_seq ?_; intro K hK | with_reducible refine At_block ?_ | with_reducible refine At_region ?_ | with_reducible refine At_skip ?_ | with_reducible refine At_then_n ?_ | with_reducible refine At_go (by assumption) ?_ | ((with_reducible refine is_cond ?_); (refine At_cond_t rfl ?_)))))); ((with_reducible refine is_alloc ?_); (refine At_alloc hF (by (exact (rfl : _ = List.toArray (_ :: _)))) ?_; intro b6)); (repeat (first | ((with_reducible refine is_AL ?_); (first | ((with_reducible refine is_bin ?_); ((with_reducible refine is_badd ?_); (refine At_add hF rfl rfl (by omega) ?_))) | ((with_reducible refine is_assign ?_); (refine At_plain hF (by (exact (rfl : _ = some (Value.int _ _)))) ?_)) | ((with_reducible refine is_extract ?_); (refine At_plain hF (by (first | exact (rfl : _ = some (Value.int _ _)) | exact (rfl : _ = some (Value.bool _)) | exact (rfl : _ = some (Value.agg _)))) ?_)) | ((with_reducible refine is_load ?_); (first | refine At_load hF 0 rfl rfl (by (exact (rfl : _ = some (Value.int _ _)))) ?_ | refine At_load hF 1 rfl rfl (by (exact (rfl : _ = some (Value.int _ _)))) ?_ | refine At_load hF 2 rfl rfl (by (exact (rfl : _ = some (Value.int _ _)))) ?_ | refine At_loadB hF 0 rfl rfl rfl ?_)) | ((with_reducible refine is_index ?_); (refine At_indexA1 hF rfl rfl rfl rfl (by first | decide | (simp only [TArr.m]; omega)) ?_)) | ((with_reducible refine is_build ?_); (refine At_buildPair hF (by decide) rfl rfl rfl ?_)) | ((with_reducible refine is_store ?_); (refine At_storeB_0 hF rfl rfl rfl rfl (by simp [Value.one1, epair]) ?_)) | ((with_reducible refine is_entry ?_); (refine At_mapEntry_2 hF rfl ?_)) | with_reducible refine At_nil ?_)) | ((with_reducible refine is_At ?_); (first | with_reducible refine At_seq ?_; intro K hK | with_reducible refine At_block ?_ | with_reducible refine At_region ?_ | with_reducible refine At_skip ?_ | with_reducible refine At_then_n ?_ | with_reducible refine At_go (by assumption) ?_ | ((with_reducible refine is_cond ?_); (refine At_cond_t rfl ?_)))))))
 refine At_eqPair hF (by decide) Try.underlying3 (by kernel_rfl) rfl rfl ?_
 (repeat (first | ((with_reducible refine is_AL ?_); (with_reducible refine At_nil ?_)) | ((with_reducible refine is_At ?_); (first | with_reducible refine At_then_n ?_ | with_reducible refine At_go (by assumption) ?_))))
 obtain ⟨a1, a2, haf⟩ : ∃ a1 a2, aft r (k1, k2) = (a1, a2) := ⟨_, _, rfl⟩
 refine At_merge [(0, .func (.yield l) #[] #[]), (1, ip b2), (2, ip b3), (5, .int .i64 v), (6, ip b6), (10, ip r10)]
  (.obj b6 (.cells #[.int .i64 a1, .int .i64 a2] 80) :: .obj b3 (.cells #[.int .i64 r] 3) :: .obj b2 (.cells #[.map (some bm)] 54) :: .mapIt epair (Value.int .i64) bm r10 es (l1 ++ l2) :: Rc s) ?_ ?_
 ·intro K' hK'
  ((with_reducible refine is_cond ?_); (refine At_cond rfl ?_ ?_ <;> (intro hg; try (simp only [decide_eq_true_eq, decide_eq_false_iff_not, beq_iff_eq, bne_iff_ne, beq_eq_false_iff_ne, bne_eq_false_iff_eq, ne_eq, Bool.not_eq_true', Bool.not_eq_false', Bool.not_true, Bool.not_false, Decidable.not_not] at hg); try (exfalso; first | omega | exact hg True.intro))))
  ·have e : k2 + 1 = r := by
    have := congrArg Prod.snd hg
    simpa using this
   have ea : aft r (k1, k2) = (k1, 0) := by rw [aft, if_pos e]
   obtain ⟨rfl, rfl⟩ : k1 = a1 ∧ 0 = a2 := by rw [ea] at haf; simpa using haf
   (repeat (first | ((with_reducible refine is_AL ?_); (first | ((with_reducible refine is_index ?_); (refine At_indexA1 hF rfl rfl rfl rfl (by first | decide | (simp only [TArr.m]; omega)) ?_)) | ((with_reducible refine is_store ?_); (refine At_store_0 hF rfl (by (exact (rfl : _ = (Value.int _ _)))) (by (exact of_decide_eq_true rfl)) (by exact rfl) (by exact rfl) (by (exact (rfl : _ = List.toArray (_ :: _)))) ?_)) | with_reducible refine At_nil ?_)) | ((with_reducible refine is_At ?_); (first | with_reducible refine At_region ?_ | with_reducible refine At_then_n ?_))))
   refine At.sub ?_ (hK' _ ?_)
   ·(repeat (first | exact List.Sublist.refl _ | exact List.Sublist.slnil | refine List.Sublist.cons_cons _ ?_ | refine List.Sublist.cons _ ?_))
   ·(repeat (first | exact True.intro | (refine And.intro ?_ ?_; focus (show _ = (_ : Value); first | exact rfl | (refine Eq.trans (b := Value.int IntKind.i64 _) rfl (congrArg (Value.int IntKind.i64) ?_); omega)))))
  ·have e : ¬ k2 + 1 = r := fun e => hg (by rw [e])
   have ea : aft r (k1, k2) = (k1, k2 + 1) := by rw [aft, if_neg e]
   obtain ⟨rfl, rfl⟩ : k1 = a1 ∧ k2 + 1 = a2 := by rw [ea] at haf; simpa using haf
   (repeat ((with_reducible refine is_At ?_); (first | with_reducible refine At_skip ?_ | with_reducible refine At_then_n ?_)))
   refine At.sub ?_ (hK' _ ?_)
   ·(repeat (first | exact List.Sublist.refl _ | exact List.Sublist.slnil | refine List.Sublist.cons_cons _ ?_ | refine List.Sublist.cons _ ?_))
   ·(repeat (first | exact True.intro | (refine And.intro ?_ ?_; focus (show _ = (_ : Value); first | exact rfl | (refine Eq.trans (b := Value.int IntKind.i64 _) rfl (congrArg (Value.int IntKind.i64) ?_); omega)))))
 intro ρ1
 (repeat (first | ((with_reducible refine is_AL ?_); (first | ((with_reducible refine is_move ?_); (refine At_plain hF (by (first | exact (rfl : _ = some (Value.bool _)) | exact (rfl : _ = some (Value.tuple _)))) ?_)) | ((with_reducible refine is_assign ?_); (refine At_plain hF (by (first | exact (rfl : _ = some (Value.bool _)) | exact rfl)) ?_)) | ((with_reducible refine is_extract ?_); (refine At_plain hF (by (first | exact (rfl : _ = some (Value.bool _)) | exact rfl)) ?_)) | ((with_reducible refine is_load ?_); (first | refine At_load hF 2 rfl rfl (by (exact (rfl : _ = some (Value.map _)))) ?_ | refine At_loadB hF 0 rfl rfl rfl ?_)) | ((with_reducible refine is_lookup ?_); (refine At_lookupIt hF 3 (k := (_, _)) (by assumption) rfl rfl rfl rfl ?_)) | with_reducible refine At_nil ?_)) | ((with_reducible refine is_At ?_); (first | with_reducible refine At_seq ?_; intro K hK | with_reducible refine At_region ?_ | with_reducible refine At_then_n ?_ | with_reducible refine At_go (by assumption) ?_))))
 have hnext : nxt es r ((k1, k2), v) = (mget es (a1, a2)).map fun j => (v, j) := by rw [← haf]; rfl
 cases hm : mget es (a1, a2) with
 | none =>
  rw [hm] at hnext
  (repeat (first | ((with_reducible refine is_AL ?_); (first | ((with_reducible refine is_guarded ?_); (refine At_guard_f hF rfl (by decide) rfl rfl ?_)) | ((with_reducible refine is_pick ?_); (refine At_plain hF (by (exact (rfl : _ = some (Value.bool _)))) ?_)) | with_reducible refine At_nil ?_)) | ((with_reducible refine is_At ?_); (first | with_reducible refine At_skip ?_ | with_reducible refine At_then_n ?_ | with_reducible refine At_inb_n ?_ | with_reducible refine At_go (by assumption) ?_ | ((with_reducible refine is_cond ?_); (refine At_cond_f rfl ?_))))))
  refine At.sub ?_ (hL (done ++ [((k1, k2), v)], l1 ++ l2, s) _ ⟨hperm2, by rw [List.filterMap_append, List.filterMap_cons, hnext]; simpa using hφ⟩ (by simp) ?_)
  ·(repeat (first | exact List.Sublist.refl _ | exact List.Sublist.slnil | refine List.Sublist.cons_cons _ ?_ | refine List.Sublist.cons _ ?_))
  ·(repeat (first | exact True.intro | (refine And.intro ?_ ?_; focus (show _ = (_ : Value); first | exact rfl | (refine Eq.trans (b := Value.int IntKind.i64 _) rfl (congrArg (Value.int IntKind.i64) ?_); omega)))))
 | some j =>
  rw [hm] at hnext
  have hfm : (done ++ [((k1, k2), v)]).filterMap (nxt es r) = done.filterMap (nxt es r) ++ [(v, j)] := by rw [List.filterMap_append, List.filterMap_cons, hnext]; rfl
  (repeat ((with_reducible refine is_AL ?_); (first | ((with_reducible refine is_guarded ?_); (refine At_guard_t rfl (by decide) rfl ?_)) | ((with_reducible refine is_move ?_); (refine At_plain hF (by (first | exact (rfl : _ = some (Value.int _ _)) | exact (rfl : _ = some (Value.func _ _ _)))) ?_)))))
  refine At_yield hF ha hy [.obj b6 (.cells #[.int .i64 a1, .int .i64 a2] 80), .obj b3 (.cells #[.int .i64 r] 3), .obj b2 (.cells #[.map (some bm)] 54), .mapIt epair (Value.int .i64) bm r10 es (l1 ++ l2)] (v, j) hφ ?_ rfl rfl (arg2 (by (first | exact (rfl : _ = (Value.int _ _)) | exact (rfl : _ = (Value.bool _)) | exact (rfl : _ = (Value.pointer _)) | exact (rfl : _ = (Value.slice _ _ _)) | exact (rfl : _ = (Value.map _)) | exact (rfl : _ = (Value.func _ _ _)) | exact (rfl : _ = (Value.tuple _)) | exact (rfl : _ = (Value.agg _)) | exact (rfl : _ = (Value.string _)) | exact (rfl : _ = (Value.nilFunc)) | exact (rfl : _ = (Value.nilIface)))) (by (first | exact (rfl : _ = (Value.int _ _)) | exact (rfl : _ = (Value.bool _)) | exact (rfl : _ = (Value.pointer _)) | exact (rfl : _ = (Value.slice _ _ _)) | exact (rfl : _ = (Value.map _)) | exact (rfl : _ = (Value.func _ _ _)) | exact (rfl : _ = (Value.tuple _)) | exact (rfl : _ = (Value.agg _)) | exact (rfl : _ = (Value.string _)) | exact (rfl : _ = (Value.nilFunc)) | exact (rfl : _ = (Value.nilIface))))) ?_ ?_
  ·rw [← hfm]
   refine ⟨Nat.le_trans (List.length_filterMap_le _ _) (by rw [← hperm2.length_eq]; simp), ?_⟩
   intro x hx
   obtain ⟨e, he, hex⟩ := List.mem_filterMap.1 hx
   exact ⟨e, hperm2.subset (List.mem_append_left _ he), hex⟩
  ·intro s' hs'
   simp only [List.cons_append, List.nil_append]
   rw [← hfm] at hs'
   (repeat (first | ((with_reducible refine is_AL ?_); (first | ((with_reducible refine is_guarded ?_); (refine At_guard_t rfl (by decide) rfl ?_)) | ((with_reducible refine is_pick ?_); (refine At_plain hF (by (exact (rfl : _ = some (Value.bool _)))) ?_)) | ((with_reducible refine is_un ?_); (refine At_plain hF (by (exact (rfl : _ = some (Value.bool _)))) ?_)) | with_reducible refine At_nil ?_)) | ((with_reducible refine is_At ?_); (first | with_reducible refine At_skip ?_ | with_reducible refine At_then_n ?_ | with_reducible refine At_inb_n ?_ | with_reducible refine At_go (by assumption) ?_ | ((with_reducible refine is_cond ?_); (refine At_cond_f rfl ?_))))))
   refine At.sub ?_ (hL (done ++ [((k1, k2), v)], l1 ++ l2, s') _ ⟨hperm2, hs'⟩ (by simp) ?_)
   ·(repeat (first | exact List.Sublist.refl _ | exact List.Sublist.slnil | refine List.Sublist.cons_cons _ ?_ | refine List.Sublist.cons _ ?_))
   ·(repeat (first | exact True.intro | (refine And.intro ?_ ?_; focus (show _ = (_ : Value); first | exact rfl | (refine Eq.trans (b := Value.int IntKind.i64 _) rfl (congrArg (Value.int IntKind.i64) ?_); omega)))))
  ·intro s' hs'
   simp only [List.cons_append, List.nil_append]
   (repeat (first | ((with_reducible refine is_AL ?_); (first | ((with_reducible refine is_guarded ?_); (refine At_guard_t rfl (by decide) rfl ?_)) | ((with_reducible refine is_pick ?_); (refine At_plain hF (by (exact (rfl : _ = some (Value.bool _)))) ?_)) | ((with_reducible refine is_un ?_); (refine At_plain hF (by (exact (rfl : _ = some (Value.bool _)))) ?_)) | with_reducible refine At_nil ?_)) | ((with_reducible refine is_At ?_); (first | with_reducible refine At_ret ?_ | with_reducible refine At_then_n ?_ | with_reducible refine At_then_r ?_ | with_reducible refine At_inb_r ?_ | with_reducible refine At_go (by assumption) ?_ | ((with_reducible refine is_cond ?_); (refine At_cond_t rfl ?_))))))
   refine At_fin0 rfl ?_
   refine At_mapDone 3 rfl ?_
   exact At.sub (List.sublist_cons_self _ _) (fun w' hw' => ⟨_, s', rfl, hw', .inr hs'⟩)
end Go.Proofs.Ytcjpghiceebkfaa.P

/- carry.Matrix: the walk. -/
namespace Go.Proofs.Ytcjpghiceebkfaa.P
open Go.RowKit Go.Proofs.YtcjpghiceebkfaaW.PrintWords Go.Proofs.YtcjpghiceebkfaaW.PrintLast Go.Proofs.YtcjpghiceebkfaaW.PrintMore
open XW RegInv
attribute [local irreducible] Addr.add
set_option linter.unusedSimpArgs false
set_option linter.unusedVariables false
theorem E29 : Enters Try.prog 29 := enters Try.func29 (by kernel_rfl) rfl
theorem E30 : Enters Try.prog 30 := enters Try.func30 (by kernel_rfl) rfl
theorem E43 : Enters Try.prog 43 := enters Try.func43 (by kernel_rfl) rfl
def bump (M : List (List Int)) (x : Int × Int) : List (List Int) := M.set x.1.toNat ((M.getD x.1.toNat []).set x.2.toNat ((M.getD x.1.toNat []).getD x.2.toNat 0 + 1))
structure EntOk (n : Int) (es : Ent) (r : Int) : Prop where
 key : ∀ e ∈ es, 0 ≤ e.1.1 ∧ e.1.1 < n ∧ 0 ≤ e.1.2 ∧ e.1.2 ≤ 63 ∧ 0 ≤ e.2 ∧ e.2 < n
 get : ∀ k v, mget es k = some v → 0 ≤ v ∧ v < n
 len : es.length ≤ 2000000
def matPost (n : Int) (m : List S45) (u : Value) (Rs : List Res) : Prop := match foesF n m with
 | none => u = .tuple #[.slice none 0 0, .int .i64 220] ∧ Rs = []
 | some (es, r) => ∃ bc bs M xs, carried_all es r xs ∧ M = xs.foldl bump (List.replicate n.toNat (List.replicate n.toNat 0)) ∧ bs.length = n.toNat ∧ u = .tuple #[.slice (some ⟨bc, 0, none⟩) n.toNat n.toNat, .int .i64 0] ∧
   Rs = [.obj bc (.cells (buf (sc (gvo n.toNat)) (bs.map some) []) 33 (0, 0)), .grid 3 (Value.int .i64) bs M]
theorem outer_set (N i bi : Nat) (bs : List Nat) (hbs : bs.length = i) (hi : i < N) : (buf (sc (gvo N)) (bs.map some ++ List.replicate (N - i) none) []).setIfInBounds i (.slice (some ⟨bi, 0, none⟩) N N) = buf (sc (gvo N)) ((bs ++ [bi]).map some ++ List.replicate (N - (i + 1)) none) [] := by
 have h := buf_set1 (junk := []) (l := bs.map some ++ List.replicate (N - i) none) (gvo N) (k := i) (x := some bi) (by simp; omega)
 rw [show Value.slice (some ⟨bi, 0, none⟩) N N = gvo N (some bi) from rfl, h]
 congr 1
 subst hbs
 rw [show N - bs.length = (N - (bs.length + 1)) + 1 by omega, List.replicate_succ, List.set_append_right _ _ (by simp)]
 simp
def M0 (N : Nat) : List (List Int) := List.replicate N (List.replicate N 0)
theorem bump_len (M : List (List Int)) (x : Int × Int) : (bump M x).length = M.length := by simp [bump]
theorem bump_row (M : List (List Int)) (x : Int × Int) (N : Nat) (h : ∀ r, r < M.length → (M.getD r []).length = N) : ∀ r, r < M.length → ((bump M x).getD r []).length = N := by
 intro r hr
 simp only [bump, List.getD_eq_getElem?_getD, List.getElem?_set]
 split
 ·rename_i e
  subst e
  simp only [hr, if_true, Option.getD_some, List.length_set]
  have := h x.1.toNat hr
  rwa [List.getD_eq_getElem?_getD] at this
 ·have := h r hr
  rwa [List.getD_eq_getElem?_getD] at this
theorem bump_le (M : List (List Int)) (x : Int × Int) (c : Int) (h : ∀ r k, 0 ≤ (M.getD r []).getD k 0 ∧ (M.getD r []).getD k 0 ≤ c) : ∀ r k, 0 ≤ ((bump M x).getD r []).getD k 0 ∧ ((bump M x).getD r []).getD k 0 ≤ c + 1 := by
 intro r k
 have hrk := h r k
 have hx := h x.1.toNat x.2.toNat
 have hc := h r x.2.toNat
 simp only [bump, List.getD_eq_getElem?_getD, List.getElem?_set] at *
 by_cases e : x.1.toNat = r
 ·subst e
  rw [if_pos rfl]
  by_cases hl : x.1.toNat < M.length
  ·simp only [hl, if_true, Option.getD_some, List.getElem?_set]
   by_cases e2 : x.2.toNat = k
   ·subst e2
    rw [if_pos rfl]
    by_cases hk : x.2.toNat < (M[x.1.toNat]?.getD []).length
    ·simp only [hk, if_true, Option.getD_some]; omega
    ·simp only [hk, if_false, Option.getD_none]; omega
   ·rw [if_neg e2]; omega
  ·simp only [hl, if_false, Option.getD_none]
   simp; omega
 ·rw [if_neg e]; omega
set_option maxHeartbeats 4000000 in
theorem matrix_rets (n : Int) (A : Option Addr) (c : Nat) (m : List S45) (w : World) (hr : Kd.C k45 w A m.length m) (hc : m.length ≤ c) (hok : ∀ es r, foesF n m = some (es, r) → 2 ≤ n ∧ n ≤ 20 ∧ EntOk n es r) :
  Rets Try.prog 11 #[.int .i64 n, .slice A m.length c] w fun u w' => ∃ Rs, matPost n m u Rs ∧ Mem w w' Rs := by
 have hF := wide_wide
 refine rets_at (n := 47) Try.func11 rfl Try.ntmps11 (by simp) ?_
 ((repeat (first | ((with_reducible refine is_AL ?_); (first | ((with_reducible refine is_move ?_); (refine At_plain hF (by (first | exact (rfl : _ = some (Value.int _ _)) | exact (rfl : _ = some (Value.slice _ _ _)))) ?_)) | ((with_reducible refine is_assign ?_); (refine At_plain hF (by (exact (rfl : _ = some (Value.int _ _)))) ?_)) | with_reducible refine At_nil ?_)) | ((with_reducible refine is_At ?_); (first | with_reducible refine At_seq ?_; intro K hK | with_reducible refine At_region ?_ | with_reducible refine At_then_n ?_ | with_reducible refine At_go (by assumption) ?_)))); ((with_reducible refine is_alloc ?_); (refine At_alloc hF (by (exact (rfl : _ = List.toArray (_ :: _)))) ?_; intro b4)); (repeat (first | ((with_reducible refine is_AL ?_); (first | ((with_reducible refine is_move ?_); (refine At_plain hF (by (first | exact (rfl : _ = some (Value.int _ _)) | exact (rfl : _ = some (Value.slice _ _ _)))) ?_)) | ((with_reducible refine is_assign ?_); (refine At_plain hF (by (exact (rfl : _ = some (Value.int _ _)))) ?_)) | with_reducible refine At_nil ?_)) | ((with_reducible refine is_At ?_); (first | with_reducible refine At_seq ?_; intro K hK | with_reducible refine At_region ?_ | with_reducible refine At_then_n ?_ | with_reducible refine At_go (by assumption) ?_)))))
 refine At_callM hF E29 rfl (arg2 (by (first | exact (rfl : _ = (Value.int _ _)) | exact (rfl : _ = (Value.bool _)) | exact (rfl : _ = (Value.pointer _)) | exact (rfl : _ = (Value.slice _ _ _)) | exact (rfl : _ = (Value.map _)) | exact (rfl : _ = (Value.func _ _ _)) | exact (rfl : _ = (Value.tuple _)) | exact (rfl : _ = (Value.agg _)) | exact (rfl : _ = (Value.string _)) | exact (rfl : _ = (Value.nilFunc)) | exact (rfl : _ = (Value.nilIface)))) (by (first | exact (rfl : _ = (Value.int _ _)) | exact (rfl : _ = (Value.bool _)) | exact (rfl : _ = (Value.pointer _)) | exact (rfl : _ = (Value.slice _ _ _)) | exact (rfl : _ = (Value.map _)) | exact (rfl : _ = (Value.func _ _ _)) | exact (rfl : _ = (Value.tuple _)) | exact (rfl : _ = (Value.agg _)) | exact (rfl : _ = (Value.string _)) | exact (rfl : _ = (Value.nilFunc)) | exact (rfl : _ = (Value.nilIface))))) (fun w' hw' => foes_rets n A c m w' (Kd.C_below hr hw'.below) hc) ?_
 intro u Rs hp
 unfold foesPost at hp
 cases hff : foesF n m with
 | none =>
  rw [hff] at hp
  obtain ⟨rfl, rfl⟩ := hp
  simp only [List.nil_append]
  (repeat (first | ((with_reducible refine is_AL ?_); (first | ((with_reducible refine is_move ?_); (refine At_plain hF (by (first | exact (rfl : _ = some (Value.map _)) | exact (rfl : _ = some (Value.tuple _)))) ?_)) | ((with_reducible refine is_bin ?_); (refine At_eqMapNil hF (by kernel_rfl) rfl rfl ?_)) | ((with_reducible refine is_assign ?_); (refine At_plain hF (by (first | exact (rfl : _ = some (Value.int _ _)) | exact (rfl : _ = some (Value.map _)))) ?_)) | ((with_reducible refine is_extract ?_); (refine At_plain hF (by (first | exact (rfl : _ = some (Value.int _ _)) | exact (rfl : _ = some (Value.map _)))) ?_)) | ((with_reducible refine is_store ?_); (refine At_store_0 hF rfl (by (exact (rfl : _ = (Value.slice _ _ _)))) (by (decide)) (by exact rfl) (by exact rfl) (by (exact (rfl : _ = List.toArray (_ :: _)))) ?_)) | with_reducible refine At_nil ?_)) | ((with_reducible refine is_At ?_); (first | with_reducible refine At_seq ?_; intro K hK | with_reducible refine At_region ?_ | with_reducible refine At_ret ?_ | with_reducible refine At_then_n ?_ | with_reducible refine At_then_r ?_ | with_reducible refine At_go (by assumption) ?_ | ((with_reducible refine is_cond ?_); (refine At_cond_t rfl ?_))))))
  refine At_ret2 rfl (rv_cell (by decide) rfl 0 rfl rfl) (rv_tmp (by decide)) ?_
  exact At.sub (List.nil_sublist _) (fun w' hw' => ⟨_, rfl, [], by rw [matPost, hff]; exact ⟨rfl, rfl⟩, hw'⟩)
 | some p =>
  obtain ⟨es, r⟩ := p
  rw [hff] at hp
  obtain ⟨bm, rfl, rfl⟩ := hp
  obtain ⟨hn2, hn20, hes⟩ := hok es r hff
  obtain ⟨N, rfl⟩ : ∃ N : Nat, n = N := ⟨n.toNat, by omega⟩
  simp only [List.cons_append, List.nil_append]
  (repeat (first | ((with_reducible refine is_AL ?_); (first | ((with_reducible refine is_move ?_); (refine At_plain hF (by (first | exact (rfl : _ = some (Value.int _ _)) | exact (rfl : _ = some (Value.map _)) | exact (rfl : _ = some (Value.tuple _)))) ?_)) | ((with_reducible refine is_bin ?_); (refine At_eqMapNil hF (by kernel_rfl) rfl rfl ?_)) | ((with_reducible refine is_assign ?_); (refine At_plain hF (by (first | exact (rfl : _ = some (Value.int _ _)) | exact (rfl : _ = some (Value.map _)))) ?_)) | ((with_reducible refine is_extract ?_); (refine At_plain hF (by (first | exact (rfl : _ = some (Value.int _ _)) | exact (rfl : _ = some (Value.map _)))) ?_)) | with_reducible refine At_nil ?_)) | ((with_reducible refine is_At ?_); (first | with_reducible refine At_seq ?_; intro K hK | with_reducible refine At_region ?_ | with_reducible refine At_skip ?_ | with_reducible refine At_then_n ?_ | with_reducible refine At_go (by assumption) ?_ | ((with_reducible refine is_cond ?_); (refine At_cond_f rfl ?_))))))
  (refine At_make hF (gvo N) none rfl rfl rfl rfl (by exact rfl) (by exact rfl) (by simp only [TS.bytes] <;> omega) (by omega) ?_; intro bc)
  (repeat (first | ((with_reducible refine is_AL ?_); (first | ((with_reducible refine is_move ?_); (refine At_plain hF (by (exact (rfl : _ = some (Value.int _ _)))) ?_)) | ((with_reducible refine is_call ?_); (refine At_len hF rfl ?_)) | ((with_reducible refine is_load ?_); (refine At_load hF 2 rfl rfl (by (exact (rfl : _ = some (Value.slice _ _ _)))) ?_)) | ((with_reducible refine is_store ?_); (refine At_store_2 hF rfl (by (exact (rfl : _ = (Value.slice _ _ _)))) (by (decide)) (by exact rfl) (by exact rfl) (by (exact (rfl : _ = List.toArray (_ :: _)))) ?_)) | with_reducible refine At_nil ?_)) | ((with_reducible refine is_At ?_); (first | with_reducible refine At_seq ?_; intro K hK | with_reducible refine At_block ?_ | with_reducible refine At_region ?_ | with_reducible refine At_then_n ?_ | with_reducible refine At_go (by assumption) ?_))))
  refine At.gridNew 3 (Value.int .i64) ?_
  refine At_loop (fun st : Nat × List Nat => [(0, .int .i64 N), (4, ip b4), (5, .int .i64 0), (6, .map (some bm)), (7, .int .i64 r), (22, .int .i64 N), (23, .int .i64 st.1)])
   (fun st => [.grid 3 (Value.int .i64) st.2 (List.replicate st.1 (List.replicate N 0)), .obj bc (.cells (buf (sc (gvo N)) (st.2.map some ++ List.replicate (N - st.1) none) []) 33), .map epair (Value.int .i64) bm es, .obj b4 (.cells #[.slice (some ⟨bc, 0, none⟩) N N] 25)])
   (fun st => st.1 ≤ N ∧ st.2.length = st.1) (fun st => N - st.1) (0, []) ?_ ?_ ⟨Nat.zero_le _, rfl⟩ ?_
  ·(repeat (first | exact List.Sublist.refl _ | exact List.Sublist.slnil | refine List.Sublist.cons_cons _ ?_ | refine List.Sublist.cons _ ?_))
  ·(repeat (first | exact True.intro | (refine And.intro ?_ ?_; focus (show _ = (_ : Value); first | exact rfl | (refine Eq.trans (b := Value.int IntKind.i64 _) rfl (congrArg (Value.int IntKind.i64) ?_); omega)))))
  rintro ⟨i, bs⟩ ⟨hi, hbs⟩ K hL ρ0
  simp only at hi hbs
  dsimp only
  (repeat (first | ((with_reducible refine is_AL ?_); (first | ((with_reducible refine is_bin ?_); (refine At_plain hF (by (exact (rfl : _ = some (Value.bool _)))) ?_)) | with_reducible refine At_nil ?_)) | ((with_reducible refine is_At ?_); (first | with_reducible refine At_seq ?_; intro K hK | with_reducible refine At_region ?_ | with_reducible refine At_then_n ?_ | with_reducible refine At_go (by assumption) ?_))))
  ((with_reducible refine is_cond ?_); (refine At_cond rfl ?_ ?_ <;> (intro hg; try (simp only [decide_eq_true_eq, decide_eq_false_iff_not, beq_iff_eq, bne_iff_ne, beq_eq_false_iff_ne, bne_eq_false_iff_eq, ne_eq, Bool.not_eq_true', Bool.not_eq_false', Bool.not_true, Bool.not_false, Decidable.not_not] at hg); try (exfalso; first | omega | exact hg True.intro))))
  ·have hlt : i < N := by omega
   (repeat (first | ((with_reducible refine is_AL ?_); (first | ((with_reducible refine is_move ?_); (refine At_plain hF (by (exact (rfl : _ = some (Value.int _ _)))) ?_)) | ((with_reducible refine is_assign ?_); (refine At_plain hF (by (exact (rfl : _ = some (Value.int _ _)))) ?_)) | with_reducible refine At_nil ?_)) | ((with_reducible refine is_At ?_); (first | with_reducible refine At_seq ?_; intro K hK | with_reducible refine At_block ?_ | with_reducible refine At_region ?_ | with_reducible refine At_skip ?_ | with_reducible refine At_then_n ?_ | with_reducible refine At_go (by assumption) ?_))))
   refine At_drawW hF 4 [0, 1, 2] [3] ([.obj b4 (.cells #[.slice (some ⟨bc, 0, none⟩) N N] 25)]) (by kernel_rfl) (by decide +kernel) ?_; simp only [List.drop_succ_cons, List.drop_zero]; (repeat ((with_reducible refine is_AQE ?_); refine AQE_cons (by exact (rfl : _ = some (Oper.mk _ _ _ _ _ _))) (by intro E K Q hK; simp only [List.cons_append, List.nil_append] at hK ⊢; (repeat (first | ((with_reducible refine is_move ?_); (refine At_plain hF (by (exact (rfl : _ = some (Value.int _ _)))) ?_)) | ((with_reducible refine is_load ?_); (refine At_load hF 0 rfl rfl (by (exact (rfl : _ = some (Value.slice _ _ _)))) ?_)))); exact At_nilK hK) ?_)); refine AQE_done ?_
   (refine WAt_cons ?_ (by exact (rfl : _ = some (Oper.mk _ _ _ _ _ _))) ?_; (focus (repeat (first | exact List.Sublist.refl _ | exact List.Sublist.slnil | refine List.Sublist.cons_cons _ ?_ | refine List.Sublist.cons _ ?_))); intro K Q hK)
   (refine At_make hF (Value.int .i64) 0 rfl rfl rfl rfl (by exact rfl) (by exact rfl) (by simp only [TS.bytes] <;> omega) (by omega) ?_; intro bi)
   refine At_nilK (hK _ _ ?_)
   (refine WAt_nil ?_ ?_; (focus (repeat (first | exact List.Sublist.refl _ | exact List.Sublist.slnil | refine List.Sublist.cons_cons _ ?_ | refine List.Sublist.cons _ ?_))))
   (repeat (first | ((with_reducible refine is_AL ?_); (first | ((with_reducible refine is_move ?_); (refine At_plain hF (by (exact (rfl : _ = some (Value.int _ _)))) ?_)) | ((with_reducible refine is_bin ?_); ((with_reducible refine is_badd ?_); (refine At_add hF rfl rfl (by omega) ?_))) | ((with_reducible refine is_index ?_); (refine At_indexS1 hF rfl rfl rfl (by omega) ?_)) | ((with_reducible refine is_store ?_); (refine At_store_2 hF rfl (by (exact (rfl : _ = (Value.slice _ _ _)))) (by (simp [buf_size1]; omega)) (by exact rfl) (by exact rfl) (by (exact rfl)) ?_)) | with_reducible refine At_nil ?_)) | ((with_reducible refine is_At ?_); (first | with_reducible refine At_region ?_ | with_reducible refine At_then_n ?_ | with_reducible refine At_inb_n ?_ | with_reducible refine At_go (by assumption) ?_))))
   rw [outer_set N i bi bs hbs hlt]
   refine At.gridPush ?_
   rw [show List.replicate i (List.replicate N (0 : Int)) ++ [List.replicate N 0] = List.replicate (i + 1) (List.replicate N 0) from (List.replicate_succ' ..).symm]
   refine At.sub ?_ (hL (i + 1, bs ++ [bi]) _ ⟨hlt, by simp [hbs]⟩ (by simp only; omega) ?_)
   ·(repeat (first | exact List.Sublist.refl _ | exact List.Sublist.slnil | refine List.Sublist.cons_cons _ ?_ | refine List.Sublist.cons _ ?_))
   ·(repeat (first | exact True.intro | (refine And.intro ?_ ?_; focus (show _ = (_ : Value); first | exact rfl | (refine Eq.trans (b := Value.int IntKind.i64 _) rfl (congrArg (Value.int IntKind.i64) ?_); omega)))))
  obtain rfl : i = N := by omega
  rw [show i - i = 0 by omega, show List.map some bs ++ List.replicate 0 none = bs.map some by simp, buf_map]
  (repeat (first | ((with_reducible refine is_AL ?_); ((with_reducible refine is_move ?_); (refine At_plain hF (by (first | exact (rfl : _ = some (Value.int _ _)) | exact (rfl : _ = some (Value.map _)))) ?_))) | ((with_reducible refine is_At ?_); (first | with_reducible refine At_seq ?_; intro K hK | with_reducible refine At_region ?_ | with_reducible refine At_exit ?_ | with_reducible refine At_then_n ?_ | with_reducible refine At_then_e ?_ | with_reducible refine At_inb_e rfl ?_ | with_reducible refine At_go (by assumption) ?_))))
  refine At_callM hF E30 rfl (arg2 (by (first | exact (rfl : _ = (Value.int _ _)) | exact (rfl : _ = (Value.bool _)) | exact (rfl : _ = (Value.pointer _)) | exact (rfl : _ = (Value.slice _ _ _)) | exact (rfl : _ = (Value.map _)) | exact (rfl : _ = (Value.func _ _ _)) | exact (rfl : _ = (Value.tuple _)) | exact (rfl : _ = (Value.agg _)) | exact (rfl : _ = (Value.string _)) | exact (rfl : _ = (Value.nilFunc)) | exact (rfl : _ = (Value.nilIface)))) (by (first | exact (rfl : _ = (Value.int _ _)) | exact (rfl : _ = (Value.bool _)) | exact (rfl : _ = (Value.pointer _)) | exact (rfl : _ = (Value.slice _ _ _)) | exact (rfl : _ = (Value.map _)) | exact (rfl : _ = (Value.func _ _ _)) | exact (rfl : _ = (Value.tuple _)) | exact (rfl : _ = (Value.agg _)) | exact (rfl : _ = (Value.string _)) | exact (rfl : _ = (Value.nilFunc)) | exact (rfl : _ = (Value.nilIface))))) (fun w' hw' => carried_rets bm r w') ?_
  rintro u Rs ⟨b2, b3, rfl, rfl⟩
  simp only [List.cons_append, List.nil_append]
  (repeat (first | ((with_reducible refine is_AL ?_); (with_reducible refine At_nil ?_)) | ((with_reducible refine is_At ?_); (first | with_reducible refine At_block ?_ | with_reducible refine At_then_n ?_ | with_reducible refine At_go (by assumption) ?_))))
  have hes' : ∀ e ∈ es, 0 ≤ e.1.2 ∧ e.1.2 ≤ 63 := fun e he => ⟨(hes.key e he).2.2.1, (hes.key e he).2.2.2.1⟩
  (refine At.pick [0, 1, 4, 2, 3, 5] (by decide) (R' := [_, _, _, _, _, _]) rfl ?_)
  refine At_range hF rfl rfl rfl E43 (ritC bm b2 b3 es r) args2 (carried_pre es r) (carried_all es r) (carried_iter hF rfl rfl w bm b2 b3 es r hes')
   (fun M : List (List Int) => [.grid 3 (Value.int .i64) bs M, .obj bc (.cells (buf (sc (gv i)) bs []) 33), .obj b4 (.cells #[.slice (some ⟨bc, 0, none⟩) i i] 25)])
   (fun xs M => M = xs.foldl bump (M0 i) ∧ M.length = i ∧ (∀ r, r < M.length → (M.getD r []).length = i) ∧ ∀ r k, 0 ≤ (M.getD r []).getD k 0 ∧ (M.getD r []).getD k 0 ≤ xs.length) (fun _ _ => False) (M0 i) ?_ ?_ (fun _ => rfl) ?_ ?_ ?_
  ·exact List.Sublist.refl _
  ·refine ⟨rfl, by simp [M0], fun r hr => ?_, fun r k => ?_⟩
   ·simp [M0] at hr
    simp [M0, List.getD_eq_getElem?_getD, hr]
   ·by_cases h : r < i
    ·by_cases h2 : k < i
     ·simp [M0, List.getD_eq_getElem?_getD, h, h2]
     ·simp [M0, List.getD_eq_getElem?_getD, h, h2]
    ·simp [M0, List.getD_eq_getElem?_getD, h]
  ·rintro l rec Ri xs ⟨x1, x2⟩ M ⟨hM, hMl, hMr, hMb⟩ hpre
   have hF := Wide.inRound hF l
   simp only [List.cons_append, List.nil_append]
   (repeat (first | ((with_reducible refine is_AL ?_); (first | ((with_reducible refine is_assign ?_); (refine At_plain hF (by (exact (rfl : _ = some (Value.int _ _)))) ?_)) | with_reducible refine At_nil ?_)) | ((with_reducible refine is_At ?_); (first | with_reducible refine At_seq ?_; intro K hK | with_reducible refine At_region ?_ | with_reducible refine At_then_n ?_ | with_reducible refine At_go (by assumption) ?_))))
   refine fun w' hw' => ⟨rfl, hw', ?_⟩
   obtain ⟨e, he, hex⟩ := hpre.2 (x1, x2) (by simp)
   have hk := hes.key e he
   obtain ⟨j, hj, hjx⟩ := Option.map_eq_some_iff.1 hex
   have hg := hes.get _ _ hj
   simp only [Prod.mk.injEq] at hjx
   obtain ⟨rfl, rfl⟩ := hjx
   have hlen : xs.length + 1 ≤ 2000000 := by
    have := hpre.1
    have := hes.len
    simp at this ⊢
    simp at *
    omega
   have hb : 0 ≤ (M.getD e.2.toNat []).getD j.toNat default ∧ (M.getD e.2.toNat []).getD j.toNat default ≤ xs.length := hMb e.2.toNat j.toNat
   (repeat (first | ((with_reducible refine is_AL ?_); (first | ((with_reducible refine is_move ?_); (refine At_plain hF (by (exact (rfl : _ = some (Value.int _ _)))) ?_)) | ((with_reducible refine is_load ?_); (first | refine At_load hF 2 rfl rfl (by (exact buf_getI _ (by omega))) ?_ | refine At_load hF 3 rfl rfl (by (exact (rfl : _ = some (Value.slice _ _ _)))) ?_)) | ((with_reducible refine is_index ?_); (refine At_indexS1i hF rfl rfl rfl (by omega) (by omega) ?_)))) | ((with_reducible refine is_At ?_); (first | with_reducible refine At_block ?_ | with_reducible refine At_region ?_))))
   have hr1 : e.2.toNat < bs.length := by omega
   have hj1 : j.toNat < (M.getD e.2.toNat []).length := by rw [hMr _ (by omega)]; omega
   refine At_loadGrid (r := e.2.toNat) hF 1 (by exact rfl) rfl hr1 hj1 ?_
   (repeat ((with_reducible refine is_AL ?_); (first | ((with_reducible refine is_bin ?_); ((with_reducible refine is_badd ?_); (refine At_add hF rfl rfl (by omega) ?_))) | ((with_reducible refine is_index ?_); (refine At_indexS1i hF rfl rfl rfl (by omega) (by omega) ?_)))))
   refine At_storeGrid (r := e.2.toNat) (a := (M.getD e.2.toNat []).getD j.toNat default + 1) hF 1 (by exact rfl) (by exact rfl) rfl rfl rfl rfl hr1 hj1 ?_
   simp only [List.set_cons_succ, List.set_cons_zero]
   (repeat (first | ((with_reducible refine is_AL ?_); (with_reducible refine At_nil ?_)) | ((with_reducible refine is_At ?_); (with_reducible refine At_inb_n ?_))))
   refine rnd_n (bump M (e.2, j)) ?_ ⟨by rw [List.foldl_append, hM]; rfl, by rw [bump_len, hMl], ?_, ?_⟩
   ·exact List.Sublist.refl _
   ·intro r hr
    rw [bump_len] at hr
    exact bump_row M _ i hMr r hr
   ·have := bump_le M (e.2, j) xs.length hMb
    intro r k
    have := this r k
    simp only [List.length_append, List.length_singleton]
    omega
  ·rintro D xs M hall ⟨hM, -⟩
   simp only [ritC, List.cons_append, List.nil_append]
   (repeat (first | ((with_reducible refine is_AL ?_); (first | ((with_reducible refine is_assign ?_); (refine At_plain hF (by (exact (rfl : _ = some (Value.int _ _)))) ?_)) | ((with_reducible refine is_load ?_); (refine At_load hF 6 rfl rfl (by (exact (rfl : _ = some (Value.slice _ _ _)))) ?_)) | ((with_reducible refine is_store ?_); (refine At_store_6 hF rfl (by (exact (rfl : _ = (Value.slice _ _ _)))) (by (exact of_decide_eq_true rfl)) (by exact rfl) (by exact rfl) (by (exact (rfl : _ = List.toArray (_ :: _)))) ?_)) | with_reducible refine At_nil ?_)) | ((with_reducible refine is_At ?_); (first | with_reducible refine At_seq ?_; intro K hK | with_reducible refine At_region ?_ | with_reducible refine At_ret ?_ | with_reducible refine At_then_n ?_ | with_reducible refine At_inb_n ?_ | with_reducible refine At_go (by assumption) ?_))))
   refine At_retm2 rfl (rv_cell (by decide) rfl 5 rfl rfl) (rv_tmp (by decide)) ?_
   exact At.pick [4, 3] (by decide) rfl (fun w' hw' => ⟨_, rfl, _, by rw [matPost, hff]; exact ⟨bc, bs, M, xs, hall, hM, hbs, rfl, by rw [buf_map]; rfl⟩, hw'⟩)
  ·exact fun D e s he hf => hf.elim
end Go.Proofs.Ytcjpghiceebkfaa.P

/- Counting: the matrix by its pairs; what foes' entries are. Plain. -/
namespace Go.Proofs.Ytcjpghiceebkfaa.P
open XW
set_option linter.unusedSimpArgs false
set_option linter.unusedVariables false
def cntM (N : Nat) (xs : List (Int × Int)) : List (List Int) := (List.range N).map fun (i : Nat) => (List.range N).map fun (j : Nat) => (xs.count ((i : Int), (j : Int)) : Int)
theorem cntM_len (N : Nat) (xs : List (Int × Int)) : (cntM N xs).length = N := by simp [cntM]
theorem cntM_get (N : Nat) (xs : List (Int × Int)) (i : Nat) (hi : i < N) : (cntM N xs).getD i [] = (List.range N).map fun (j : Nat) => (xs.count ((i : Int), (j : Int)) : Int) := by
 simp [cntM, List.getD_eq_getElem?_getD, hi]
theorem cntM_row (N : Nat) (xs : List (Int × Int)) : ∀ row ∈ cntM N xs, row.length = N := by
 intro row h
 simp only [cntM, List.mem_map] at h
 obtain ⟨i, _, rfl⟩ := h
 simp
theorem cntM_perm (N : Nat) {xs ys : List (Int × Int)} (h : xs.Perm ys) : cntM N xs = cntM N ys := by
 simp only [cntM]
 congr 1
 funext i
 congr 1
 funext j
 rw [h.count_eq]
theorem cntM_nil (N : Nat) : cntM N [] = M0 N := by
 simp [cntM, M0, List.map_const']
theorem bump_cnt (N : Nat) (xs : List (Int × Int)) (x : Int × Int) (h1 : 0 ≤ x.1 ∧ x.1 < N) (h2 : 0 ≤ x.2 ∧ x.2 < N) : bump (cntM N xs) x = cntM N (xs ++ [x]) := by
 obtain ⟨a, ha⟩ : ∃ a : Nat, x.1 = a := ⟨x.1.toNat, by omega⟩
 obtain ⟨b, hb⟩ : ∃ b : Nat, x.2 = b := ⟨x.2.toNat, by omega⟩
 have hx : x = ((a : Int), (b : Int)) := by rw [← ha, ← hb]
 subst hx
 have ha' : a < N := by simp only at h1; omega
 have hb' : b < N := by simp only at h2; omega
 simp only [bump, Int.toNat_natCast]
 rw [cntM_get N xs a ha']
 apply List.ext_getElem?
 intro i
 simp only [List.getElem?_set, cntM, List.length_map, List.length_range, List.getElem?_map, List.getElem?_range]
 by_cases hi : i < N
 ·simp only [List.getElem?_range hi, Option.map_some]
  by_cases e : a = i
  ·subst e
   simp only [if_true, hi]
   congr 1
   apply List.ext_getElem?
   intro j
   simp only [List.getElem?_set, List.length_map, List.length_range, List.getElem?_map]
   by_cases hj : j < N
   ·simp only [List.getElem?_range hj, Option.map_some]
    by_cases e2 : b = j
    ·subst e2
     simp only [if_true, hj]
     simp [List.getD_eq_getElem?_getD, hj, List.count_append, List.count_cons]
    ·simp only [e2, if_false]
     congr 1
     have e3 : ¬ ((b : Int) = (j : Int)) := by omega
     simp [List.count_append, List.count_cons, e3]
   ·have : ¬ b = j := by omega
    have hn : (List.range N)[j]? = none := List.getElem?_eq_none (by simp; omega)
    simp only [this, if_false, hn, Option.map_none]
  ·simp only [e, if_false]
   congr 1
   apply List.map_congr_left
   intro j _
   have e3 : ¬ ((a : Int) = (i : Int)) := by omega
   simp [List.count_append, List.count_cons, e3]
 ·have : ¬ a = i := by omega
  have hn : (List.range N)[i]? = none := List.getElem?_eq_none (by simp; omega)
  simp only [this, if_false, hn, Option.map_none]
theorem foldl_cnt (N : Nat) : ∀ (xs ys : List (Int × Int)), (∀ x ∈ xs, (0 ≤ x.1 ∧ x.1 < N) ∧ 0 ≤ x.2 ∧ x.2 < N) → xs.foldl bump (cntM N ys) = cntM N (ys ++ xs)
 | [], ys, _ => by simp
 | x :: xs, ys, h => by
  rw [List.foldl_cons, bump_cnt N ys x (h x (by simp)).1 (h x (by simp)).2, foldl_cnt N xs _ (fun y hy => h y (by simp [hy])), List.append_assoc]
  rfl
theorem foldl_M0 (N : Nat) (xs : List (Int × Int)) (h : ∀ x ∈ xs, (0 ≤ x.1 ∧ x.1 < N) ∧ 0 ≤ x.2 ∧ x.2 < N) : xs.foldl bump (M0 N) = cntM N xs := by
 rw [← cntM_nil, foldl_cnt N xs [] h]; rfl
theorem mput_mem {κ β : Type} [DecidableEq κ] {es : List (κ × β)} {k : κ} {v : β} {p : κ × β} (h : p ∈ mput es k v) : p = (k, v) ∨ p ∈ es := by
 induction es with
 | nil => simp [mput] at h; exact .inl h
 | cons q es ih =>
  obtain ⟨k', v'⟩ := q
  simp only [mput] at h
  split at h
  ·rename_i e
   rcases List.mem_cons.1 h with h | h
   ·left; rw [h, e]
   ·right; exact List.mem_cons_of_mem _ h
  ·rcases List.mem_cons.1 h with h | h
   ·right; rw [h]; exact List.mem_cons_self ..
   ·rcases ih h with h | h
    ·exact .inl h
    ·right; exact List.mem_cons_of_mem _ h
theorem mput_len {κ β : Type} [DecidableEq κ] (es : List (κ × β)) (k : κ) (v : β) : (mput es k v).length ≤ es.length + 1 := by
 induction es with
 | nil => simp [mput]
 | cons q es ih =>
  obtain ⟨k', v'⟩ := q
  simp only [mput]
  split
  ·simp
  ·simp; omega
theorem mget_mem {κ β : Type} [DecidableEq κ] {es : List (κ × β)} {k : κ} {v : β} (h : mget es k = some v) : (k, v) ∈ es := by
 induction es with
 | nil => simp [mget] at h
 | cons q es ih =>
  obtain ⟨k', v'⟩ := q
  simp only [mget] at h
  split at h
  ·rename_i e; cases h; rw [e]; exact List.mem_cons_self ..
  ·exact List.mem_cons_of_mem _ (ih h)
theorem fold_ok (n : Int) : ∀ (m : List S45) (es : Ent) (r : Int), (∀ e ∈ es, 0 ≤ e.1.1 ∧ e.1.1 < n ∧ 0 ≤ e.1.2 ∧ e.1.2 ≤ 63 ∧ 0 ≤ e.2 ∧ e.2 < n) → ∀ es' r', m.foldl (foeStep n) (some (es, r)) = some (es', r') →
  (∀ e ∈ es', 0 ≤ e.1.1 ∧ e.1.1 < n ∧ 0 ≤ e.1.2 ∧ e.1.2 ≤ 63 ∧ 0 ≤ e.2 ∧ e.2 < n) ∧ es'.length ≤ es.length + 2 * m.length
 | [], es, r, h, es', r', he => by cases he; exact ⟨h, by omega⟩
 | x :: m, es, r, h, es', r', he => by
  rw [List.foldl_cons] at he
  simp only [foeStep, Option.bind_some] at he
  by_cases hb : bad n x
  ·rw [if_pos hb, fold_none] at he; cases he
  ·rw [if_neg hb] at he
   split at he
   ·rw [fold_none] at he; cases he
   ·split at he
    ·rw [fold_none] at he; cases he
    ·have hb' : ¬ (x.f0 < 0 ∨ x.f0 > 63 ∨ min x.f1 x.f2 < 0 ∨ max x.f1 x.f2 ≥ n ∨ min x.f1 x.f2 = max x.f1 x.f2) := hb
     have := fold_ok n m _ _ (fun e he' => by
      rcases mput_mem he' with rfl | he'
      ·simp only; omega
      ·rcases mput_mem he' with rfl | he'
       ·simp only; omega
       ·exact h e he') es' r' he
     refine ⟨this.1, Nat.le_trans this.2 ?_⟩
     have h1 := mput_len es (x.f1, x.f0) x.f2
     have h2 := mput_len (mput es (x.f1, x.f0) x.f2) (x.f2, x.f0) x.f1
     simp only [List.length_cons]; omega
theorem foes_ok (n : Int) (m : List S45) (hm : m.length ≤ 1000000) (es : Ent) (r : Int) (h : foesF n m = some (es, r)) : 2 ≤ n ∧ n ≤ 20 ∧ EntOk n es r := by
 unfold foesF at h
 split at h
 ·cases h
 ·rename_i hn
  have := fold_ok n m [] 0 (fun e h => by cases h) es r h
  refine ⟨by omega, by omega, this.1, fun k v hg => ?_, by have := this.2; simp at this; omega⟩
  have := this.1 _ (mget_mem hg)
  exact ⟨this.2.2.2.2.1, this.2.2.2.2.2⟩
theorem nxt_rng {n : Int} {es : Ent} {r : Int} (h : EntOk n es r) {e : (Int × Int) × Int} (he : e ∈ es) {x : Int × Int} (hx : nxt es r e = some x) : (0 ≤ x.1 ∧ x.1 < n) ∧ 0 ≤ x.2 ∧ x.2 < n := by
 obtain ⟨j, hj, rfl⟩ := Option.map_eq_some_iff.1 hx
 have := h.key e he
 exact ⟨⟨this.2.2.2.2.1, this.2.2.2.2.2⟩, h.get _ _ hj⟩
theorem mat_eq {n : Nat} {es : Ent} {r : Int} (h : EntOk n es r) {xs : List (Int × Int)} (ha : carried_all es r xs) : xs.foldl bump (M0 n) = cntM n (es.filterMap (nxt es r)) := by
 obtain ⟨es', hp, rfl⟩ := ha
 rw [foldl_M0]
 ·exact cntM_perm n (hp.filterMap _)
 ·intro x hx
  obtain ⟨e, he, hex⟩ := List.mem_filterMap.1 hx
  exact nxt_rng h (hp.subset he) hex
end Go.Proofs.Ytcjpghiceebkfaa.P

/- Rows of rows: from holdings to the words of the kit's print. -/
namespace Go.Proofs.Ytcjpghiceebkfaa.P
open Go.RowKit Go.Proofs.YtcjpghiceebkfaaW.PrintWords Go.Proofs.YtcjpghiceebkfaaW.PrintLast Go.Proofs.YtcjpghiceebkfaaW.PrintMore
open XW RegInv
set_option linter.unusedSimpArgs false
set_option linter.unusedVariables false
theorem flat_gv (n : Nat) (bs : List Nat) : bs.flatMap (sc (gv n)) = bs.map (gv n) := by
  induction bs with
  | nil => rfl
  | cons b bs ih => simp [sc] at ih ⊢; exact ih
theorem flat_int (l : List Int) : l.flatMap (sc (Value.int .i64)) = encs (Value.int .i64) l := by
  induction l with
  | nil => rfl
  | cons b bs ih => simp [sc, encs] at ih ⊢; exact ih
theorem S_of_grid {base w : World} {n : Nat} {bs : List Nat} {M : List (List Int)} {v : Value} {inner : List Value} (hown : w.ownsRow base.heap.size 33 1 v bs.length (bs.map (gv n))) (hbs : ∀ b ∈ bs, base.heap.size ≤ b ∧ some b ≠ v.ownBlock)
    (g1 : bs.Nodup) (g2 : bs.length = M.length) (g3 : ∀ (i b : Nat) (row : List Int), bs[i]? = some b → M[i]? = some row → w.heap[b]? = some (.cells (buf (sc (Value.int .i64)) row []) 3 (0, 0))) (hrow : ∀ row ∈ M, row.length = n) (hn : n ≤ 1000000000) :
    Kd.S (Kd.slice 3 (Kd.int .i64)) 33 w base.heap.size (fun _ => True) v M := by
  refine ⟨fun b => bs.idxOf b, fun _ _ => trivial, bs.map (gv n), ?_, ?_, ?_⟩
  · rw [List.length_zipIdx, ← g2]; exact hown
  · rw [List.length_map, List.length_zipIdx, g2, show (Kd.tag (fun b => bs.idxOf b) (Kd.slice 3 (Kd.int IntKind.i64))).sz = 1 from rfl, Nat.mul_one]
  · intro j p hj
    rw [List.getElem?_zipIdx] at hj
    obtain ⟨row, hrowj, rfl⟩ := Option.map_eq_some_iff.1 hj
    obtain ⟨hl, hr⟩ := List.getElem?_eq_some_iff.1 hrowj
    have hbl : j < bs.length := by omega
    have hb : bs[j]? = some bs[j] := List.getElem?_eq_getElem hbl
    have hh := g3 j _ row hb hrowj
    have hbm : bs[j] ∈ bs := List.getElem_mem hbl
    have hlen := hrow row (List.mem_of_getElem? hrowj)
    refine ⟨gv n bs[j], ?_, ?_⟩
    · rw [show (Kd.tag (fun b => bs.idxOf b) (Kd.slice 3 (Kd.int IntKind.i64))).sz = 1 from rfl, Nat.mul_one, List.drop_eq_getElem_cons (by simpa using hbl)]
      simp
    · refine Kd.R_of_own ?_ ?_
      · have : RowOk 3 1 (sc (Value.int .i64)) (some bs[j]) n row w := ⟨sc_len _, by omega, Nat.le_trans hn (by decide), [], hh, by simp [hlen]⟩
        have h2 := ownsRow_of (B := base.heap.size) this (fun k hk => by cases hk; exact (hbs _ hbm).1)
        rw [flat_int] at h2
        have e : rowV (some bs[j]) row.length n = gv n bs[j] := by simp [rowV, gv, hlen]
        rw [e] at h2
        exact h2
      · intro k hk
        have : k = bs[j] := by simpa [gv, Value.ownBlock] using hk.symm
        subst this
        refine ⟨⟨trivial, (hbs _ hbm).2⟩, ?_⟩
        have := g1.idxOf_getElem j hbl
        simpa using this
theorem S_of_mem {base w : World} {R : List Res} {n bc : Nat} {bs : List Nat} {M : List (List Int)} (hw : Mem base w (.obj bc (.cells (buf (sc (gv n)) bs []) 33 (0, 0)) :: .grid 3 (Value.int .i64) bs M :: R)) (hl : bs.length ≤ 1000000000) (hn : n ≤ 1000000000) (hrow : ∀ row ∈ M, row.length = n) :
    Kd.S (Kd.slice 3 (Kd.int .i64)) 33 w base.heap.size (fun _ => True) (.slice (some ⟨bc, 0, none⟩) bs.length bs.length) M := by
  obtain ⟨g1, g2, g3⟩ := hw.gridAt 1 rfl
  have h0 := hw.at_ 0 rfl
  have hbd0 := hw.bd _ (List.mem_cons_self ..) bc rfl
  have hsep := (List.pairwise_cons.1 hw.sep).1 _ (List.mem_cons_self ..) bc rfl
  have hrow0 : RowOk 33 1 (sc (gv n)) (some bc) bs.length bs w := ⟨sc_len _, Nat.le_refl _, Nat.le_trans hl (by decide), [], h0, by simp⟩
  have h2 := ownsRow_of (B := base.heap.size) hrow0 (fun k hk => by cases hk; exact hbd0.1)
  rw [flat_gv] at h2
  have e : rowV (some bc) bs.length bs.length = .slice (some ⟨bc, 0, none⟩) bs.length bs.length := rfl
  rw [e] at h2
  refine S_of_grid (inner := []) h2 (fun b hb => ⟨(hw.bd (.grid 3 (Value.int .i64) bs M) (by simp) b hb).1, fun e => ?_⟩) g1 g2 g3 hrow hn
  have : b = bc := by simpa [Value.ownBlock] using e
  subst this
  exact hsep hb
end Go.Proofs.Ytcjpghiceebkfaa.P

/- carry.Matrix: the contract. -/
namespace Go.Proofs.Ytcjpghiceebkfaa.P
open Go.RowKit Go.Proofs.YtcjpghiceebkfaaW.PrintWords Go.Proofs.YtcjpghiceebkfaaW.PrintLast Go.Proofs.YtcjpghiceebkfaaW.PrintMore
open XW RegInv
set_option linter.unusedSimpArgs false
set_option linter.unusedVariables false
def carry_Matrix.f (a0 : Int) (l1 : List (S45)) : Option ((List (List Int)) × Int) := if l1.length ≤ 1000000 then (match foesF a0 l1 with
  | none => some ([], 220)
  | some (es, r) => some (cntM a0.toNat (es.filterMap (nxt es r)), 0)) else none
theorem carry_Matrix.calls (a0 : Int) (A1 : Option Addr) (c1 : Nat) (l1 : List (S45)) (r1 : List (List Int)) (r2 : Int) (w : World) (hr1 : Kd.C k45 w A1 l1.length l1) (hc1 : l1.length ≤ c1) (h : carry_Matrix.f a0 l1 = some (r1, r2)) :
    Calls Try.prog 11 #[.int .i64 a0, .slice A1 l1.length c1] w fun e w' => ∃ v0_ : Value, e = .returned (.tuple #[v0_, .int .i64 r2]) ∧ Kd.S (Kd.slice 3 (Kd.int .i64)) 33 w' w.heap.size (fun _ => True) v0_ r1 ∧ Below w.heap.size w w' := by
  unfold carry_Matrix.f at h
  split at h
  · rename_i hm
    refine (matrix_rets a0 A1 c1 l1 w hr1 hc1 (fun es r hf => foes_ok a0 l1 hm es r hf)).mono ?_
    rintro e w' ⟨u, rfl, Rs, hp, hmem⟩
    unfold matPost at hp
    cases hf : foesF a0 l1 with
    | none =>
      rw [hf] at hp h
      obtain ⟨rfl, rfl⟩ := hp
      simp only [Option.some.injEq, Prod.mk.injEq] at h
      obtain ⟨rfl, rfl⟩ := h
      exact ⟨_, rfl, Kd.S_nil _ _ _ _ _, hmem.below⟩
    | some p =>
      obtain ⟨es, r⟩ := p
      rw [hf] at hp h
      obtain ⟨bc, bs, M, xs, hall, hM, hbs, rfl, rfl⟩ := hp
      simp only [Option.some.injEq, Prod.mk.injEq] at h
      obtain ⟨rfl, rfl⟩ := h
      obtain ⟨hn2, hn20, hok⟩ := foes_ok a0 l1 hm es r hf
      obtain ⟨N, rfl⟩ : ∃ N : Nat, a0 = N := ⟨a0.toNat, by omega⟩
      simp only [Int.toNat_natCast] at *
      have hM' : M = cntM N (es.filterMap (nxt es r)) := hM.trans (mat_eq hok hall)
      refine ⟨_, rfl, ?_, hmem.below⟩
      rw [buf_map] at hmem
      rw [← hM']
      have := S_of_mem (n := N) (R := []) hmem (by omega) (by omega) (by rw [hM']; exact cntM_row N _)
      rw [hbs] at this
      exact this
  · cases h
end Go.Proofs.Ytcjpghiceebkfaa.P

/- carry.Value: walk and contract. -/
namespace Go.Proofs.Ytcjpghiceebkfaa.P
open Go.RowKit Go.Proofs.YtcjpghiceebkfaaW.PrintWords Go.Proofs.YtcjpghiceebkfaaW.PrintLast Go.Proofs.YtcjpghiceebkfaaW.PrintMore
open XW RegInv
attribute [local irreducible] Addr.add
set_option linter.unusedSimpArgs false
set_option linter.unusedVariables false
theorem E11 : Enters Try.prog 11 := enters Try.func11 (by kernel_rfl) rfl
theorem E31 : Enters Try.prog 31 := enters Try.func31 (by kernel_rfl) rfl
def sqs (l : List Int) : Int := (l.map fun x => x * x).sum
def sqsM (M : List (List Int)) : Int := (M.map sqs).sum
theorem sum_snoc (l : List Int) (x : Int) : (l ++ [x]).sum = l.sum + x := by simp
theorem take_snocD {α : Type} (l : List α) (k : Nat) (d : α) (h : k < l.length) : l.take (k + 1) = l.take k ++ [l.getD k d] := by
 rw [List.take_succ_eq_append_getElem h, List.getD_eq_getElem?_getD, List.getElem?_eq_getElem h]; rfl
theorem sqs_snoc (l : List Int) (k : Nat) (h : k < l.length) : sqs (l.take (k + 1)) = sqs (l.take k) + l.getD k 0 * l.getD k 0 := by
 rw [take_snocD l k 0 h, sqs, List.map_append, List.map_singleton, sum_snoc]; rfl
theorem sqsM_snoc (M : List (List Int)) (k : Nat) (h : k < M.length) : sqsM (M.take (k + 1)) = sqsM (M.take k) + sqs (M.getD k []) := by
 rw [take_snocD M k [] h, sqsM, List.map_append, List.map_singleton, sum_snoc]; rfl
theorem sq_bd {x : Int} (h : 0 ≤ x ∧ x ≤ 2000000) : 0 ≤ x * x ∧ x * x ≤ 4000000000000 := ⟨Int.mul_nonneg h.1 h.1, by
 have := Int.mul_le_mul h.2 h.2 h.1 (by omega : (0 : Int) ≤ 2000000)
 omega⟩
theorem sqs_bd (l : List Int) (h : ∀ x ∈ l, 0 ≤ x ∧ x ≤ 2000000) : 0 ≤ sqs l ∧ sqs l ≤ 4000000000000 * l.length := by
 induction l with
 | nil => simp [sqs]
 | cons x l ih =>
  have h1 := sq_bd (h x (by simp))
  have h2 := ih (fun y hy => h y (by simp [hy]))
  simp only [sqs, List.map_cons, List.sum_cons, List.length_cons] at *
  omega
theorem sqsM_bd (M : List (List Int)) (n : Nat) (hn : n ≤ 20) (hl : ∀ row ∈ M, row.length = n) (h : ∀ row ∈ M, ∀ x ∈ row, 0 ≤ x ∧ x ≤ 2000000) : 0 ≤ sqsM M ∧ sqsM M ≤ 80000000000000 * M.length := by
 induction M with
 | nil => simp [sqsM]
 | cons r M ih =>
  have h1 := sqs_bd r (h r (by simp))
  have h2 := ih (fun y hy => hl y (by simp [hy])) (fun y hy => h y (by simp [hy]))
  have h3 := hl r (by simp)
  simp only [sqsM, List.map_cons, List.sum_cons, List.length_cons] at *
  omega
theorem add_rets {base w : World} {R : List Res} {b4 : Nat} {v x : Int} (hx : 0 ≤ x ∧ x ≤ 2000000) (hv : 0 ≤ v ∧ v ≤ 4000000000000000000) (hw : Mem base w (.obj b4 (.cells #[.int .i64 v] 3) :: R)) :
  Rets Try.prog 31 #[.int .i64 x, .pointer (some ⟨b4, 0, none⟩)] w fun u w' => ∃ R', (u = .tuple #[] ∧ R' = .obj b4 (.cells #[.int .i64 (v + x * x)] 3) :: R) ∧ Mem base w' R' := by
 have hF := wide_wide
 have hs := sq_bd hx
 refine rets_at' (n := _) hw Try.func31 rfl Try.ntmps31 (by simp) ?_
 (repeat (first | ((with_reducible refine is_AL ?_); (first | ((with_reducible refine is_move ?_); (refine At_plain hF (by (exact (rfl : _ = some (Value.int _ _)))) ?_)) | ((with_reducible refine is_bin ?_); (first | ((with_reducible refine is_badd ?_); (refine At_add hF rfl rfl (by omega) ?_)) | ((with_reducible refine is_bmul ?_); (refine At_mul hF rfl rfl (by omega) ?_)))) | ((with_reducible refine is_load ?_); (refine At_load hF 0 rfl rfl (by (exact (rfl : _ = some (Value.int _ _)))) ?_)) | ((with_reducible refine is_store ?_); (refine At_store_0 hF rfl (by (exact (rfl : _ = (Value.int _ _)))) (by (exact of_decide_eq_true rfl)) (by exact rfl) (by exact rfl) (by (exact (rfl : _ = List.toArray (_ :: _)))) ?_)) | with_reducible refine At_nil ?_)) | ((with_reducible refine is_At ?_); (with_reducible refine At_region ?_))))
 refine At_fin0n rfl (fun w' hw' => ⟨_, rfl, _, ⟨rfl, rfl⟩, hw'⟩)
theorem cntM_bd {N : Nat} {xs : List (Int × Int)} (h : xs.length ≤ 2000000) : ∀ row ∈ cntM N xs, ∀ x ∈ row, 0 ≤ x ∧ x ≤ 2000000 := by
 intro row hrow x hx
 simp only [cntM, List.mem_map] at hrow
 obtain ⟨i, _, rfl⟩ := hrow
 obtain ⟨j, _, rfl⟩ := List.mem_map.1 hx
 have := List.count_le_length (l := xs) (a := ((i : Int), (j : Int)))
 omega
theorem getD_mem' {α : Type} {l : List α} {k : Nat} {d : α} (h : k < l.length) : l.getD k d ∈ l := by
 rw [List.getD_eq_getElem?_getD, List.getElem?_eq_getElem h]; exact List.getElem_mem h
set_option maxHeartbeats 1000000 in
theorem value_rets (n : Int) (A : Option Addr) (c : Nat) (m : List S45) (w : World) (hr : Kd.C k45 w A m.length m) (hc : m.length ≤ c) (hm : m.length ≤ 1000000) :
  Rets Try.prog 13 #[.int .i64 n, .slice A m.length c] w fun u w' => (u = match foesF n m with
   | none => .tuple #[.int .i64 0, .int .i64 220]
   | some (es, r) => .tuple #[.int .i64 (sqsM (cntM n.toNat (es.filterMap (nxt es r)))), .int .i64 0]) ∧ Below w.heap.size w w' := by
 have hF := wide_wide
 have hok := fun es r hf => foes_ok n m hm es r hf
 refine rets_at (n := 38) Try.func13 rfl Try.ntmps13 (by simp) ?_
 ((repeat (first | ((with_reducible refine is_AL ?_); (first | ((with_reducible refine is_move ?_); (refine At_plain hF (by (first | exact (rfl : _ = some (Value.int _ _)) | exact (rfl : _ = some (Value.slice _ _ _)))) ?_)) | ((with_reducible refine is_assign ?_); (refine At_plain hF (by (exact (rfl : _ = some (Value.int _ _)))) ?_)) | with_reducible refine At_nil ?_)) | ((with_reducible refine is_At ?_); (first | with_reducible refine At_seq ?_; intro K hK | with_reducible refine At_region ?_ | with_reducible refine At_then_n ?_ | with_reducible refine At_go (by assumption) ?_)))); ((with_reducible refine is_alloc ?_); (refine At_alloc hF (by (exact (rfl : _ = List.toArray (_ :: _)))) ?_; intro b4)); (repeat (first | ((with_reducible refine is_AL ?_); (first | ((with_reducible refine is_move ?_); (refine At_plain hF (by (first | exact (rfl : _ = some (Value.int _ _)) | exact (rfl : _ = some (Value.slice _ _ _)))) ?_)) | ((with_reducible refine is_assign ?_); (refine At_plain hF (by (exact (rfl : _ = some (Value.int _ _)))) ?_)) | with_reducible refine At_nil ?_)) | ((with_reducible refine is_At ?_); (first | with_reducible refine At_seq ?_; intro K hK | with_reducible refine At_region ?_ | with_reducible refine At_then_n ?_ | with_reducible refine At_go (by assumption) ?_)))))
 refine At_callM hF E11 rfl (arg2 (by (first | exact (rfl : _ = (Value.int _ _)) | exact (rfl : _ = (Value.bool _)) | exact (rfl : _ = (Value.pointer _)) | exact (rfl : _ = (Value.slice _ _ _)) | exact (rfl : _ = (Value.map _)) | exact (rfl : _ = (Value.func _ _ _)) | exact (rfl : _ = (Value.tuple _)) | exact (rfl : _ = (Value.agg _)) | exact (rfl : _ = (Value.string _)) | exact (rfl : _ = (Value.nilFunc)) | exact (rfl : _ = (Value.nilIface)))) (by (first | exact (rfl : _ = (Value.int _ _)) | exact (rfl : _ = (Value.bool _)) | exact (rfl : _ = (Value.pointer _)) | exact (rfl : _ = (Value.slice _ _ _)) | exact (rfl : _ = (Value.map _)) | exact (rfl : _ = (Value.func _ _ _)) | exact (rfl : _ = (Value.tuple _)) | exact (rfl : _ = (Value.agg _)) | exact (rfl : _ = (Value.string _)) | exact (rfl : _ = (Value.nilFunc)) | exact (rfl : _ = (Value.nilIface))))) (fun w' hw' => matrix_rets n A c m w' (Kd.C_below hr hw'.below) hc hok) ?_
 intro u Rs hp
 unfold matPost at hp
 cases hff : foesF n m with
 | none =>
  rw [hff] at hp
  obtain ⟨rfl, rfl⟩ := hp
  simp only [List.nil_append]
  (repeat (first | ((with_reducible refine is_AL ?_); (first | ((with_reducible refine is_move ?_); (refine At_plain hF (by (first | exact (rfl : _ = some (Value.int _ _)) | exact (rfl : _ = some (Value.slice _ _ _)) | exact (rfl : _ = some (Value.tuple _)))) ?_)) | ((with_reducible refine is_assign ?_); (refine At_plain hF (by (first | exact (rfl : _ = some (Value.int _ _)) | exact (rfl : _ = some (Value.slice _ _ _)) | exact (rfl : _ = some (Value.func _ _ _)))) ?_)) | ((with_reducible refine is_extract ?_); (refine At_plain hF (by (first | exact (rfl : _ = some (Value.int _ _)) | exact (rfl : _ = some (Value.slice _ _ _)))) ?_)) | ((with_reducible refine is_func ?_); (refine At_func1 hF (by (exact (rfl : _ = (Value.pointer _)))) ?_)) | ((with_reducible refine is_call ?_); (refine At_len hF rfl ?_)) | with_reducible refine At_nil ?_)) | ((with_reducible refine is_At ?_); (first | with_reducible refine At_seq ?_; intro K hK | with_reducible refine At_block ?_ | with_reducible refine At_region ?_ | with_reducible refine At_then_n ?_ | with_reducible refine At_go (by assumption) ?_))))
  refine At_loop (fun st : Nat => [(4, .pointer (some ⟨b4, 0, none⟩)), (5, .int .i64 220), (20, .int .i64 (0 : Nat)), (21, .int .i64 0)]) (fun st => [.obj b4 (.cells #[.int .i64 0] 3)]) (fun _ => True) id 0 ?_ ?_ trivial ?_
  ·(repeat (first | exact List.Sublist.refl _ | exact List.Sublist.slnil | refine List.Sublist.cons_cons _ ?_ | refine List.Sublist.cons _ ?_))
  ·(repeat (first | exact True.intro | (refine And.intro ?_ ?_; focus (show _ = (_ : Value); first | exact rfl | (refine Eq.trans (b := Value.int IntKind.i64 _) rfl (congrArg (Value.int IntKind.i64) ?_); omega)))))
  intro st _ K hL ρ0
  (repeat (first | ((with_reducible refine is_AL ?_); (first | ((with_reducible refine is_move ?_); (refine At_plain hF (by (exact (rfl : _ = some (Value.int _ _)))) ?_)) | ((with_reducible refine is_bin ?_); (refine At_plain hF (by (exact (rfl : _ = some (Value.bool _)))) ?_)) | ((with_reducible refine is_assign ?_); (refine At_plain hF (by (exact (rfl : _ = some (Value.int _ _)))) ?_)) | ((with_reducible refine is_load ?_); (refine At_load hF 0 rfl rfl (by (exact (rfl : _ = some (Value.int _ _)))) ?_)) | ((with_reducible refine is_store ?_); (refine At_store_0 hF rfl (by (exact (rfl : _ = (Value.int _ _)))) (by (decide)) (by exact rfl) (by exact rfl) (by (exact (rfl : _ = List.toArray (_ :: _)))) ?_)) | with_reducible refine At_nil ?_)) | ((with_reducible refine is_At ?_); (first | with_reducible refine At_seq ?_; intro K hK | with_reducible refine At_region ?_ | with_reducible refine At_ret ?_ | with_reducible refine At_exit ?_ | with_reducible refine At_then_n ?_ | with_reducible refine At_then_e ?_ | with_reducible refine At_inb_e rfl ?_ | with_reducible refine At_go (by assumption) ?_ | ((with_reducible refine is_cond ?_); (refine At_cond_f rfl ?_))))))
  refine At_ret2 rfl (rv_cell (by decide) rfl 0 rfl rfl) (rv_tmp (by decide)) (fun w' hw' => ⟨_, rfl, by rw [hff]; rfl, hw'.below⟩)
 | some p =>
  obtain ⟨es, r⟩ := p
  rw [hff] at hp
  obtain ⟨bc, bs, M, xs, hall, hM, hbs, rfl, rfl⟩ := hp
  obtain ⟨hn2, hn20, hes⟩ := hok es r hff
  obtain ⟨N, rfl⟩ : ∃ N : Nat, n = N := ⟨n.toNat, by omega⟩
  simp only [Int.toNat_natCast] at *
  have hM' : M = cntM N (es.filterMap (nxt es r)) := hM.trans (mat_eq hes hall)
  have hMl : M.length = N := by rw [hM', cntM_len]
  have hMr := cntM_row N (es.filterMap (nxt es r))
  rw [← hM'] at hMr
  have hMb := cntM_bd (N := N) (xs := es.filterMap (nxt es r)) (Nat.le_trans (List.length_filterMap_le _ _) hes.len)
  rw [← hM'] at hMb
  rw [← hM']
  rw [buf_map]
  simp only [List.cons_append, List.nil_append]
  (repeat (first | ((with_reducible refine is_AL ?_); (first | ((with_reducible refine is_move ?_); (refine At_plain hF (by (first | exact (rfl : _ = some (Value.int _ _)) | exact (rfl : _ = some (Value.slice _ _ _)) | exact (rfl : _ = some (Value.tuple _)))) ?_)) | ((with_reducible refine is_assign ?_); (refine At_plain hF (by (first | exact (rfl : _ = some (Value.int _ _)) | exact (rfl : _ = some (Value.slice _ _ _)) | exact (rfl : _ = some (Value.func _ _ _)))) ?_)) | ((with_reducible refine is_extract ?_); (refine At_plain hF (by (first | exact (rfl : _ = some (Value.int _ _)) | exact (rfl : _ = some (Value.slice _ _ _)))) ?_)) | ((with_reducible refine is_func ?_); (refine At_func1 hF (by (exact (rfl : _ = (Value.pointer _)))) ?_)) | ((with_reducible refine is_call ?_); (refine At_len hF rfl ?_)) | with_reducible refine At_nil ?_)) | ((with_reducible refine is_At ?_); (first | with_reducible refine At_seq ?_; intro K hK | with_reducible refine At_block ?_ | with_reducible refine At_region ?_ | with_reducible refine At_then_n ?_ | with_reducible refine At_go (by assumption) ?_))))
  (refine At.pick [2, 0, 1] (by decide) (R' := [_, _, _]) rfl ?_)
  refine At_loop (fun i : Nat => [(4, .pointer (some ⟨b4, 0, none⟩)), (5, .int .i64 0), (7, .func (.func 31) #[] #[.pointer (some ⟨b4, 0, none⟩)]), (19, .slice (some ⟨bc, 0, none⟩) N N), (20, .int .i64 N), (21, .int .i64 i)])
   (fun i => [.obj b4 (.cells #[.int .i64 (sqsM (M.take i))] 3), .obj bc (.cells (buf (sc (gv N)) bs []) 33), .grid 3 (Value.int .i64) bs M]) (fun i => i ≤ N) (fun i => N - i) 0 ?_ ?_ (Nat.zero_le _) ?_
  ·(repeat (first | exact List.Sublist.refl _ | exact List.Sublist.slnil | refine List.Sublist.cons_cons _ ?_ | refine List.Sublist.cons _ ?_))
  ·(repeat (first | exact True.intro | (refine And.intro ?_ ?_; focus (show _ = (_ : Value); first | exact rfl | (refine Eq.trans (b := Value.int IntKind.i64 _) rfl (congrArg (Value.int IntKind.i64) ?_); omega)))))
  intro i hi K hL ρ0
  try dsimp only
  (repeat (first | ((with_reducible refine is_AL ?_); (first | ((with_reducible refine is_bin ?_); (refine At_plain hF (by (exact (rfl : _ = some (Value.bool _)))) ?_)) | with_reducible refine At_nil ?_)) | ((with_reducible refine is_At ?_); (first | with_reducible refine At_seq ?_; intro K hK | with_reducible refine At_region ?_ | with_reducible refine At_then_n ?_ | with_reducible refine At_go (by assumption) ?_))))
  ((with_reducible refine is_cond ?_); (refine At_cond rfl ?_ ?_ <;> (intro hg; try (simp only [decide_eq_true_eq, decide_eq_false_iff_not, beq_iff_eq, bne_iff_ne, beq_eq_false_iff_ne, bne_eq_false_iff_eq, ne_eq, Bool.not_eq_true', Bool.not_eq_false', Bool.not_true, Bool.not_false, Decidable.not_not] at hg); try (exfalso; first | omega | exact hg True.intro))))
  ·have hlt : i < N := by omega
   have hmem : M.getD i [] ∈ M := getD_mem' (by omega)
   have hrl := hMr _ hmem
   have hrb := hMb _ hmem
   have hsn := sqsM_snoc M i (by omega)
   have hsb := sqsM_bd (M.take i) N (by omega) (fun row h => hMr row (List.mem_of_mem_take h)) (fun row h => hMb row (List.mem_of_mem_take h))
   have hst : (M.take i).length ≤ 20 := by simp; omega
   (repeat (first | ((with_reducible refine is_AL ?_); (first | ((with_reducible refine is_move ?_); (refine At_plain hF (by (first | exact (rfl : _ = some (Value.int _ _)) | exact (rfl : _ = some (Value.slice _ _ _)))) ?_)) | ((with_reducible refine is_assign ?_); (refine At_plain hF (by (exact (rfl : _ = some (Value.slice _ _ _)))) ?_)) | ((with_reducible refine is_call ?_); (refine At_len hF rfl ?_)) | ((with_reducible refine is_load ?_); (refine At_load hF 1 rfl rfl (by (exact buf_getI _ (by omega))) ?_)) | ((with_reducible refine is_index ?_); (refine At_indexS1 hF rfl rfl rfl (by omega) ?_)) | with_reducible refine At_nil ?_)) | ((with_reducible refine is_At ?_); (first | with_reducible refine At_seq ?_; intro K hK | with_reducible refine At_block ?_ | with_reducible refine At_region ?_ | with_reducible refine At_skip ?_ | with_reducible refine At_then_n ?_ | with_reducible refine At_go (by assumption) ?_))))
   refine At_loop (fun j : Nat => [(4, .pointer (some ⟨b4, 0, none⟩)), (5, .int .i64 0), (7, .func (.func 31) #[] #[.pointer (some ⟨b4, 0, none⟩)]), (19, .slice (some ⟨bc, 0, none⟩) N N), (20, .int .i64 N), (21, .int .i64 i), (25, .slice (some ⟨bs.getD i default, 0, none⟩) N N), (26, .int .i64 N), (27, .int .i64 j)])
    (fun j => [.obj b4 (.cells #[.int .i64 (sqsM (M.take i) + sqs ((M.getD i []).take j))] 3), .obj bc (.cells (buf (sc (gv N)) bs []) 33), .grid 3 (Value.int .i64) bs M]) (fun j => j ≤ N) (fun j => N - j) 0 ?_ ?_ (Nat.zero_le _) ?_
   ·simp only [List.take_zero, sqs, List.map_nil, List.sum_nil, Int.add_zero]
    (repeat (first | exact List.Sublist.refl _ | exact List.Sublist.slnil | refine List.Sublist.cons_cons _ ?_ | refine List.Sublist.cons _ ?_))
   ·(repeat (first | exact True.intro | (refine And.intro ?_ ?_; focus (show _ = (_ : Value); first | exact rfl | (refine Eq.trans (b := Value.int IntKind.i64 _) rfl (congrArg (Value.int IntKind.i64) ?_); omega)))))
   intro j hj K hI ρ1
   try dsimp only
   (repeat (first | ((with_reducible refine is_AL ?_); (first | ((with_reducible refine is_bin ?_); (refine At_plain hF (by (exact (rfl : _ = some (Value.bool _)))) ?_)) | with_reducible refine At_nil ?_)) | ((with_reducible refine is_At ?_); (first | with_reducible refine At_seq ?_; intro K hK | with_reducible refine At_region ?_ | with_reducible refine At_then_n ?_ | with_reducible refine At_go (by assumption) ?_))))
   ((with_reducible refine is_cond ?_); (refine At_cond rfl ?_ ?_ <;> (intro hg; try (simp only [decide_eq_true_eq, decide_eq_false_iff_not, beq_iff_eq, bne_iff_ne, beq_eq_false_iff_ne, bne_eq_false_iff_eq, ne_eq, Bool.not_eq_true', Bool.not_eq_false', Bool.not_true, Bool.not_false, Decidable.not_not] at hg); try (exfalso; first | omega | exact hg True.intro))))
   ·have hjl : j < N := by omega
    have hs2 := sqs_snoc (M.getD i []) j (by omega)
    have hxb := hrb ((M.getD i []).getD j 0) (getD_mem' (by omega))
    have hs2b := sqs_bd ((M.getD i []).take j) (fun x h => hrb x (List.mem_of_mem_take h))
    have hst2 : ((M.getD i []).take j).length ≤ 20 := by simp; omega
    (repeat (first | ((with_reducible refine is_AL ?_); ((with_reducible refine is_index ?_); (refine At_indexS1 hF rfl rfl rfl (by omega) ?_))) | ((with_reducible refine is_At ?_); (first | with_reducible refine At_seq ?_; intro K hK | with_reducible refine At_block ?_ | with_reducible refine At_region ?_ | with_reducible refine At_skip ?_ | with_reducible refine At_then_n ?_ | with_reducible refine At_go (by assumption) ?_))))
    refine At_loadGrid (r := i) hF 2 (by exact rfl) rfl (by omega) (by omega) ?_
    (repeat (first | ((with_reducible refine is_AL ?_); (first | ((with_reducible refine is_move ?_); (refine At_plain hF (by (first | exact (rfl : _ = some (Value.int _ _)) | exact (rfl : _ = some (Value.func _ _ _)))) ?_)) | ((with_reducible refine is_assign ?_); (refine At_plain hF (by (exact (rfl : _ = some (Value.int _ _)))) ?_)) | with_reducible refine At_nil ?_)) | ((with_reducible refine is_At ?_); (first | with_reducible refine At_region ?_ | with_reducible refine At_then_n ?_ | with_reducible refine At_go (by assumption) ?_))))
    refine At_callvG hF E31 rfl (by exact rfl) (arg1 (by (first | exact (rfl : _ = (Value.int _ _)) | exact (rfl : _ = (Value.bool _)) | exact (rfl : _ = (Value.pointer _)) | exact (rfl : _ = (Value.slice _ _ _)) | exact (rfl : _ = (Value.map _)) | exact (rfl : _ = (Value.func _ _ _)) | exact (rfl : _ = (Value.tuple _)) | exact (rfl : _ = (Value.agg _)) | exact (rfl : _ = (Value.string _)) | exact (rfl : _ = (Value.nilFunc)) | exact (rfl : _ = (Value.nilIface))))) (by simp) (fun w' hw' => add_rets (x := (M.getD i []).getD j default) hxb (by omega) hw') ?_
    rintro u R' ⟨rfl, rfl⟩
    (repeat (first | ((with_reducible refine is_AL ?_); (first | ((with_reducible refine is_move ?_); (refine At_plain hF (by (exact (rfl : _ = some (Value.int _ _)))) ?_)) | ((with_reducible refine is_bin ?_); ((with_reducible refine is_badd ?_); (refine At_add hF rfl rfl (by omega) ?_))) | with_reducible refine At_nil ?_)) | ((with_reducible refine is_At ?_); (first | with_reducible refine At_region ?_ | with_reducible refine At_then_n ?_ | with_reducible refine At_inb_n ?_ | with_reducible refine At_go (by assumption) ?_))))
    rw [show sqsM (M.take i) + sqs ((M.getD i []).take j) + (M.getD i []).getD j default * (M.getD i []).getD j default = sqsM (M.take i) + sqs ((M.getD i []).take (j + 1)) by rw [hs2, Int.add_assoc]; rfl]
    refine At.sub ?_ (hI (j + 1) _ (by omega) (by omega) ?_)
    ·(repeat (first | exact List.Sublist.refl _ | exact List.Sublist.slnil | refine List.Sublist.cons_cons _ ?_ | refine List.Sublist.cons _ ?_))
    ·(repeat (first | exact True.intro | (refine And.intro ?_ ?_; focus (show _ = (_ : Value); first | exact rfl | (refine Eq.trans (b := Value.int IntKind.i64 _) rfl (congrArg (Value.int IntKind.i64) ?_); omega)))))
   ·obtain rfl : j = N := by omega
    (repeat (first | ((with_reducible refine is_AL ?_); (first | ((with_reducible refine is_move ?_); (refine At_plain hF (by (exact (rfl : _ = some (Value.int _ _)))) ?_)) | ((with_reducible refine is_bin ?_); ((with_reducible refine is_badd ?_); (refine At_add hF rfl rfl (by omega) ?_))) | with_reducible refine At_nil ?_)) | ((with_reducible refine is_At ?_); (first | with_reducible refine At_region ?_ | with_reducible refine At_exit ?_ | with_reducible refine At_then_n ?_ | with_reducible refine At_then_e ?_ | with_reducible refine At_inb_n ?_ | with_reducible refine At_inb_e rfl ?_ | with_reducible refine At_go (by assumption) ?_))))
    rw [List.take_of_length_le (by omega : (M.getD i []).length ≤ j), ← hsn]
    refine At.sub ?_ (hL (i + 1) _ (by omega) (by omega) ?_)
    ·(repeat (first | exact List.Sublist.refl _ | exact List.Sublist.slnil | refine List.Sublist.cons_cons _ ?_ | refine List.Sublist.cons _ ?_))
    ·(repeat (first | exact True.intro | (refine And.intro ?_ ?_; focus (show _ = (_ : Value); first | exact rfl | (refine Eq.trans (b := Value.int IntKind.i64 _) rfl (congrArg (Value.int IntKind.i64) ?_); omega)))))
  ·obtain rfl : i = N := by omega
   (repeat (first | ((with_reducible refine is_AL ?_); (first | ((with_reducible refine is_move ?_); (refine At_plain hF (by (exact (rfl : _ = some (Value.int _ _)))) ?_)) | ((with_reducible refine is_assign ?_); (refine At_plain hF (by (exact (rfl : _ = some (Value.int _ _)))) ?_)) | ((with_reducible refine is_load ?_); (refine At_load hF 0 rfl rfl (by (exact (rfl : _ = some (Value.int _ _)))) ?_)) | ((with_reducible refine is_store ?_); (refine At_store_0 hF rfl (by (exact (rfl : _ = (Value.int _ _)))) (by (exact of_decide_eq_true rfl)) (by exact rfl) (by exact rfl) (by (exact (rfl : _ = List.toArray (_ :: _)))) ?_)) | with_reducible refine At_nil ?_)) | ((with_reducible refine is_At ?_); (first | with_reducible refine At_seq ?_; intro K hK | with_reducible refine At_region ?_ | with_reducible refine At_ret ?_ | with_reducible refine At_exit ?_ | with_reducible refine At_then_n ?_ | with_reducible refine At_then_e ?_ | with_reducible refine At_inb_e rfl ?_ | with_reducible refine At_go (by assumption) ?_))))
   refine At_ret2 rfl (rv_cell (by decide) rfl 0 rfl rfl) (rv_tmp (by decide)) (fun w' hw' => ⟨_, rfl, ?_, hw'.below⟩)
   rw [hff]
   show _ = Value.tuple #[.int .i64 (sqsM (cntM i (es.filterMap (nxt es r)))), .int .i64 0]
   rw [← hM', List.take_of_length_le (by omega : M.length ≤ i)]
   rfl
def carry_Value.f (a0 : Int) (l1 : List (S45)) : Option (Int × Int) := if l1.length ≤ 1000000 then some (match foesF a0 l1 with
 | none => (0, 220)
 | some (es, r) => (sqsM (cntM a0.toNat (es.filterMap (nxt es r))), 0)) else none
theorem carry_Value.calls (a0 : Int) (A1 : Option Addr) (c1 : Nat) (l1 : List (S45)) (r1 : Int) (r2 : Int) (w : World) (hr1 : Kd.C k45 w A1 l1.length l1) (hc1 : l1.length ≤ c1) (h : carry_Value.f a0 l1 = some (r1, r2)) :
  Calls Try.prog 13 #[.int .i64 a0, .slice A1 l1.length c1] w fun e w' => e = .returned (.tuple #[.int .i64 r1, .int .i64 r2]) ∧ Below w.heap.size w w' := by
 unfold carry_Value.f at h
 split at h
 ·rename_i hm
  refine (value_rets a0 A1 c1 l1 w hr1 hc1 hm).mono ?_
  rintro e w' ⟨u, rfl, rfl, hb⟩
  refine ⟨?_, hb⟩
  cases hf : foesF a0 l1 with
  | none => rw [hf] at h; cases h; rfl
  | some p => obtain ⟨es, r⟩ := p; rw [hf] at h; cases h; rfl
 ·cases h
end Go.Proofs.Ytcjpghiceebkfaa.P

/- carry.Loads: walk and contract. -/
namespace Go.Proofs.Ytcjpghiceebkfaa.P
open Go.RowKit Go.Proofs.YtcjpghiceebkfaaW.PrintWords Go.Proofs.YtcjpghiceebkfaaW.PrintLast Go.Proofs.YtcjpghiceebkfaaW.PrintMore
open XW RegInv
attribute [local irreducible] Addr.add
set_option linter.unusedSimpArgs false
set_option linter.unusedVariables false
theorem E32 : Enters Try.prog 32 := enters Try.func32 (by kernel_rfl) rfl
theorem E33 : Enters Try.prog 33 := enters Try.func33 (by kernel_rfl) rfl
theorem E44 : Enters Try.prog 44 := enters Try.func44 (by kernel_rfl) rfl
theorem C_int {w : World} {A : Option Addr} {n : Nat} {xs : List Int} (h : Kd.C (Kd.int .i64) w A n xs) (k : Nat) (hk : k < n) : ∃ ad, A = some ad ∧ w.cell? (ad.add k) = some (.int .i64 (xs.getD k 0)) := by
 obtain ⟨ad, c, hA, _, hK, hc⟩ := Kd.C_get h 0 (k : Int) (by omega) (by omega)
 rw [Int.toNat_natCast] at hK hc
 refine ⟨ad, hA, ?_⟩
 have e : c = [.int .i64 (xs.getD k 0)] := hK
 have := hc 0 _ (by rw [e]; rfl)
 simpa [Kd.int, Kd.scalar] using this
def badR (x : Int) : Bool := decide (x < 1) || decide (x > 1000)
theorem pred_rets {base w : World} {R : List Res} (hw : Mem base w R) (x : Int) : Rets Try.prog 32 #[.int .i64 x] w fun u w' => u = .bool (badR x) ∧ Below w.heap.size w w' := by
 have hF := wide_wide
 refine rets_at (n := 9) Try.func32 rfl Try.ntmps32 (by simp) ?_
 (repeat' (first | ((with_reducible refine is_AL ?_); (first | ((with_reducible refine is_guarded ?_); (first | refine At_guard_t rfl (by decide) rfl ?_ | refine At_guard_f hF rfl (by decide) rfl rfl ?_)) | ((with_reducible refine is_move ?_); (refine At_plain hF (by (first | exact (rfl : _ = some (Value.int _ _)) | exact (rfl : _ = some (Value.bool _)))) ?_)) | ((with_reducible refine is_bin ?_); (refine At_plain hF (by (exact (rfl : _ = some (Value.bool _)))) ?_)) | ((with_reducible refine is_assign ?_); (refine At_plain hF (by (exact (rfl : _ = some (Value.bool _)))) ?_)) | ((with_reducible refine is_pick ?_); (refine At_plain hF (by (exact (rfl : _ = some (Value.bool _)))) ?_)) | with_reducible refine At_nil ?_)) | ((with_reducible refine is_At ?_); (first | with_reducible refine At_seq ?_; intro K hK | with_reducible refine At_region ?_ | with_reducible refine At_ret ?_ | with_reducible refine At_then_n ?_ | with_reducible refine At_go (by assumption) ?_)) | ((with_reducible refine is_guarded ?_); (refine At_guard hF rfl (by decide) rfl ?_ ?_ <;> (intro hg; try (simp only [decide_eq_true_eq, decide_eq_false_iff_not, beq_iff_eq, bne_iff_ne, beq_eq_false_iff_ne, bne_eq_false_iff_eq, ne_eq, Bool.not_eq_true', Bool.not_eq_false', Bool.not_true, Bool.not_false, Decidable.not_not] at hg); try (exfalso; first | omega | exact hg True.intro))))))
 ·refine At_ret1 rfl (rv_tmp (by decide)) (fun w' hw' => ⟨_, rfl, ?_, hw'.below⟩)
  have e1 : badR x = decide (x > 1000) := by simp [badR, hg]
  rw [e1]; rfl
 ·refine At_ret1 rfl (rv_tmp (by decide)) (fun w' hw' => ⟨_, rfl, ?_, hw'.below⟩)
  have e1 : badR x = true := by simp [badR, hg]
  rw [e1]; rfl
theorem find_rets {base w : World} {R : List Res} (hw : Mem base w R) (A : Option Addr) (c : Nat) (l : List Int) (hr : Kd.C (Kd.int .i64) w A l.length l) (hc : l.length ≤ c) :
  Rets Try.prog 44 #[.slice A l.length c, .func (.func 32) #[] #[]] w fun u w' => (∃ i : Int, u = .int .i64 i ∧ (l.any badR = decide (i ≥ 0))) ∧ Below w.heap.size w w' := by
 have hF := wide_wide
 have hmx := hr.2.1
 refine rets_at (n := 19) Try.func44 rfl Try.ntmps44 (by simp) ?_
 (repeat (first | ((with_reducible refine is_AL ?_); (first | ((with_reducible refine is_move ?_); (refine At_plain hF (by (first | exact (rfl : _ = some (Value.int _ _)) | exact (rfl : _ = some (Value.slice _ _ _)))) ?_)) | ((with_reducible refine is_assign ?_); (refine At_plain hF (by (exact (rfl : _ = some (Value.int _ _)))) ?_)) | ((with_reducible refine is_call ?_); (refine At_len hF rfl ?_)) | with_reducible refine At_nil ?_)) | ((with_reducible refine is_At ?_); (first | with_reducible refine At_seq ?_; intro K hK | with_reducible refine At_block ?_ | with_reducible refine At_region ?_ | with_reducible refine At_then_n ?_ | with_reducible refine At_go (by assumption) ?_))))
 refine At_loop (fun k : Nat => [(0, .slice A l.length c), (1, .func (.func 32) #[] #[]), (7, .int .i64 l.length), (8, .int .i64 k)]) (fun _ => []) (fun k => k ≤ l.length ∧ (l.take k).any badR = false) (fun k => l.length - k) 0 ?_ ?_ ⟨Nat.zero_le _, rfl⟩ ?_
 ·(repeat (first | exact List.Sublist.refl _ | exact List.Sublist.slnil | refine List.Sublist.cons_cons _ ?_ | refine List.Sublist.cons _ ?_))
 ·(repeat (first | exact True.intro | (refine And.intro ?_ ?_; focus (show _ = (_ : Value); first | exact rfl | (refine Eq.trans (b := Value.int IntKind.i64 _) rfl (congrArg (Value.int IntKind.i64) ?_); omega)))))
 rintro k ⟨hk, hno⟩ K hL ρ0
 (repeat (first | ((with_reducible refine is_AL ?_); (first | ((with_reducible refine is_bin ?_); (refine At_plain hF (by (exact (rfl : _ = some (Value.bool _)))) ?_)) | with_reducible refine At_nil ?_)) | ((with_reducible refine is_At ?_); (first | with_reducible refine At_seq ?_; intro K hK | with_reducible refine At_region ?_ | with_reducible refine At_then_n ?_ | with_reducible refine At_go (by assumption) ?_))))
 ((with_reducible refine is_cond ?_); (refine At_cond rfl ?_ ?_ <;> (intro hg; try (simp only [decide_eq_true_eq, decide_eq_false_iff_not, beq_iff_eq, bne_iff_ne, beq_eq_false_iff_ne, bne_eq_false_iff_eq, ne_eq, Bool.not_eq_true', Bool.not_eq_false', Bool.not_true, Bool.not_false, Decidable.not_not] at hg); try (exfalso; first | omega | exact hg True.intro))))
 ·have hlt : k < l.length := by omega
  obtain ⟨ad, hA, hcell⟩ := C_int hr k hlt
  (repeat (first | ((with_reducible refine is_AL ?_); (first | ((with_reducible refine is_move ?_); (refine At_plain hF (by (first | exact (rfl : _ = some (Value.int _ _)) | exact (rfl : _ = some (Value.slice _ _ _)) | exact (rfl : _ = some (Value.func _ _ _)))) ?_)) | ((with_reducible refine is_assign ?_); (refine At_plain hF (by (exact (rfl : _ = some (Value.int _ _)))) ?_)) | ((with_reducible refine is_index ?_); (refine At_indexC1 hF rfl (by assumption) rfl rfl (by omega) ?_)) | with_reducible refine At_nil ?_)) | ((with_reducible refine is_At ?_); (first | with_reducible refine At_seq ?_; intro K hK | with_reducible refine At_block ?_ | with_reducible refine At_region ?_ | with_reducible refine At_skip ?_ | with_reducible refine At_then_n ?_ | with_reducible refine At_go (by assumption) ?_))))
  refine At_loadC hF (by exact rfl) hcell ?_
  refine At_callvB hF E32 rfl (by exact rfl) (arg1 (by (first | exact (rfl : _ = (Value.int _ _)) | exact (rfl : _ = (Value.bool _)) | exact (rfl : _ = (Value.pointer _)) | exact (rfl : _ = (Value.slice _ _ _)) | exact (rfl : _ = (Value.map _)) | exact (rfl : _ = (Value.func _ _ _)) | exact (rfl : _ = (Value.tuple _)) | exact (rfl : _ = (Value.agg _)) | exact (rfl : _ = (Value.string _)) | exact (rfl : _ = (Value.nilFunc)) | exact (rfl : _ = (Value.nilIface))))) (by simp) (fun w' hw' => pred_rets hw' (l.getD k 0)) ?_
  have hx : l.getD k 0 ∈ l := by rw [List.getD_eq_getElem?_getD, List.getElem?_eq_getElem hlt]; exact List.getElem_mem hlt
  have hsn : (l.take (k + 1)).any badR = badR (l.getD k 0) := by
   rw [List.take_succ_eq_append_getElem hlt, List.any_append, hno, List.getD_eq_getElem?_getD, List.getElem?_eq_getElem hlt]; simp
  generalize l.getD k 0 = x at *
  cases hb : badR x with
  | true =>
   (repeat (first | ((with_reducible refine is_AL ?_); (first | ((with_reducible refine is_move ?_); (refine At_plain hF (by (exact (rfl : _ = some (Value.int _ _)))) ?_)) | ((with_reducible refine is_assign ?_); (refine At_plain hF (by (exact (rfl : _ = some (Value.int _ _)))) ?_)) | with_reducible refine At_nil ?_)) | ((with_reducible refine is_At ?_); (first | with_reducible refine At_seq ?_; intro K hK | with_reducible refine At_region ?_ | with_reducible refine At_ret ?_ | with_reducible refine At_then_n ?_ | with_reducible refine At_then_r ?_ | with_reducible refine At_inb_r ?_ | with_reducible refine At_go (by assumption) ?_ | ((with_reducible refine is_cond ?_); (refine At_cond_t rfl ?_))))))
   refine At_ret1 rfl (rv_tmp (by decide)) (fun w' hw' => ⟨_, rfl, ⟨(k : Int), by rfl, ?_⟩, hw'.below⟩)
   have e : l.any badR = true := List.any_eq_true.2 ⟨x, hx, hb⟩
   rw [e]; simp
  | false =>
   (repeat (first | ((with_reducible refine is_AL ?_); (first | ((with_reducible refine is_move ?_); (refine At_plain hF (by (exact (rfl : _ = some (Value.int _ _)))) ?_)) | ((with_reducible refine is_bin ?_); ((with_reducible refine is_badd ?_); (refine At_add hF rfl rfl (by omega) ?_))) | with_reducible refine At_nil ?_)) | ((with_reducible refine is_At ?_); (first | with_reducible refine At_region ?_ | with_reducible refine At_skip ?_ | with_reducible refine At_then_n ?_ | with_reducible refine At_inb_n ?_ | with_reducible refine At_go (by assumption) ?_ | ((with_reducible refine is_cond ?_); (refine At_cond_f rfl ?_))))))
   refine At.sub ?_ (hL (k + 1) _ ⟨hlt, hsn.trans hb⟩ (by omega) ?_)
   ·(repeat (first | exact List.Sublist.refl _ | exact List.Sublist.slnil | refine List.Sublist.cons_cons _ ?_ | refine List.Sublist.cons _ ?_))
   ·(repeat (first | exact True.intro | (refine And.intro ?_ ?_; focus (show _ = (_ : Value); first | exact rfl | (refine Eq.trans (b := Value.int IntKind.i64 _) rfl (congrArg (Value.int IntKind.i64) ?_); omega)))))
 ·obtain rfl : k = l.length := by omega
  (repeat (first | ((with_reducible refine is_AL ?_); (first | ((with_reducible refine is_assign ?_); (refine At_plain hF (by (exact (rfl : _ = some (Value.int _ _)))) ?_)) | with_reducible refine At_nil ?_)) | ((with_reducible refine is_At ?_); (first | with_reducible refine At_seq ?_; intro K hK | with_reducible refine At_region ?_ | with_reducible refine At_ret ?_ | with_reducible refine At_exit ?_ | with_reducible refine At_then_n ?_ | with_reducible refine At_then_e ?_ | with_reducible refine At_inb_e rfl ?_ | with_reducible refine At_go (by assumption) ?_))))
  refine At_ret1 rfl (rv_tmp (by decide)) (fun w' hw' => ⟨_, rfl, ⟨(-1 : Int), by rfl, ?_⟩, hw'.below⟩)
  rw [List.take_length] at hno
  rw [hno]; rfl
theorem cont_rets {base w : World} {R : List Res} (hw : Mem base w R) (A : Option Addr) (c : Nat) (l : List Int) (hr : Kd.C (Kd.int .i64) w A l.length l) (hc : l.length ≤ c) :
  Rets Try.prog 33 #[.slice A l.length c, .func (.func 32) #[] #[]] w fun u w' => u = .bool (l.any badR) ∧ Below w.heap.size w w' := by
 have hF := wide_wide
 refine rets_at (n := 9) Try.func33 rfl Try.ntmps33 (by simp) ?_
 (repeat (first | ((with_reducible refine is_AL ?_); (first | ((with_reducible refine is_move ?_); (refine At_plain hF (by (first | exact (rfl : _ = some (Value.slice _ _ _)) | exact (rfl : _ = some (Value.func _ _ _)))) ?_)) | ((with_reducible refine is_assign ?_); (refine At_plain hF (by (exact (rfl : _ = some (Value.bool _)))) ?_)) | with_reducible refine At_nil ?_)) | ((with_reducible refine is_At ?_); (first | with_reducible refine At_seq ?_; intro K hK | with_reducible refine At_region ?_ | with_reducible refine At_then_n ?_ | with_reducible refine At_go (by assumption) ?_))))
 refine At_callM hF E44 rfl (Post := fun u Rs => (∃ i : Int, u = .int .i64 i ∧ (l.any badR = decide (i ≥ 0))) ∧ Rs = []) (arg2 (by (first | exact (rfl : _ = (Value.int _ _)) | exact (rfl : _ = (Value.bool _)) | exact (rfl : _ = (Value.pointer _)) | exact (rfl : _ = (Value.slice _ _ _)) | exact (rfl : _ = (Value.map _)) | exact (rfl : _ = (Value.func _ _ _)) | exact (rfl : _ = (Value.tuple _)) | exact (rfl : _ = (Value.agg _)) | exact (rfl : _ = (Value.string _)) | exact (rfl : _ = (Value.nilFunc)) | exact (rfl : _ = (Value.nilIface)))) (by (first | exact (rfl : _ = (Value.int _ _)) | exact (rfl : _ = (Value.bool _)) | exact (rfl : _ = (Value.pointer _)) | exact (rfl : _ = (Value.slice _ _ _)) | exact (rfl : _ = (Value.map _)) | exact (rfl : _ = (Value.func _ _ _)) | exact (rfl : _ = (Value.tuple _)) | exact (rfl : _ = (Value.agg _)) | exact (rfl : _ = (Value.string _)) | exact (rfl : _ = (Value.nilFunc)) | exact (rfl : _ = (Value.nilIface))))) (fun w' hw' => (find_rets hw' A c l (Kd.C_below hr hw'.below) hc).mono ?_) ?_
 ·rintro e w'' ⟨u, rfl, hp, hb⟩
  exact ⟨u, rfl, [], ⟨hp, rfl⟩, ⟨hb, fun _ h => (by cases h), fun _ h => (by cases h), List.Pairwise.nil⟩⟩
 rintro u Rs ⟨⟨i, rfl, hi⟩, rfl⟩
 simp only [List.nil_append]
 (repeat (first | ((with_reducible refine is_AL ?_); (first | ((with_reducible refine is_bin ?_); (refine At_plain hF (by (exact (rfl : _ = some (Value.bool _)))) ?_)) | ((with_reducible refine is_assign ?_); (refine At_plain hF (by (exact (rfl : _ = some (Value.bool _)))) ?_)) | with_reducible refine At_nil ?_)) | ((with_reducible refine is_At ?_); (first | with_reducible refine At_ret ?_ | with_reducible refine At_then_n ?_ | with_reducible refine At_go (by assumption) ?_))))
 refine At_ret1 rfl (rv_tmp (by decide)) (fun w' hw' => ⟨_, rfl, ?_, hw'.below⟩)
 rw [hi]; rfl
def addL (rank L : List Int) (x : Int × Int) : List Int := L.set x.2.toNat (L.getD x.2.toNat 0 + rank.getD x.1.toNat 0)
def loadAt (rank : List Int) (xs : List (Int × Int)) (j : Int) : Int := ((xs.filter fun x => x.2 == j).map fun x => rank.getD x.1.toNat 0).sum
def loadsL (N : Nat) (rank : List Int) (xs : List (Int × Int)) : List Int := (List.range N).map fun (j : Nat) => loadAt rank xs (j : Int)
theorem sum_perm {l l' : List Int} (h : l.Perm l') : l.sum = l'.sum := by
 induction h with
 | nil => rfl
 | cons x _ ih => simp only [List.sum_cons, ih]
 | swap x y l => simp only [List.sum_cons]; omega
 | trans _ _ h1 h2 => exact h1.trans h2
theorem loadsL_perm (N : Nat) (rank : List Int) {xs ys : List (Int × Int)} (h : xs.Perm ys) : loadsL N rank xs = loadsL N rank ys := by
 simp only [loadsL, loadAt]
 congr 1
 funext j
 exact sum_perm ((h.filter _).map _)
theorem addL_loads (N : Nat) (rank : List Int) (xs : List (Int × Int)) (x : Int × Int) (h2 : 0 ≤ x.2 ∧ x.2 < N) : addL rank (loadsL N rank xs) x = loadsL N rank (xs ++ [x]) := by
 obtain ⟨b, hb⟩ : ∃ b : Nat, x.2 = b := ⟨x.2.toNat, by omega⟩
 have hb' : b < N := by omega
 simp only [addL, hb, Int.toNat_natCast]
 apply List.ext_getElem?
 intro j
 simp only [List.getElem?_set, loadsL, List.length_map, List.length_range, List.getElem?_map]
 by_cases hj : j < N
 ·simp only [List.getElem?_range hj, Option.map_some]
  by_cases e : b = j
  ·subst e
   simp only [if_true, hj]
   simp [List.getD_eq_getElem?_getD, hj, loadAt, List.filter_append, hb]
  ·simp only [e, if_false]
   congr 1
   have e3 : ¬ ((b : Int) = (j : Int)) := by omega
   simp [loadAt, List.filter_append, hb, e3]
 ·have : ¬ b = j := by omega
  have hn : (List.range N)[j]? = none := List.getElem?_eq_none (by simp; omega)
  simp only [this, if_false, hn, Option.map_none]
theorem loadsL_len (N : Nat) (rank : List Int) (xs : List (Int × Int)) : (loadsL N rank xs).length = N := by simp [loadsL]
theorem loadsL_nil (N : Nat) (rank : List Int) : loadsL N rank [] = List.replicate N 0 := by simp [loadsL, loadAt, List.map_const']
theorem loadAt_bd (rank : List Int) (hr : rank.any badR = false) (j : Int) : ∀ xs : List (Int × Int), 0 ≤ loadAt rank xs j ∧ loadAt rank xs j ≤ 1000 * xs.length
 | [] => by simp [loadAt]
 | x :: xs => by
  have ih := loadAt_bd rank hr j xs
  have hx : 0 ≤ rank.getD x.1.toNat 0 ∧ rank.getD x.1.toNat 0 ≤ 1000 := by
   by_cases h : x.1.toNat < rank.length
   ·have := List.any_eq_false.1 hr (rank.getD x.1.toNat 0) (getD_mem' h)
    simp [badR] at this; simp at *; omega
   ·rw [List.getD_eq_getElem?_getD, List.getElem?_eq_none (by omega)]; simp
  have e : loadAt rank (x :: xs) j = (if x.2 == j then rank.getD x.1.toNat 0 else 0) + loadAt rank xs j := by
   simp only [loadAt, List.filter_cons]
   split <;> simp
  rw [e]
  simp only [List.length_cons]
  split <;> omega
theorem loadsL_get (N : Nat) (rank : List Int) (xs : List (Int × Int)) (j : Nat) (hj : j < N) : (loadsL N rank xs).getD j default = loadAt rank xs (j : Int) := by
 simp [loadsL, List.getD_eq_getElem?_getD, hj]
def loadPost (n : Int) (m : List S45) (rank : List Int) (u : Value) (Rs : List Res) : Prop := match foesF n m with
 | none => u = .tuple #[.slice none 0 0, .int .i64 220] ∧ Rs = []
 | some (es, r) => if (rank.length : Int) ≠ n ∨ rank.any badR = true then u = .tuple #[.slice none 0 0, .int .i64 220] ∧ Rs = [] else
   ∃ b, u = .tuple #[.slice (some ⟨b, 0, none⟩) n.toNat n.toNat, .int .i64 0] ∧ Rs = [.obj b (.cells (buf (sc (Value.int .i64)) (loadsL n.toNat rank (es.filterMap (nxt es r))) []) 3 (0, 0))]
set_option maxHeartbeats 4000000 in
theorem loads_rets (n : Int) (A : Option Addr) (c : Nat) (m : List S45) (A2 : Option Addr) (c2 : Nat) (rank : List Int) (w : World) (hr : Kd.C k45 w A m.length m) (hc : m.length ≤ c) (hm : m.length ≤ 1000000) (hr2 : Kd.C (Kd.int .i64) w A2 rank.length rank) (hc2 : rank.length ≤ c2) :
  Rets Try.prog 16 #[.int .i64 n, .slice A m.length c, .slice A2 rank.length c2] w fun u w' => ∃ Rs, loadPost n m rank u Rs ∧ Mem w w' Rs := by
 have hF := wide_wide
 have hmx := hr2.2.1
 have hok := fun es r hf => foes_ok n m hm es r hf
 refine rets_at (n := 50) Try.func16 rfl Try.ntmps16 (by simp) ?_
 ((repeat (first | ((with_reducible refine is_AL ?_); (first | ((with_reducible refine is_move ?_); (refine At_plain hF (by (first | exact (rfl : _ = some (Value.int _ _)) | exact (rfl : _ = some (Value.slice _ _ _)))) ?_)) | ((with_reducible refine is_assign ?_); (refine At_plain hF (by (exact (rfl : _ = some (Value.int _ _)))) ?_)) | with_reducible refine At_nil ?_)) | ((with_reducible refine is_At ?_); (first | with_reducible refine At_seq ?_; intro K hK | with_reducible refine At_region ?_ | with_reducible refine At_then_n ?_ | with_reducible refine At_go (by assumption) ?_)))); (first | ((with_reducible refine is_alloc ?_); (refine At_alloc hF (by (exact (rfl : _ = List.toArray (_ :: _)))) ?_; intro b5)) | ((with_reducible refine is_box ?_); (refine At_box1 hF (by (exact (rfl : _ = (Value.slice _ _ _)))) rfl ?_; intro b5))); (repeat (first | ((with_reducible refine is_AL ?_); (first | ((with_reducible refine is_move ?_); (refine At_plain hF (by (first | exact (rfl : _ = some (Value.int _ _)) | exact (rfl : _ = some (Value.slice _ _ _)))) ?_)) | ((with_reducible refine is_assign ?_); (refine At_plain hF (by (exact (rfl : _ = some (Value.int _ _)))) ?_)) | with_reducible refine At_nil ?_)) | ((with_reducible refine is_At ?_); (first | with_reducible refine At_seq ?_; intro K hK | with_reducible refine At_region ?_ | with_reducible refine At_then_n ?_ | with_reducible refine At_go (by assumption) ?_)))); (first | ((with_reducible refine is_alloc ?_); (refine At_alloc hF (by (exact (rfl : _ = List.toArray (_ :: _)))) ?_; intro b6)) | ((with_reducible refine is_box ?_); (refine At_box1 hF (by (exact (rfl : _ = (Value.slice _ _ _)))) rfl ?_; intro b6))); (repeat (first | ((with_reducible refine is_AL ?_); (first | ((with_reducible refine is_move ?_); (refine At_plain hF (by (first | exact (rfl : _ = some (Value.int _ _)) | exact (rfl : _ = some (Value.slice _ _ _)))) ?_)) | ((with_reducible refine is_assign ?_); (refine At_plain hF (by (exact (rfl : _ = some (Value.int _ _)))) ?_)) | with_reducible refine At_nil ?_)) | ((with_reducible refine is_At ?_); (first | with_reducible refine At_seq ?_; intro K hK | with_reducible refine At_region ?_ | with_reducible refine At_then_n ?_ | with_reducible refine At_go (by assumption) ?_)))))
 refine At_callM hF E29 rfl (arg2 (by (first | exact (rfl : _ = (Value.int _ _)) | exact (rfl : _ = (Value.bool _)) | exact (rfl : _ = (Value.pointer _)) | exact (rfl : _ = (Value.slice _ _ _)) | exact (rfl : _ = (Value.map _)) | exact (rfl : _ = (Value.func _ _ _)) | exact (rfl : _ = (Value.tuple _)) | exact (rfl : _ = (Value.agg _)) | exact (rfl : _ = (Value.string _)) | exact (rfl : _ = (Value.nilFunc)) | exact (rfl : _ = (Value.nilIface)))) (by (first | exact (rfl : _ = (Value.int _ _)) | exact (rfl : _ = (Value.bool _)) | exact (rfl : _ = (Value.pointer _)) | exact (rfl : _ = (Value.slice _ _ _)) | exact (rfl : _ = (Value.map _)) | exact (rfl : _ = (Value.func _ _ _)) | exact (rfl : _ = (Value.tuple _)) | exact (rfl : _ = (Value.agg _)) | exact (rfl : _ = (Value.string _)) | exact (rfl : _ = (Value.nilFunc)) | exact (rfl : _ = (Value.nilIface))))) (fun w' hw' => foes_rets n A c m w' (Kd.C_below hr hw'.below) hc) ?_
 intro u Rs hp
 unfold foesPost at hp
 cases hff : foesF n m with
 | none =>
  rw [hff] at hp
  obtain ⟨rfl, rfl⟩ := hp
  simp only [List.nil_append]
  (repeat (first | ((with_reducible refine is_AL ?_); (first | ((with_reducible refine is_guarded ?_); (refine At_guard_f hF rfl (by decide) rfl rfl ?_)) | ((with_reducible refine is_move ?_); (refine At_plain hF (by (first | exact (rfl : _ = some (Value.bool _)) | exact (rfl : _ = some (Value.map _)) | exact (rfl : _ = some (Value.tuple _)))) ?_)) | ((with_reducible refine is_bin ?_); (refine At_eqMapNil hF (by kernel_rfl) rfl rfl ?_)) | ((with_reducible refine is_assign ?_); (refine At_plain hF (by (first | exact (rfl : _ = some (Value.int _ _)) | exact (rfl : _ = some (Value.map _)) | exact (rfl : _ = some (Value.func _ _ _)))) ?_)) | ((with_reducible refine is_pick ?_); (refine At_plain hF (by (exact (rfl : _ = some (Value.bool _)))) ?_)) | ((with_reducible refine is_extract ?_); (refine At_plain hF (by (first | exact (rfl : _ = some (Value.int _ _)) | exact (rfl : _ = some (Value.map _)))) ?_)) | ((with_reducible refine is_store ?_); (refine At_store_0 hF rfl (by (exact (rfl : _ = (Value.slice _ _ _)))) (by (decide)) (by exact rfl) (by exact rfl) (by (exact (rfl : _ = List.toArray (_ :: _)))) ?_)) | with_reducible refine At_nil ?_)) | ((with_reducible refine is_At ?_); (first | with_reducible refine At_seq ?_; intro K hK | with_reducible refine At_region ?_ | with_reducible refine At_ret ?_ | with_reducible refine At_then_n ?_ | with_reducible refine At_then_r ?_ | with_reducible refine At_go (by assumption) ?_ | ((with_reducible refine is_cond ?_); (refine At_cond_t rfl ?_))))))
  refine At_ret2 rfl (rv_cell (by decide) rfl 0 rfl rfl) (rv_tmp (by decide)) ?_
  exact At.sub (List.nil_sublist _) (fun w' hw' => ⟨_, rfl, [], by rw [loadPost, hff]; exact ⟨rfl, rfl⟩, hw'⟩)
 | some p =>
  obtain ⟨es, r⟩ := p
  rw [hff] at hp
  obtain ⟨bm, rfl, rfl⟩ := hp
  obtain ⟨hn2, hn20, hes⟩ := hok es r hff
  obtain ⟨N, rfl⟩ : ∃ N : Nat, n = N := ⟨n.toNat, by omega⟩
  simp only [List.cons_append, List.nil_append]
  (repeat (first | ((with_reducible refine is_AL ?_); (first | ((with_reducible refine is_guarded ?_); (refine At_guard_t rfl (by decide) rfl ?_)) | ((with_reducible refine is_move ?_); (refine At_plain hF (by (first | exact (rfl : _ = some (Value.int _ _)) | exact (rfl : _ = some (Value.bool _)) | exact (rfl : _ = some (Value.map _)) | exact (rfl : _ = some (Value.tuple _)))) ?_)) | ((with_reducible refine is_bin ?_); (first | refine At_plain hF (by (exact (rfl : _ = some (Value.bool _)))) ?_ | refine At_eqMapNil hF (by kernel_rfl) rfl rfl ?_)) | ((with_reducible refine is_assign ?_); (refine At_plain hF (by (first | exact (rfl : _ = some (Value.int _ _)) | exact (rfl : _ = some (Value.map _)) | exact (rfl : _ = some (Value.func _ _ _)))) ?_)) | ((with_reducible refine is_pick ?_); (refine At_plain hF (by (exact (rfl : _ = some (Value.bool _)))) ?_)) | ((with_reducible refine is_extract ?_); (refine At_plain hF (by (first | exact (rfl : _ = some (Value.int _ _)) | exact (rfl : _ = some (Value.map _)))) ?_)) | ((with_reducible refine is_call ?_); (refine At_len hF rfl ?_)) | ((with_reducible refine is_load ?_); (refine At_load hF 2 rfl rfl (by (exact (rfl : _ = some (Value.slice _ _ _)))) ?_)) | with_reducible refine At_nil ?_)) | ((with_reducible refine is_At ?_); (first | with_reducible refine At_seq ?_; intro K hK | with_reducible refine At_region ?_ | with_reducible refine At_then_n ?_ | with_reducible refine At_go (by assumption) ?_))))
  ((with_reducible refine is_guarded ?_); (refine At_guard hF rfl (by decide) rfl ?_ ?_ <;> (intro hg; try (simp only [decide_eq_true_eq, decide_eq_false_iff_not, beq_iff_eq, bne_iff_ne, beq_eq_false_iff_ne, bne_eq_false_iff_eq, ne_eq, Bool.not_eq_true', Bool.not_eq_false', Bool.not_true, Bool.not_false, Decidable.not_not] at hg); try (exfalso; first | omega | exact hg True.intro))))
  rotate_left
  ·(repeat (first | ((with_reducible refine is_AL ?_); (first | ((with_reducible refine is_guarded ?_); (refine At_guard_f hF rfl (by decide) rfl rfl ?_)) | ((with_reducible refine is_assign ?_); (refine At_plain hF (by (exact (rfl : _ = some (Value.int _ _)))) ?_)) | ((with_reducible refine is_pick ?_); (refine At_plain hF (by (exact (rfl : _ = some (Value.bool _)))) ?_)) | ((with_reducible refine is_store ?_); (refine At_store_1 hF rfl (by (exact (rfl : _ = (Value.slice _ _ _)))) (by (decide)) (by exact rfl) (by exact rfl) (by (exact (rfl : _ = List.toArray (_ :: _)))) ?_)) | with_reducible refine At_nil ?_)) | ((with_reducible refine is_At ?_); (first | with_reducible refine At_seq ?_; intro K hK | with_reducible refine At_region ?_ | with_reducible refine At_ret ?_ | with_reducible refine At_then_n ?_ | with_reducible refine At_then_r ?_ | with_reducible refine At_go (by assumption) ?_ | ((with_reducible refine is_cond ?_); (refine At_cond_t rfl ?_))))))
   refine At_ret2 rfl (rv_cell (by decide) rfl 1 rfl rfl) (rv_tmp (by decide)) ?_
   exact At.sub (List.nil_sublist _) (fun w' hw' => ⟨_, rfl, [], by rw [loadPost, hff]; dsimp only; rw [if_pos (.inl hg)]; exact ⟨rfl, rfl⟩, hw'⟩)
  have hlen := hg
  (repeat ((with_reducible refine is_AL ?_); (first | ((with_reducible refine is_guarded ?_); (refine At_guard_t rfl (by decide) rfl ?_)) | ((with_reducible refine is_move ?_); (refine At_plain hF (by (exact (rfl : _ = some (Value.func _ _ _)))) ?_)) | ((with_reducible refine is_load ?_); (refine At_load hF 2 rfl rfl (by (exact (rfl : _ = some (Value.slice _ _ _)))) ?_)))))
  refine At_callB hF E33 rfl (arg2 (by (first | exact (rfl : _ = (Value.int _ _)) | exact (rfl : _ = (Value.bool _)) | exact (rfl : _ = (Value.pointer _)) | exact (rfl : _ = (Value.slice _ _ _)) | exact (rfl : _ = (Value.map _)) | exact (rfl : _ = (Value.func _ _ _)) | exact (rfl : _ = (Value.tuple _)) | exact (rfl : _ = (Value.agg _)) | exact (rfl : _ = (Value.string _)) | exact (rfl : _ = (Value.nilFunc)) | exact (rfl : _ = (Value.nilIface)))) (by (first | exact (rfl : _ = (Value.int _ _)) | exact (rfl : _ = (Value.bool _)) | exact (rfl : _ = (Value.pointer _)) | exact (rfl : _ = (Value.slice _ _ _)) | exact (rfl : _ = (Value.map _)) | exact (rfl : _ = (Value.func _ _ _)) | exact (rfl : _ = (Value.tuple _)) | exact (rfl : _ = (Value.agg _)) | exact (rfl : _ = (Value.string _)) | exact (rfl : _ = (Value.nilFunc)) | exact (rfl : _ = (Value.nilIface))))) (fun w' hw' => cont_rets hw' A2 c2 rank (Kd.C_below hr2 hw'.below) hc2) ?_
  cases hbd : rank.any badR with
  | true =>
   (repeat (first | ((with_reducible refine is_AL ?_); (first | ((with_reducible refine is_assign ?_); (refine At_plain hF (by (exact (rfl : _ = some (Value.int _ _)))) ?_)) | ((with_reducible refine is_pick ?_); (refine At_plain hF (by (exact (rfl : _ = some (Value.bool _)))) ?_)) | ((with_reducible refine is_store ?_); (refine At_store_1 hF rfl (by (exact (rfl : _ = (Value.slice _ _ _)))) (by (decide)) (by exact rfl) (by exact rfl) (by (exact (rfl : _ = List.toArray (_ :: _)))) ?_)) | with_reducible refine At_nil ?_)) | ((with_reducible refine is_At ?_); (first | with_reducible refine At_seq ?_; intro K hK | with_reducible refine At_region ?_ | with_reducible refine At_ret ?_ | with_reducible refine At_then_n ?_ | with_reducible refine At_then_r ?_ | with_reducible refine At_go (by assumption) ?_ | ((with_reducible refine is_cond ?_); (refine At_cond_t rfl ?_))))))
   refine At_ret2 rfl (rv_cell (by decide) rfl 1 rfl rfl) (rv_tmp (by decide)) ?_
   exact At.sub (List.nil_sublist _) (fun w' hw' => ⟨_, rfl, [], by rw [loadPost, hff]; dsimp only; rw [if_pos (.inr hbd)]; exact ⟨rfl, rfl⟩, hw'⟩)
  | false =>
   (repeat (first | ((with_reducible refine is_AL ?_); (first | ((with_reducible refine is_move ?_); (refine At_plain hF (by (exact (rfl : _ = some (Value.int _ _)))) ?_)) | ((with_reducible refine is_pick ?_); (refine At_plain hF (by (exact (rfl : _ = some (Value.bool _)))) ?_)) | with_reducible refine At_nil ?_)) | ((with_reducible refine is_At ?_); (first | with_reducible refine At_seq ?_; intro K hK | with_reducible refine At_region ?_ | with_reducible refine At_skip ?_ | with_reducible refine At_then_n ?_ | with_reducible refine At_go (by assumption) ?_ | ((with_reducible refine is_cond ?_); (refine At_cond_f rfl ?_))))))
   (refine At_make hF (Value.int .i64) 0 rfl rfl rfl rfl (by exact rfl) (by exact rfl) (by simp only [TS.bytes] <;> omega) (by omega) ?_; intro bl)
   (repeat (first | ((with_reducible refine is_AL ?_); (first | ((with_reducible refine is_move ?_); (refine At_plain hF (by (first | exact (rfl : _ = some (Value.int _ _)) | exact (rfl : _ = some (Value.map _)))) ?_)) | ((with_reducible refine is_store ?_); (refine At_store_2 hF rfl (by (exact (rfl : _ = (Value.slice _ _ _)))) (by (decide)) (by exact rfl) (by exact rfl) (by (exact (rfl : _ = List.toArray (_ :: _)))) ?_)) | with_reducible refine At_nil ?_)) | ((with_reducible refine is_At ?_); (first | with_reducible refine At_seq ?_; intro K hK | with_reducible refine At_region ?_ | with_reducible refine At_then_n ?_ | with_reducible refine At_go (by assumption) ?_))))
   refine At_callM hF E30 rfl (arg2 (by (first | exact (rfl : _ = (Value.int _ _)) | exact (rfl : _ = (Value.bool _)) | exact (rfl : _ = (Value.pointer _)) | exact (rfl : _ = (Value.slice _ _ _)) | exact (rfl : _ = (Value.map _)) | exact (rfl : _ = (Value.func _ _ _)) | exact (rfl : _ = (Value.tuple _)) | exact (rfl : _ = (Value.agg _)) | exact (rfl : _ = (Value.string _)) | exact (rfl : _ = (Value.nilFunc)) | exact (rfl : _ = (Value.nilIface)))) (by (first | exact (rfl : _ = (Value.int _ _)) | exact (rfl : _ = (Value.bool _)) | exact (rfl : _ = (Value.pointer _)) | exact (rfl : _ = (Value.slice _ _ _)) | exact (rfl : _ = (Value.map _)) | exact (rfl : _ = (Value.func _ _ _)) | exact (rfl : _ = (Value.tuple _)) | exact (rfl : _ = (Value.agg _)) | exact (rfl : _ = (Value.string _)) | exact (rfl : _ = (Value.nilFunc)) | exact (rfl : _ = (Value.nilIface))))) (fun w' hw' => carried_rets bm r w') ?_
   rintro u Rs ⟨b2, b3, rfl, rfl⟩
   simp only [List.cons_append, List.nil_append]
   (repeat (first | ((with_reducible refine is_AL ?_); (with_reducible refine At_nil ?_)) | ((with_reducible refine is_At ?_); (first | with_reducible refine At_block ?_ | with_reducible refine At_then_n ?_ | with_reducible refine At_go (by assumption) ?_))))
   have hes' : ∀ e ∈ es, 0 ≤ e.1.2 ∧ e.1.2 ≤ 63 := fun e he => ⟨(hes.key e he).2.2.1, (hes.key e he).2.2.2.1⟩
   (refine At.pick [0, 1, 3, 2, 4, 5] (by decide) (R' := [_, _, _, _, _, _]) rfl ?_)
   refine At_range hF rfl rfl rfl E43 (ritC bm b2 b3 es r) args2 (carried_pre es r) (carried_all es r) (carried_iter hF rfl rfl w bm b2 b3 es r hes')
    (fun L : List Int => [.obj bl (.cells (buf (sc (Value.int .i64)) L []) 3), .obj b6 (.cells #[.slice (some ⟨bl, 0, none⟩) N N] 33), .obj b5 (.cells #[.slice A2 rank.length c2] 33)])
    (fun xs L => L = loadsL N rank xs) (fun _ _ => False) (List.replicate N 0) ?_ ?_ (fun _ => rfl) ?_ ?_ ?_
   ·(repeat (first | exact List.Sublist.refl _ | exact List.Sublist.slnil | refine List.Sublist.cons_cons _ ?_ | refine List.Sublist.cons _ ?_))
   ·exact (loadsL_nil N rank).symm
   ·rintro l rec Ri xs ⟨x1, x2⟩ L hL0 hpre
    have hF := Wide.inRound hF l
    simp only [List.cons_append, List.nil_append]
    (repeat (first | ((with_reducible refine is_AL ?_); (first | ((with_reducible refine is_assign ?_); (refine At_plain hF (by (exact (rfl : _ = some (Value.int _ _)))) ?_)) | with_reducible refine At_nil ?_)) | ((with_reducible refine is_At ?_); (first | with_reducible refine At_seq ?_; intro K hK | with_reducible refine At_region ?_ | with_reducible refine At_then_n ?_ | with_reducible refine At_go (by assumption) ?_))))
    refine fun w' hw' => ⟨rfl, hw', ?_⟩
    obtain ⟨e, he, hex⟩ := hpre.2 (x1, x2) (by simp)
    have hk := hes.key e he
    obtain ⟨j, hj, hjx⟩ := Option.map_eq_some_iff.1 hex
    have hg := hes.get _ _ hj
    simp only [Prod.mk.injEq] at hjx
    obtain ⟨rfl, rfl⟩ := hjx
    have hlen2 : xs.length + 1 ≤ 2000000 := by
     have := hpre.1
     have := hes.len
     simp at this ⊢
     simp at *
     omega
    have hLl : L.length = N := by rw [hL0, loadsL_len]
    have hbL : 0 ≤ L.getD j.toNat default ∧ L.getD j.toNat default ≤ 1000 * xs.length := by
     rw [hL0, loadsL_get _ _ _ _ (by omega)]
     exact loadAt_bd rank hbd _ xs
    obtain ⟨ad, hA, hcell⟩ := C_int hr2 e.2.toNat (by omega)
    have hrk : 0 ≤ rank.getD e.2.toNat 0 ∧ rank.getD e.2.toNat 0 ≤ 1000 := by
     have := List.any_eq_false.1 hbd (rank.getD e.2.toNat 0) (getD_mem' (by omega))
     simp [badR] at this; simp at *; omega
    (repeat ((with_reducible refine is_At ?_); (with_reducible refine At_block ?_)))
    refine At_draw hF 10 (by kernel_rfl) (by decide +kernel) ?_; simp only [List.take_succ_cons, List.take_zero, List.drop_succ_cons, List.drop_zero]; (repeat ((with_reducible refine is_AQc ?_); refine AQ_cons (by intro K Q hK; (repeat (first | ((with_reducible refine is_move ?_); (refine At_plain hF (by (exact (rfl : _ = some (Value.int _ _)))) ?_)) | ((with_reducible refine is_load ?_); (first | refine At_load hF 1 rfl rfl (by (exact buf_getI _ (by omega))) ?_ | refine At_load hF 2 rfl rfl (by (exact (rfl : _ = some (Value.slice _ _ _)))) ?_ | refine At_load hF 3 rfl rfl (by (exact (rfl : _ = some (Value.slice _ _ _)))) ?_)) | ((with_reducible refine is_index ?_); (first | refine At_indexS1i hF rfl rfl rfl (by omega) (by omega) ?_ | refine At_indexC1i hF rfl (by assumption) rfl rfl (by omega) (by omega) ?_)))); exact At_nilK hK) ?_))
    refine AQ_cons (by intro K Q hK; refine At_loadC hF (by exact rfl) hcell ?_; exact At_nilK hK) ?_
    (repeat ((with_reducible refine is_AQc ?_); refine AQ_cons (by intro K Q hK; (repeat (first | ((with_reducible refine is_bin ?_); ((with_reducible refine is_badd ?_); (refine At_add hF rfl rfl (by omega) ?_))) | ((with_reducible refine is_index ?_); (refine At_indexS1i hF rfl rfl rfl (by omega) (by omega) ?_)))); exact At_nilK hK) ?_)); refine AQ_done ?_
    (repeat (first | ((with_reducible refine is_AL ?_); (first | ((with_reducible refine is_store ?_); (refine At_store_1 hF rfl (by (exact (rfl : _ = (Value.int _ _)))) (by (simp [buf_size1]; omega)) (by exact rfl) (by exact rfl) (by (exact buf_set1 _ (by omega))) ?_)) | with_reducible refine At_nil ?_)) | ((with_reducible refine is_At ?_); (with_reducible refine At_inb_n ?_))))
    refine rnd_n (addL rank L (e.2, j)) ?_ (by rw [hL0, addL_loads N rank xs (e.2, j) hg])
    exact List.Sublist.refl _
   ·rintro D xs L hall hL0
    obtain ⟨es', hperm, rfl⟩ := hall
    have hL2 : L = loadsL N rank (es.filterMap (nxt es r)) := hL0.trans (loadsL_perm N rank (hperm.filterMap _))
    simp only [ritC, List.cons_append, List.nil_append]
    (repeat (first | ((with_reducible refine is_AL ?_); (first | ((with_reducible refine is_assign ?_); (refine At_plain hF (by (exact (rfl : _ = some (Value.int _ _)))) ?_)) | ((with_reducible refine is_load ?_); (refine At_load hF 5 rfl rfl (by (exact (rfl : _ = some (Value.slice _ _ _)))) ?_)) | ((with_reducible refine is_store ?_); (refine At_store_5 hF rfl (by (exact (rfl : _ = (Value.slice _ _ _)))) (by (exact of_decide_eq_true rfl)) (by exact rfl) (by exact rfl) (by (exact (rfl : _ = List.toArray (_ :: _)))) ?_)) | with_reducible refine At_nil ?_)) | ((with_reducible refine is_At ?_); (first | with_reducible refine At_seq ?_; intro K hK | with_reducible refine At_region ?_ | with_reducible refine At_ret ?_ | with_reducible refine At_then_n ?_ | with_reducible refine At_inb_n ?_ | with_reducible refine At_go (by assumption) ?_))))
    refine At_retm2 rfl (rv_cell (by decide) rfl 4 rfl rfl) (rv_tmp (by decide)) ?_
    exact At.pick [3] (by decide) rfl (fun w' hw' => ⟨_, rfl, _, by rw [loadPost, hff]; dsimp only; rw [if_neg (by rw [hbd]; simp [hlen])]; exact ⟨bl, rfl, by rw [Int.toNat_natCast, ← hL2]; rfl⟩, hw'⟩)
   ·exact fun D e s he hf => hf.elim
theorem R_of_mem {base w : World} {R : List Res} {b : Nat} {L : List Int} (hw : Mem base w (.obj b (.cells (buf (sc (Value.int .i64)) L []) 3 (0, 0)) :: R)) (hl : L.length ≤ 1000000000) : Kd.R (Kd.int .i64) 3 w base.heap.size (fun _ => True) (.slice (some ⟨b, 0, none⟩) L.length L.length) L := by
 have h0 := hw.at_ 0 rfl
 have hbd0 := hw.bd _ (List.mem_cons_self ..) b rfl
 have : RowOk 3 1 (sc (Value.int .i64)) (some b) L.length L w := ⟨sc_len _, Nat.le_refl _, Nat.le_trans hl (by decide), [], h0, by simp⟩
 have h2 := ownsRow_of (B := base.heap.size) this (fun k hk => by cases hk; exact hbd0.1)
 rw [flat_int] at h2
 exact Kd.R_of_own h2 (fun _ _ => trivial)
def carry_Loads.f (a0 : Int) (l1 : List (S45)) (l2 : List Int) : Option (List Int × Int) := if l1.length ≤ 1000000 then some (match foesF a0 l1 with
 | none => ([], 220)
 | some (es, r) => if (l2.length : Int) ≠ a0 ∨ l2.any badR = true then ([], 220) else (loadsL a0.toNat l2 (es.filterMap (nxt es r)), 0)) else none
theorem carry_Loads.calls (a0 : Int) (A1 : Option Addr) (c1 : Nat) (l1 : List (S45)) (A2 : Option Addr) (c2 : Nat) (l2 : List Int) (r1 : List Int) (r2 : Int) (w : World) (hr1 : Kd.C k45 w A1 l1.length l1) (hc1 : l1.length ≤ c1) (hr2 : Kd.C (Kd.int .i64) w A2 l2.length l2) (hc2 : l2.length ≤ c2) (h : carry_Loads.f a0 l1 l2 = some (r1, r2)) :
  Calls Try.prog 16 #[.int .i64 a0, .slice A1 l1.length c1, .slice A2 l2.length c2] w fun e w' => ∃ v0_ : Value, e = .returned (.tuple #[v0_, .int .i64 r2]) ∧ Kd.R (Kd.int .i64) 3 w' w.heap.size (fun _ => True) v0_ r1 ∧ Below w.heap.size w w' := by
 unfold carry_Loads.f at h
 split at h
 ·rename_i hm
  refine (loads_rets a0 A1 c1 l1 A2 c2 l2 w hr1 hc1 hm hr2 hc2).mono ?_
  rintro e w' ⟨u, rfl, Rs, hp, hmem⟩
  unfold loadPost at hp
  cases hf : foesF a0 l1 with
  | none =>
   rw [hf] at hp h
   obtain ⟨rfl, rfl⟩ := hp
   cases h
   exact ⟨_, rfl, Kd.R_nil _ _ _ _ _, hmem.below⟩
  | some p =>
   obtain ⟨es, r⟩ := p
   rw [hf] at hp h
   dsimp only at hp h
   split at hp
   ·rename_i hbad
    rw [if_pos hbad] at h
    obtain ⟨rfl, rfl⟩ := hp
    cases h
    exact ⟨_, rfl, Kd.R_nil _ _ _ _ _, hmem.below⟩
   ·rename_i hbad
    rw [if_neg hbad] at h
    obtain ⟨b, rfl, rfl⟩ := hp
    cases h
    obtain ⟨hn2, hn20, hok⟩ := foes_ok a0 l1 hm es r hf
    refine ⟨_, rfl, ?_, hmem.below⟩
    have := R_of_mem hmem (by rw [loadsL_len]; omega)
    rw [loadsL_len] at this
    exact this
 ·cases h
end Go.Proofs.Ytcjpghiceebkfaa.P
