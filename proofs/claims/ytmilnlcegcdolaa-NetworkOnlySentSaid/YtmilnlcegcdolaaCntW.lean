/- Contains: links compared, links found. -/
import Derived.Test.YtmilnlcegcdolaaRchkW
namespace Go.Proofs.Ytmilnlcegcdolaa.P
open Go.RowKit Go.Proofs.YtmilnlcegcdolaaW.PrintWords
open XW RegInv
attribute [local irreducible] Addr.add
set_option linter.unusedSimpArgs false
set_option linter.unusedVariables false

theorem run_eqL {t : TypeId} (ht : Try.prog.underlying t = some (.array 2 3)) (a b : Int × Int) (w : World) : (Op.equal t (lv a) (lv b)).run Try.prog w = .ok (decide (a = b)) w := by
  obtain ⟨i, h1, h2, _⟩ := inf3
  have := run_eqPair (P := Try.prog) ht Try.underlying3 h1 h2 a b (W := w)
  rw [show (a == b) = decide (a = b) by rw [Bool.eq_iff_iff]; simp] at this
  exact this
section
variable {F : Fence} {n : Nat} {Q : XW.Post} {ρ : Nat → Value} {ds : List Deferred} {base : World} {R : List Res} {ops : Array Oper} (hF : Wide F) {dst : Option Tmp} {t ty : TypeId} {x y : Operand} {pos : String} {af : Array Edge} {rest : List Oper}
include hF
theorem At_eqL (ht : Try.prog.underlying t = some (.array 2 3)) (hg : Try.prog.eqGuardType Try.prog.depth t = false) (a b : Int × Int) (hx : xv n ρ x = lv a) (hy : xv n ρ y = lv b) (h : AL F Try.prog n Q ops rest (updO ρ dst (.bool (decide (a = b)))) ds base R) :
    AL F Try.prog n Q ops (⟨dst, .binOp .eql t x y t, ty, pos, af, none⟩ :: rest) ρ ds base R := ⟨fun w hw => XL_gives hF rfl (by simp) (.inl (by
  have h2 : (eqGuard .eql t x y (lv a) (lv b)).run Try.prog w = .ok () w := by
    simp [eqGuard, lv, program, hg, Sem.run_bind, Sem.run, Result.andThen]
  have e3 : binOp .eql t (lv a) (lv b) = (do pure (.bool (← Op.equal t (lv a) (lv b)))) := rfl
  simp only [execOp, hx, hy]
  rw [Sem.run_bind, Sem.run_bind, h2]
  simp only [Result.andThen]
  rw [e3, Sem.run_bind, run_eqL ht a b w]
  rfl)) (h.use w hw)⟩
theorem At_neL (ht : Try.prog.underlying t = some (.array 2 3)) (hg : Try.prog.eqGuardType Try.prog.depth t = false) (a b : Int × Int) (hx : xv n ρ x = lv a) (hy : xv n ρ y = lv b) (h : AL F Try.prog n Q ops rest (updO ρ dst (.bool (!decide (a = b)))) ds base R) :
    AL F Try.prog n Q ops (⟨dst, .binOp .neq t x y t, ty, pos, af, none⟩ :: rest) ρ ds base R := ⟨fun w hw => XL_gives hF rfl (by simp) (.inl (by
  have h2 : (eqGuard .neq t x y (lv a) (lv b)).run Try.prog w = .ok () w := by
    simp [eqGuard, lv, program, hg, Sem.run_bind, Sem.run, Result.andThen]
  have e3 : binOp .neq t (lv a) (lv b) = (do pure (.bool (!(← Op.equal t (lv a) (lv b))))) := rfl
  simp only [execOp, hx, hy]
  rw [Sem.run_bind, Sem.run_bind, h2]
  simp only [Result.andThen]
  rw [e3, Sem.run_bind, run_eqL ht a b w]
  rfl)) (h.use w hw)⟩
end
theorem eg55 : Try.prog.eqGuardType Try.prog.depth 55 = false := by kernel_rfl
theorem eg58 : Try.prog.eqGuardType Try.prog.depth 58 = false := by kernel_rfl
theorem E45 : Enters Try.prog 45 := enters Try.func45 (by kernel_rfl) rfl
theorem E36 : Enters Try.prog 36 := enters Try.func36 (by kernel_rfl) rfl
set_option maxHeartbeats 8000000 in
theorem index_rets (B : Option Addr) (d : Nat) (a : List (Int × Int)) (x : Int × Int) (w : World) (ha : Kd.C kL w B a.length a) : Rets Try.prog 45 #[.slice B a.length d, lv x] w fun u w' => (∃ r : Int, u = .int .i64 r ∧ (r ≥ 0 ↔ x ∈ a)) ∧ Below w.heap.size w w' := by
  have hF := wide_wide
  have hmx := ha.2.1
  refine rets_at (n := 19) Try.func45 rfl Try.ntmps45 (by simp) ?_
  unfold lv
  ((repeat (first | ((with_reducible refine is_AL ?_); (first | ((with_reducible refine is_move ?_); (refine At_plain hF (by (first | exact (rfl : _ = some (Value.int _ _)) | exact (rfl : _ = some (Value.slice _ _ _)))) ?_)) | ((with_reducible refine is_assign ?_); (refine At_plain hF (by (exact (rfl : _ = some (Value.int _ _)))) ?_)) | ((with_reducible refine is_call ?_); (refine At_len hF rfl ?_)) | with_reducible refine At_nil ?_)) | ((with_reducible refine is_At ?_); (first | with_reducible refine At_seq ?_; intro K hK | with_reducible refine At_block ?_ | with_reducible refine At_region ?_ | with_reducible refine At_then_n ?_ | with_reducible refine At_go (by assumption) ?_)))); ((with_reducible refine is_box ?_); (refine At_boxA hF rfl ?_; intro b3)); (repeat (first | ((with_reducible refine is_AL ?_); (first | ((with_reducible refine is_move ?_); (refine At_plain hF (by (first | exact (rfl : _ = some (Value.int _ _)) | exact (rfl : _ = some (Value.slice _ _ _)))) ?_)) | ((with_reducible refine is_assign ?_); (refine At_plain hF (by (exact (rfl : _ = some (Value.int _ _)))) ?_)) | ((with_reducible refine is_call ?_); (refine At_len hF rfl ?_)) | with_reducible refine At_nil ?_)) | ((with_reducible refine is_At ?_); (first | with_reducible refine At_seq ?_; intro K hK | with_reducible refine At_block ?_ | with_reducible refine At_region ?_ | with_reducible refine At_then_n ?_ | with_reducible refine At_go (by assumption) ?_)))))
  refine At_loop (fun i : Nat => [(0, .slice B a.length d), (3, .pointer (some ⟨b3, 0, none⟩)), (7, .int .i64 a.length), (8, .int .i64 i)]) (fun _ => [.obj b3 (.cells #[.int .i64 x.1, .int .i64 x.2] 55)]) (fun i => i ≤ a.length ∧ ∀ k, k < i → a.getD k (0, 0) ≠ x) (fun i => a.length - i) 0 ?_ ?_ ⟨Nat.zero_le _, fun k hk => absurd hk (by omega)⟩ ?_
  · (repeat (first | exact List.Sublist.refl _ | exact List.Sublist.slnil | refine List.Sublist.cons_cons _ ?_ | refine List.Sublist.cons _ ?_))
  · (repeat (first | exact True.intro | (refine And.intro ?_ ?_; focus (show _ = (_ : Value); first | exact rfl | (refine Eq.trans (b := Value.int IntKind.i64 _) rfl (congrArg (Value.int IntKind.i64) ?_); omega)))))
  rintro i ⟨hi, hall⟩ K hL ρ0
  try dsimp only
  (repeat (first | ((with_reducible refine is_AL ?_); (first | ((with_reducible refine is_bin ?_); (refine At_plain hF (by (exact (rfl : _ = some (Value.bool _)))) ?_)) | with_reducible refine At_nil ?_)) | ((with_reducible refine is_At ?_); (first | with_reducible refine At_seq ?_; intro K hK | with_reducible refine At_region ?_ | with_reducible refine At_then_n ?_ | with_reducible refine At_go (by assumption) ?_))))
  ((with_reducible refine is_cond ?_); (refine At_cond rfl ?_ ?_ <;> (intro hg; try (simp only [decide_eq_true_eq, decide_eq_false_iff_not, beq_iff_eq, bne_iff_ne, beq_eq_false_iff_ne, bne_eq_false_iff_eq, ne_eq, Bool.not_eq_true', Bool.not_eq_false', Bool.not_true, Bool.not_false, Decidable.not_not] at hg); try (exfalso; first | omega | exact hg True.intro))))
  · have hil : i < a.length := by omega
    obtain ⟨ad, hA, hcell⟩ := CLk ha i hil
    have hmem : a.getD i (0, 0) ∈ a := getD_mem' hil
    generalize hz : a.getD i (0, 0) = z at *
    (repeat (first | ((with_reducible refine is_AL ?_); (first | ((with_reducible refine is_move ?_); (refine At_plain hF (by (exact (rfl : _ = some (Value.int _ _)))) ?_)) | ((with_reducible refine is_assign ?_); (refine At_plain hF (by (exact (rfl : _ = some (Value.int _ _)))) ?_)) | with_reducible refine At_nil ?_)) | ((with_reducible refine is_At ?_); (first | with_reducible refine At_seq ?_; intro K hK | with_reducible refine At_block ?_ | with_reducible refine At_region ?_ | with_reducible refine At_skip ?_ | with_reducible refine At_then_n ?_ | with_reducible refine At_go (by assumption) ?_))))
    refine At_draw hF 6 (by kernel_rfl) (by decide +kernel) ?_; simp only [List.take_succ_cons, List.take_zero, List.drop_succ_cons, List.drop_zero]; (repeat ((with_reducible refine is_AQc ?_); refine AQ_cons (by intro K Q hK; (repeat (first | ((with_reducible refine is_move ?_); (refine At_plain hF (by (first | exact (rfl : _ = some (Value.int _ _)) | exact (rfl : _ = some (Value.slice _ _ _)))) ?_)) | ((with_reducible refine is_load ?_); (refine At_loadB hF 0 rfl rfl rfl ?_)) | ((with_reducible refine is_index ?_); (refine At_indexC hF rfl (by assumption) rfl (by omega) ?_)))); exact At_nilK hK) ?_))
    refine AQ_cons (by intro K Q hK; refine At_loadCS (vs := [.int .i64 z.1, .int .i64 z.2]) hF (by exact rfl) (by exact rfl) hcell ?_; exact At_nilK hK) ?_
    refine AQ_cons (by intro K Q hK; refine At_eqL hF Try.underlying55 eg55 x z (by exact rfl) (by exact rfl) ?_; exact At_nilK hK) ?_
    (repeat ((with_reducible refine is_AQc ?_); refine AQ_cons (by intro K Q hK; skip; exact At_nilK hK) ?_)); refine AQ_done ?_
    by_cases e : x = z
    · rw [decide_eq_true e]
      (repeat (first | ((with_reducible refine is_AL ?_); (first | ((with_reducible refine is_move ?_); (refine At_plain hF (by (exact (rfl : _ = some (Value.int _ _)))) ?_)) | ((with_reducible refine is_assign ?_); (refine At_plain hF (by (exact (rfl : _ = some (Value.int _ _)))) ?_)) | with_reducible refine At_nil ?_)) | ((with_reducible refine is_At ?_); (first | with_reducible refine At_seq ?_; intro K hK | with_reducible refine At_region ?_ | with_reducible refine At_ret ?_ | with_reducible refine At_then_n ?_ | with_reducible refine At_then_r ?_ | with_reducible refine At_inb_r ?_ | with_reducible refine At_go (by assumption) ?_ | ((with_reducible refine is_cond ?_); (refine At_cond_t rfl ?_))))))
      exact At_ret1 rfl (rv_tmp (by decide)) (fun w' hw' => ⟨_, rfl, ⟨i, rfl, fun _ => e ▸ hmem, fun _ => by omega⟩, hw'.below⟩)
    · rw [decide_eq_false e]
      (repeat (first | ((with_reducible refine is_AL ?_); (first | ((with_reducible refine is_move ?_); (refine At_plain hF (by (exact (rfl : _ = some (Value.int _ _)))) ?_)) | ((with_reducible refine is_bin ?_); ((with_reducible refine is_badd ?_); (refine At_add hF rfl rfl (by omega) ?_))) | with_reducible refine At_nil ?_)) | ((with_reducible refine is_At ?_); (first | with_reducible refine At_region ?_ | with_reducible refine At_skip ?_ | with_reducible refine At_then_n ?_ | with_reducible refine At_inb_n ?_ | with_reducible refine At_go (by assumption) ?_ | ((with_reducible refine is_cond ?_); (refine At_cond_f rfl ?_))))))
      refine At.sub ?_ (hL (i + 1) _ ⟨hil, fun k hk => ?_⟩ (by omega) ?_)
      · (repeat (first | exact List.Sublist.refl _ | exact List.Sublist.slnil | refine List.Sublist.cons_cons _ ?_ | refine List.Sublist.cons _ ?_))
      · by_cases ek : k = i
        · rw [ek, hz]; exact fun h => e h.symm
        · exact hall k (by omega)
      · (repeat (first | exact True.intro | (refine And.intro ?_ ?_; focus (show _ = (_ : Value); first | exact rfl | (refine Eq.trans (b := Value.int IntKind.i64 _) rfl (congrArg (Value.int IntKind.i64) ?_); omega)))))
  · obtain rfl : i = a.length := by omega
    (repeat (first | ((with_reducible refine is_AL ?_); (first | ((with_reducible refine is_assign ?_); (refine At_plain hF (by (exact (rfl : _ = some (Value.int _ _)))) ?_)) | with_reducible refine At_nil ?_)) | ((with_reducible refine is_At ?_); (first | with_reducible refine At_seq ?_; intro K hK | with_reducible refine At_region ?_ | with_reducible refine At_ret ?_ | with_reducible refine At_exit ?_ | with_reducible refine At_then_n ?_ | with_reducible refine At_then_e ?_ | with_reducible refine At_inb_e rfl ?_ | with_reducible refine At_go (by assumption) ?_))))
    exact At_ret1 rfl (rv_tmp (by decide)) (fun w' hw' => ⟨_, rfl, ⟨-1, rfl, fun h => absurd h (by decide), fun hm => by
      obtain ⟨k, hkl, e⟩ := List.getElem_of_mem hm
      exact absurd (by rw [List.getD_eq_getElem?_getD, List.getElem?_eq_getElem hkl, Option.getD_some, e]) (hall k hkl)⟩, hw'.below⟩)
set_option maxHeartbeats 8000000 in
theorem contains_rets (B : Option Addr) (d : Nat) (a : List (Int × Int)) (x : Int × Int) (w : World) (ha : Kd.C kL w B a.length a) : Rets Try.prog 36 #[.slice B a.length d, lv x] w fun u w' => u = .bool (decide (x ∈ a)) ∧ Below w.heap.size w w' := by
  have hF := wide_wide
  refine rets_at (n := 9) Try.func36 rfl Try.ntmps36 (by simp) ?_
  unfold lv
  ((repeat (first | ((with_reducible refine is_AL ?_); (first | ((with_reducible refine is_move ?_); (refine At_plain hF (by (exact (rfl : _ = some (Value.slice _ _ _)))) ?_)) | ((with_reducible refine is_assign ?_); (refine At_plain hF (by (exact (rfl : _ = some (Value.bool _)))) ?_)) | ((with_reducible refine is_load ?_); (refine At_loadB hF 0 rfl rfl rfl ?_)) | with_reducible refine At_nil ?_)) | ((with_reducible refine is_At ?_); (first | with_reducible refine At_seq ?_; intro K hK | with_reducible refine At_region ?_ | with_reducible refine At_then_n ?_ | with_reducible refine At_go (by assumption) ?_)))); ((with_reducible refine is_box ?_); (refine At_boxA hF rfl ?_; intro b3)); (repeat (first | ((with_reducible refine is_AL ?_); (first | ((with_reducible refine is_move ?_); (refine At_plain hF (by (exact (rfl : _ = some (Value.slice _ _ _)))) ?_)) | ((with_reducible refine is_assign ?_); (refine At_plain hF (by (exact (rfl : _ = some (Value.bool _)))) ?_)) | ((with_reducible refine is_load ?_); (refine At_loadB hF 0 rfl rfl rfl ?_)) | with_reducible refine At_nil ?_)) | ((with_reducible refine is_At ?_); (first | with_reducible refine At_seq ?_; intro K hK | with_reducible refine At_region ?_ | with_reducible refine At_then_n ?_ | with_reducible refine At_go (by assumption) ?_)))))
  refine At_callK hF E45 rfl (arg2 (by (first | exact (rfl : _ = (Value.int _ _)) | exact (rfl : _ = (Value.bool _)) | exact (rfl : _ = (Value.pointer _)) | exact (rfl : _ = (Value.slice _ _ _)) | exact (rfl : _ = (Value.map _)) | exact (rfl : _ = (Value.func _ _ _)) | exact (rfl : _ = (Value.tuple _)) | exact (rfl : _ = (Value.agg _)) | exact (rfl : _ = (Value.string _)) | exact (rfl : _ = (Value.nilFunc)) | exact (rfl : _ = (Value.nilIface)))) (by (first | exact (rfl : _ = (Value.int _ _)) | exact (rfl : _ = (Value.bool _)) | exact (rfl : _ = (Value.pointer _)) | exact (rfl : _ = (Value.slice _ _ _)) | exact (rfl : _ = (Value.map _)) | exact (rfl : _ = (Value.func _ _ _)) | exact (rfl : _ = (Value.tuple _)) | exact (rfl : _ = (Value.agg _)) | exact (rfl : _ = (Value.string _)) | exact (rfl : _ = (Value.nilFunc)) | exact (rfl : _ = (Value.nilIface))))) (fun w' hw' => index_rets B d a x w' (Kd.C_below ha hw'.below)) ?_
  rintro _ w1 hb1 ⟨r, rfl, hr⟩
  (repeat (first | ((with_reducible refine is_AL ?_); (first | ((with_reducible refine is_bin ?_); (refine At_plain hF (by (exact (rfl : _ = some (Value.bool _)))) ?_)) | ((with_reducible refine is_assign ?_); (refine At_plain hF (by (exact (rfl : _ = some (Value.bool _)))) ?_)) | with_reducible refine At_nil ?_)) | ((with_reducible refine is_At ?_); (first | with_reducible refine At_ret ?_ | with_reducible refine At_then_n ?_ | with_reducible refine At_go (by assumption) ?_))))
  exact At_ret1 rfl (rv_tmp (by decide)) (fun w' hw' => ⟨_, rfl, congrArg Value.bool (decide_eq_decide.2 hr), hb1.trans (Below.mono hw'.below hb1.size)⟩)
end Go.Proofs.Ytmilnlcegcdolaa.P
