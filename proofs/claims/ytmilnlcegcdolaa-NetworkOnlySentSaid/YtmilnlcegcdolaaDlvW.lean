/- Deliver: the program's. -/
import Derived.Test.YtmilnlcegcdolaaDelW
namespace Go.Proofs.Ytmilnlcegcdolaa.P
open Go.RowKit Go.Proofs.YtmilnlcegcdolaaW.PrintWords
open XW RegInv
attribute [local irreducible] Addr.add
set_option linter.unusedSimpArgs false
set_option linter.unusedVariables false

instance tb28 : TB Try.prog 28 := ⟨[(0, 1), (1, 1), (2, 1)], by
  obtain ⟨i, h1, h2, _⟩ := inf3
  obtain ⟨j, g1, g2, _⟩ := inf26
  exact ⟨_, Try.underlying28, fun W => by simp [Go.sizeOf, typeInfo, program, h1, h2, g1, g2, Sem.run_bind, Sem.run, Result.andThen]⟩⟩
instance tb25 : TB Try.prog 25 := ⟨[(0, 1), (1, 1)], by
  obtain ⟨i, h1, h2, _⟩ := inf22
  obtain ⟨j, g1, g2, _⟩ := inf23
  exact ⟨_, Try.underlying25, fun W => by simp [Go.sizeOf, typeInfo, program, h1, h2, g1, g2, Sem.run_bind, Sem.run, Result.andThen]⟩⟩
/-- the packet that is delivered -/
def dlvP (N : NET) (i : Nat) : PKT := if btw (N.q.getD i zP).f (N.q.getD i zP).t ∈ N.a then zP else N.q.getD i zP
def delPost (N : NET) (i : Int) (u : Value) (Rs : List Res) : Prop :=
  (atE N.q N.a i ≠ 0 ∧ u = .tuple #[zP.v, zN.v, .int .i64 (atE N.q N.a i)] ∧ Rs = []) ∨ (atE N.q N.a i = 0 ∧ ∃ v, u = .tuple #[(dlvP N i.toNat).v, v, .int .i64 0] ∧ wthPost N i.toNat v Rs)
theorem E18 : Enters Try.prog 18 := enters Try.func18 (by kernel_rfl) rfl
set_option maxHeartbeats 8000000 in
theorem deliver_rets (N : NET) (i : Int) (w : World) (h : N.ok w) : Rets Try.prog 18 #[N.v, .int .i64 i] w fun u w' => ∃ Rs, delPost N i u Rs ∧ Mem w w' Rs := by
  have hF := wide_wide
  have hat := fun w' hb => at_rets N i w' (h.below (w := w) hb)
  have hwo := fun k w' hb => without_rets N k w' (h.below (w := w) hb)
  have h00 : atE N.q N.a i = 0 → ∃ k : Nat, i = k ∧ k < N.q.length ∧ N.q.length ≤ 4096 := fun h => by
    obtain ⟨h1, h2, h3⟩ := atE_0 h
    exact ⟨i.toNat, by omega, by omega, h1.1⟩
  have ha := h.a
  refine rets_at (n := 31) Try.func18 rfl Try.ntmps18 (by simp) ?_
  have hv : N.v = .agg #[.slice N.A N.q.length N.c, .slice N.B N.a.length N.d] := rfl
  rw [hv] at hat hwo ⊢
  ((repeat (first | ((with_reducible refine is_AL ?_); (first | ((with_reducible refine is_move ?_); (refine At_plain hF (by (exact (rfl : _ = some (Value.int _ _)))) ?_)) | ((with_reducible refine is_assign ?_); (refine At_plain hF (by (exact (rfl : _ = some (Value.int _ _)))) ?_)) | ((with_reducible refine is_load ?_); (refine At_loadB hF 2 rfl rfl rfl ?_)) | with_reducible refine At_nil ?_)) | ((with_reducible refine is_At ?_); (first | with_reducible refine At_seq ?_; intro K hK | with_reducible refine At_region ?_ | with_reducible refine At_then_n ?_ | with_reducible refine At_go (by assumption) ?_)))); (first | ((with_reducible refine is_alloc ?_); (refine At_alloc hF (by (exact (rfl : _ = List.toArray (_ :: _)))) ?_; intro b2)) | ((with_reducible refine is_box ?_); (refine At_boxA hF rfl ?_; intro b2))); (repeat (first | ((with_reducible refine is_AL ?_); (first | ((with_reducible refine is_move ?_); (refine At_plain hF (by (exact (rfl : _ = some (Value.int _ _)))) ?_)) | ((with_reducible refine is_assign ?_); (refine At_plain hF (by (exact (rfl : _ = some (Value.int _ _)))) ?_)) | ((with_reducible refine is_load ?_); (refine At_loadB hF 2 rfl rfl rfl ?_)) | with_reducible refine At_nil ?_)) | ((with_reducible refine is_At ?_); (first | with_reducible refine At_seq ?_; intro K hK | with_reducible refine At_region ?_ | with_reducible refine At_then_n ?_ | with_reducible refine At_go (by assumption) ?_)))); (first | ((with_reducible refine is_alloc ?_); (refine At_alloc hF (by (exact (rfl : _ = List.toArray (_ :: _)))) ?_; intro b4)) | ((with_reducible refine is_box ?_); (refine At_boxA hF rfl ?_; intro b4))); (repeat (first | ((with_reducible refine is_AL ?_); (first | ((with_reducible refine is_move ?_); (refine At_plain hF (by (exact (rfl : _ = some (Value.int _ _)))) ?_)) | ((with_reducible refine is_assign ?_); (refine At_plain hF (by (exact (rfl : _ = some (Value.int _ _)))) ?_)) | ((with_reducible refine is_load ?_); (refine At_loadB hF 2 rfl rfl rfl ?_)) | with_reducible refine At_nil ?_)) | ((with_reducible refine is_At ?_); (first | with_reducible refine At_seq ?_; intro K hK | with_reducible refine At_region ?_ | with_reducible refine At_then_n ?_ | with_reducible refine At_go (by assumption) ?_)))); (first | ((with_reducible refine is_alloc ?_); (refine At_alloc hF (by (exact (rfl : _ = List.toArray (_ :: _)))) ?_; intro b5)) | ((with_reducible refine is_box ?_); (refine At_boxA hF rfl ?_; intro b5))); (repeat (first | ((with_reducible refine is_AL ?_); (first | ((with_reducible refine is_move ?_); (refine At_plain hF (by (exact (rfl : _ = some (Value.int _ _)))) ?_)) | ((with_reducible refine is_assign ?_); (refine At_plain hF (by (exact (rfl : _ = some (Value.int _ _)))) ?_)) | ((with_reducible refine is_load ?_); (refine At_loadB hF 2 rfl rfl rfl ?_)) | with_reducible refine At_nil ?_)) | ((with_reducible refine is_At ?_); (first | with_reducible refine At_seq ?_; intro K hK | with_reducible refine At_region ?_ | with_reducible refine At_then_n ?_ | with_reducible refine At_go (by assumption) ?_)))))
  refine At_callB hF E35 rfl (arg2 (by (first | exact (rfl : _ = (Value.int _ _)) | exact (rfl : _ = (Value.bool _)) | exact (rfl : _ = (Value.pointer _)) | exact (rfl : _ = (Value.slice _ _ _)) | exact (rfl : _ = (Value.map _)) | exact (rfl : _ = (Value.func _ _ _)) | exact (rfl : _ = (Value.tuple _)) | exact (rfl : _ = (Value.agg _)) | exact (rfl : _ = (Value.string _)) | exact (rfl : _ = (Value.nilFunc)) | exact (rfl : _ = (Value.nilIface)))) (by (first | exact (rfl : _ = (Value.int _ _)) | exact (rfl : _ = (Value.bool _)) | exact (rfl : _ = (Value.pointer _)) | exact (rfl : _ = (Value.slice _ _ _)) | exact (rfl : _ = (Value.map _)) | exact (rfl : _ = (Value.func _ _ _)) | exact (rfl : _ = (Value.tuple _)) | exact (rfl : _ = (Value.agg _)) | exact (rfl : _ = (Value.string _)) | exact (rfl : _ = (Value.nilFunc)) | exact (rfl : _ = (Value.nilIface))))) (fun w' hw' => hat w' hw'.below) ?_
  by_cases h0 : atE N.q N.a i = 0
  case neg =>
    have e2 : atP N.q N.a i = zP := if_neg h0
    rw [e2]
    simp only [zP, PKT.v]
    (repeat (first | ((with_reducible refine is_AL ?_); (first | ((with_reducible refine is_move ?_); (refine At_plain hF (by (first | exact (rfl : _ = some (Value.int _ _)) | exact (rfl : _ = some (Value.tuple _)))) ?_)) | ((with_reducible refine is_bin ?_); (refine At_plain hF (by (exact (rfl : _ = some (Value.bool _)))) ?_)) | ((with_reducible refine is_assign ?_); (refine At_plain hF (by (exact (rfl : _ = some (Value.int _ _)))) ?_)) | ((with_reducible refine is_extract ?_); (refine At_plain hF (by (first | exact (rfl : _ = some (Value.int _ _)) | exact (rfl : _ = some (Value.agg _)))) ?_)) | ((with_reducible refine is_store ?_); (refine At_storeB_1 hF rfl rfl rfl rfl (by simp [Value.one1, epair]) ?_)) | with_reducible refine At_nil ?_)) | ((with_reducible refine is_At ?_); (first | with_reducible refine At_seq ?_; intro K hK | with_reducible refine At_region ?_ | with_reducible refine At_then_n ?_ | with_reducible refine At_go (by assumption) ?_))))
    rw [show (atE N.q N.a i != 0) = true by rw [bne_iff_ne]; exact h0]
    (repeat ((with_reducible refine is_At ?_); (first | with_reducible refine At_seq ?_; intro K hK | ((with_reducible refine is_cond ?_); (refine At_cond_t rfl ?_)))))
    refine At_drawE hF 5 [0, 1, 2] [] [3, 4] (.obj b5 (.cells #[.slice none 0 0, .slice none 0 0] 25) :: .obj b4 (.cells #[.int .i64 0, .int .i64 0, .slice none 0 0] 28) :: []) (by kernel_rfl) (by decide +kernel) (by decide +kernel) ?_; simp only [List.drop_succ_cons, List.drop_zero]; (repeat ((with_reducible refine is_AQF ?_); first | refine AQF_early (by decide) (by exact (rfl : _ = some (Oper.mk _ _ _ _ _ _))) (by intro K Q hK; (repeat (first | ((with_reducible refine is_move ?_); (refine At_plain hF (by (exact (rfl : _ = some (Value.int _ _)))) ?_)) | ((with_reducible refine is_load ?_); (first | refine At_loadB hF 0 rfl rfl rfl ?_ | refine At_loadB hF 1 rfl rfl rfl ?_)))); exact At_nilK hK) ?_ | refine AQF_late (by decide) (by exact (rfl : _ = some (Oper.mk _ _ _ _ _ _))) (by intro E K Q hK; simp only [List.cons_append, List.nil_append] at hK ⊢; (repeat (first | ((with_reducible refine is_move ?_); (refine At_plain hF (by (exact (rfl : _ = some (Value.int _ _)))) ?_)) | ((with_reducible refine is_load ?_); (first | refine At_loadB hF 0 rfl rfl rfl ?_ | refine At_loadB hF 1 rfl rfl rfl ?_)))); exact At_nilK hK) ?_))
    refine AQF_done ?_
    (refine WAt_cons ?_ (by exact (rfl : _ = some (Oper.mk _ _ _ _ _ _))) ?_; (focus (repeat (first | exact List.Sublist.refl _ | exact List.Sublist.slnil | refine List.Sublist.cons_cons _ ?_ | refine List.Sublist.cons _ ?_))); intro K Q hK)
    (repeat (first | ((with_reducible refine is_AL ?_); (first | ((with_reducible refine is_store ?_); (refine At_storeB_1 hF rfl rfl rfl rfl (by simp [Value.one1, epair]) ?_)) | with_reducible refine At_nil ?_)) | ((with_reducible refine is_At ?_); (with_reducible refine At_then_n ?_))))
    refine hK _ _ ?_
    (refine WAt_cons ?_ (by exact (rfl : _ = some (Oper.mk _ _ _ _ _ _))) ?_; (focus (repeat (first | exact List.Sublist.refl _ | exact List.Sublist.slnil | refine List.Sublist.cons_cons _ ?_ | refine List.Sublist.cons _ ?_))); intro K Q hK)
    (repeat (first | ((with_reducible refine is_AL ?_); (first | ((with_reducible refine is_store ?_); (refine At_storeB_0 hF rfl rfl rfl rfl (by simp [Value.one1, epair]) ?_)) | with_reducible refine At_nil ?_)) | ((with_reducible refine is_At ?_); (with_reducible refine At_then_n ?_))))
    refine hK _ _ ?_
    (refine WAt_nil ?_ ?_; (focus (repeat (first | exact List.Sublist.refl _ | exact List.Sublist.slnil | refine List.Sublist.cons_cons _ ?_ | refine List.Sublist.cons _ ?_))))
    (repeat (first | ((with_reducible refine is_AL ?_); (first | ((with_reducible refine is_assign ?_); (refine At_plain hF (by (exact (rfl : _ = some (Value.int _ _)))) ?_)) | with_reducible refine At_nil ?_)) | ((with_reducible refine is_At ?_); (first | with_reducible refine At_ret ?_ | with_reducible refine At_then_n ?_ | with_reducible refine At_then_r ?_ | with_reducible refine At_go (by assumption) ?_))))
    exact At_ret3 rfl (rv_cellB (by decide) (by exact rfl) 1 rfl rfl) (rv_cellB (by decide) (by exact rfl) 0 rfl rfl) (rv_tmp (by decide)) (fun w' hw' => ⟨_, rfl, [], .inl ⟨h0, rfl, rfl⟩, hw'.sub (List.nil_sublist _)⟩)
  obtain ⟨k, rfl, hk, hq0⟩ := h00 h0
  have e2 : atP N.q N.a (k : Int) = N.q.getD k zP := by unfold atP; rw [h0, if_pos rfl, Int.toNat_natCast]
  have hdp : dlvP N k = if btw (N.q.getD k zP).f (N.q.getD k zP).t ∈ N.a then zP else N.q.getD k zP := rfl
  have hpp : ∀ u Rs, (∃ v, u = .tuple #[(dlvP N k).v, v, .int .i64 0] ∧ wthPost N k v Rs) → delPost N (k : Int) u Rs := fun u Rs h => .inr ⟨h0, by rw [Int.toNat_natCast]; exact h⟩
  rw [e2, h0]
  generalize N.q.getD k zP = p at *
  generalize dlvP N k = o at *
  simp only [PKT.v]
  (repeat (first | ((with_reducible refine is_AL ?_); (first | ((with_reducible refine is_move ?_); (refine At_plain hF (by (first | exact (rfl : _ = some (Value.int _ _)) | exact (rfl : _ = some (Value.tuple _)))) ?_)) | ((with_reducible refine is_bin ?_); (refine At_plain hF (by (exact (rfl : _ = some (Value.bool _)))) ?_)) | ((with_reducible refine is_assign ?_); (refine At_plain hF (by (exact (rfl : _ = some (Value.int _ _)))) ?_)) | ((with_reducible refine is_extract ?_); (refine At_plain hF (by (first | exact (rfl : _ = some (Value.int _ _)) | exact (rfl : _ = some (Value.agg _)))) ?_)) | ((with_reducible refine is_store ?_); (refine At_storeB_1 hF rfl rfl rfl rfl (by simp [Value.one1, epair]) ?_)) | with_reducible refine At_nil ?_)) | ((with_reducible refine is_At ?_); (first | with_reducible refine At_seq ?_; intro K hK | with_reducible refine At_region ?_ | with_reducible refine At_skip ?_ | with_reducible refine At_then_n ?_ | with_reducible refine At_go (by assumption) ?_ | ((with_reducible refine is_cond ?_); (refine At_cond_f rfl ?_))))))
  refine At_merge [(1, .int .i64 k), (2, .pointer (some ⟨b2, 0, none⟩)), (4, .pointer (some ⟨b4, 0, none⟩)), (5, .pointer (some ⟨b5, 0, none⟩)), (25, .bool (decide (btw p.f p.t ∈ N.a)))] [.obj b5 (.cells #[.slice none 0 0, .slice none 0 0] 25), .obj b4 (.cells #[.int .i64 p.f, .int .i64 p.t, .slice p.A p.l p.c] 28), .obj b2 (.cells #[.slice N.A N.q.length N.c, .slice N.B N.a.length N.d] 25)] ?_ ?_
  · intro K' hK'
    refine At_draw hF 8 (by kernel_rfl) (by decide +kernel) ?_; simp only [List.take_succ_cons, List.take_zero, List.drop_succ_cons, List.drop_zero]; (repeat ((with_reducible refine is_AQc ?_); refine AQ_cons (by intro K Q hK; (repeat (first | ((with_reducible refine is_field ?_); (refine At_field hF rfl ?_)) | ((with_reducible refine is_load ?_); (first | refine At_load hF 1 (by exact rfl) rfl (by (exact (rfl : _ = some (Value.int _ _)))) ?_ | refine At_load hF 2 (by exact rfl) rfl (by (exact (rfl : _ = some (Value.slice _ _ _)))) ?_)))); exact At_nilK hK) ?_))
    refine AQ_cons (by intro K Q hK; refine At_callB hF E37 rfl (arg2 (by (first | exact (rfl : _ = (Value.int _ _)) | exact (rfl : _ = (Value.bool _)) | exact (rfl : _ = (Value.pointer _)) | exact (rfl : _ = (Value.slice _ _ _)) | exact (rfl : _ = (Value.map _)) | exact (rfl : _ = (Value.func _ _ _)) | exact (rfl : _ = (Value.tuple _)) | exact (rfl : _ = (Value.agg _)) | exact (rfl : _ = (Value.string _)) | exact (rfl : _ = (Value.nilFunc)) | exact (rfl : _ = (Value.nilIface)))) (by (first | exact (rfl : _ = (Value.int _ _)) | exact (rfl : _ = (Value.bool _)) | exact (rfl : _ = (Value.pointer _)) | exact (rfl : _ = (Value.slice _ _ _)) | exact (rfl : _ = (Value.map _)) | exact (rfl : _ = (Value.func _ _ _)) | exact (rfl : _ = (Value.tuple _)) | exact (rfl : _ = (Value.agg _)) | exact (rfl : _ = (Value.string _)) | exact (rfl : _ = (Value.nilFunc)) | exact (rfl : _ = (Value.nilIface))))) (fun w' hw' => between_rets p.f p.t w') ?_; exact At_nilK hK) ?_
    refine AQ_cons (by intro K Q hK; refine At_callB hF E36 rfl (arg2 (by (first | exact (rfl : _ = (Value.int _ _)) | exact (rfl : _ = (Value.bool _)) | exact (rfl : _ = (Value.pointer _)) | exact (rfl : _ = (Value.slice _ _ _)) | exact (rfl : _ = (Value.map _)) | exact (rfl : _ = (Value.func _ _ _)) | exact (rfl : _ = (Value.tuple _)) | exact (rfl : _ = (Value.agg _)) | exact (rfl : _ = (Value.string _)) | exact (rfl : _ = (Value.nilFunc)) | exact (rfl : _ = (Value.nilIface)))) (by (first | exact (rfl : _ = (Value.int _ _)) | exact (rfl : _ = (Value.bool _)) | exact (rfl : _ = (Value.pointer _)) | exact (rfl : _ = (Value.slice _ _ _)) | exact (rfl : _ = (Value.map _)) | exact (rfl : _ = (Value.func _ _ _)) | exact (rfl : _ = (Value.tuple _)) | exact (rfl : _ = (Value.agg _)) | exact (rfl : _ = (Value.string _)) | exact (rfl : _ = (Value.nilFunc)) | exact (rfl : _ = (Value.nilIface))))) (fun w' hw' => contains_rets N.B N.d N.a (btw p.f p.t) w' (Kd.C_below ha hw'.below)) ?_; exact At_nilK hK) ?_
    (repeat ((with_reducible refine is_AQc ?_); refine AQ_cons (by intro K Q hK; skip; exact At_nilK hK) ?_)); refine AQ_done ?_
    (repeat (first | ((with_reducible refine is_AL ?_); (with_reducible refine At_nil ?_)) | ((with_reducible refine is_At ?_); (with_reducible refine At_then_n ?_))))
    refine At.sub ?_ (hK' _ ?_)
    · (repeat (first | exact List.Sublist.refl _ | exact List.Sublist.slnil | refine List.Sublist.cons_cons _ ?_ | refine List.Sublist.cons _ ?_))
    · (repeat (first | exact True.intro | (refine And.intro ?_ ?_; focus (show _ = (_ : Value); first | exact rfl | (refine Eq.trans (b := Value.int IntKind.i64 _) rfl (congrArg (Value.int IntKind.i64) ?_); omega)))))
  intro ρ1
  try dsimp only
  refine At_go (by assumption) ?_
  refine At_merge [(1, .int .i64 k), (2, .pointer (some ⟨b2, 0, none⟩)), (4, .pointer (some ⟨b4, 0, none⟩)), (5, .pointer (some ⟨b5, 0, none⟩))] [.obj b5 (.cells #[.slice none 0 0, .slice none 0 0] 25), .obj b4 (.cells #[.int .i64 o.f, .int .i64 o.t, .slice o.A o.l o.c] 28), .obj b2 (.cells #[.slice N.A N.q.length N.c, .slice N.B N.a.length N.d] 25)] ?_ ?_
  · intro K' hK'
    by_cases hin : btw p.f p.t ∈ N.a
    · rw [if_pos hin] at hdp
      rw [decide_eq_true hin]
      subst hdp
      (repeat ((with_reducible refine is_At ?_); (first | with_reducible refine At_region ?_ | ((with_reducible refine is_cond ?_); (refine At_cond_t rfl ?_)))))
      refine At_buildS hF (cs := #[.int .i64 0, .int .i64 0, .slice none 0 0]) (by exact rfl) (by exact rfl) ?_
      (repeat (first | ((with_reducible refine is_AL ?_); (first | ((with_reducible refine is_store ?_); (refine At_storeB_1 hF rfl rfl rfl rfl (by simp [Value.one1, epair]) ?_)) | with_reducible refine At_nil ?_)) | ((with_reducible refine is_At ?_); (with_reducible refine At_then_n ?_))))
      refine At.sub ?_ (hK' _ ?_)
      · (repeat (first | exact List.Sublist.refl _ | exact List.Sublist.slnil | refine List.Sublist.cons_cons _ ?_ | refine List.Sublist.cons _ ?_))
      · (repeat (first | exact True.intro | (refine And.intro ?_ ?_; focus (show _ = (_ : Value); first | exact rfl | (refine Eq.trans (b := Value.int IntKind.i64 _) rfl (congrArg (Value.int IntKind.i64) ?_); omega)))))
    · rw [if_neg hin] at hdp
      rw [decide_eq_false hin]
      subst hdp
      (repeat ((with_reducible refine is_At ?_); (first | with_reducible refine At_skip ?_ | with_reducible refine At_then_n ?_ | ((with_reducible refine is_cond ?_); (refine At_cond_f rfl ?_)))))
      refine At.sub ?_ (hK' _ ?_)
      · (repeat (first | exact List.Sublist.refl _ | exact List.Sublist.slnil | refine List.Sublist.cons_cons _ ?_ | refine List.Sublist.cons _ ?_))
      · (repeat (first | exact True.intro | (refine And.intro ?_ ?_; focus (show _ = (_ : Value); first | exact rfl | (refine Eq.trans (b := Value.int IntKind.i64 _) rfl (congrArg (Value.int IntKind.i64) ?_); omega)))))
  intro ρ2
  try dsimp only
  (repeat ((with_reducible refine is_At ?_); (first | with_reducible refine At_seq ?_; intro K hK | with_reducible refine At_go (by assumption) ?_)))
  refine At_drawE hF 6 [0, 1, 2] [] [3, 4, 5] (.obj b4 (.cells #[.int .i64 o.f, .int .i64 o.t, .slice o.A o.l o.c] 28) :: .obj b2 (.cells #[.slice N.A N.q.length N.c, .slice N.B N.a.length N.d] 25) :: []) (by kernel_rfl) (by decide +kernel) (by decide +kernel) ?_; simp only [List.drop_succ_cons, List.drop_zero]; (repeat ((with_reducible refine is_AQF ?_); first | refine AQF_early (by decide) (by exact (rfl : _ = some (Oper.mk _ _ _ _ _ _))) (by intro K Q hK; (repeat (first | ((with_reducible refine is_move ?_); (refine At_plain hF (by (exact (rfl : _ = some (Value.int _ _)))) ?_)) | ((with_reducible refine is_load ?_); (first | refine At_loadB hF 0 rfl rfl rfl ?_ | refine At_loadB hF 1 rfl rfl rfl ?_)))); exact At_nilK hK) ?_ | refine AQF_late (by decide) (by exact (rfl : _ = some (Oper.mk _ _ _ _ _ _))) (by intro E K Q hK; simp only [List.cons_append, List.nil_append] at hK ⊢; (repeat (first | ((with_reducible refine is_move ?_); (refine At_plain hF (by (exact (rfl : _ = some (Value.int _ _)))) ?_)) | ((with_reducible refine is_load ?_); (first | refine At_loadB hF 0 rfl rfl rfl ?_ | refine At_loadB hF 1 rfl rfl rfl ?_)))); exact At_nilK hK) ?_))
  refine AQF_done ?_
  (refine WAt_cons ?_ (by exact (rfl : _ = some (Oper.mk _ _ _ _ _ _))) ?_; (focus (repeat (first | exact List.Sublist.refl _ | exact List.Sublist.slnil | refine List.Sublist.cons_cons _ ?_ | refine List.Sublist.cons _ ?_))); intro K Q hK)
  refine At_callM (Post := fun u Rs => wthPost N k u Rs) hF E38 rfl (arg2 (by (first | exact (rfl : _ = (Value.int _ _)) | exact (rfl : _ = (Value.bool _)) | exact (rfl : _ = (Value.pointer _)) | exact (rfl : _ = (Value.slice _ _ _)) | exact (rfl : _ = (Value.map _)) | exact (rfl : _ = (Value.func _ _ _)) | exact (rfl : _ = (Value.tuple _)) | exact (rfl : _ = (Value.agg _)) | exact (rfl : _ = (Value.string _)) | exact (rfl : _ = (Value.nilFunc)) | exact (rfl : _ = (Value.nilIface)))) (by (first | exact (rfl : _ = (Value.int _ _)) | exact (rfl : _ = (Value.bool _)) | exact (rfl : _ = (Value.pointer _)) | exact (rfl : _ = (Value.slice _ _ _)) | exact (rfl : _ = (Value.map _)) | exact (rfl : _ = (Value.func _ _ _)) | exact (rfl : _ = (Value.tuple _)) | exact (rfl : _ = (Value.agg _)) | exact (rfl : _ = (Value.string _)) | exact (rfl : _ = (Value.nilFunc)) | exact (rfl : _ = (Value.nilIface))))) (fun w' hw' => hwo k w' hw'.below hk hq0) ?_
  rintro u Rs (⟨hp1, rfl, rfl⟩ | ⟨b', c', rfl, rfl⟩)
  · simp only [List.nil_append, cutN, NET.v]
    refine At_nilK (hK _ _ ?_)
    (refine WAt_cons ?_ (by exact (rfl : _ = some (Oper.mk _ _ _ _ _ _))) ?_; (focus (repeat (first | exact List.Sublist.refl _ | exact List.Sublist.slnil | refine List.Sublist.cons_cons _ ?_ | refine List.Sublist.cons _ ?_))); intro K Q hK)
    (repeat (first | ((with_reducible refine is_AL ?_); (first | ((with_reducible refine is_store ?_); (refine At_storeB_1 hF rfl rfl rfl rfl (by simp [Value.one1, epair]) ?_)) | with_reducible refine At_nil ?_)) | ((with_reducible refine is_At ?_); (with_reducible refine At_then_n ?_))))
    refine hK _ _ ?_
    (refine WAt_cons ?_ (by exact (rfl : _ = some (Oper.mk _ _ _ _ _ _))) ?_; (focus (repeat (first | exact List.Sublist.refl _ | exact List.Sublist.slnil | refine List.Sublist.cons_cons _ ?_ | refine List.Sublist.cons _ ?_))); intro K Q hK)
    (repeat (first | ((with_reducible refine is_AL ?_); (first | ((with_reducible refine is_store ?_); (refine At_storeB_0 hF rfl rfl rfl rfl (by simp [Value.one1, epair]) ?_)) | with_reducible refine At_nil ?_)) | ((with_reducible refine is_At ?_); (with_reducible refine At_then_n ?_))))
    refine hK _ _ ?_
    (refine WAt_nil ?_ ?_; (focus (repeat (first | exact List.Sublist.refl _ | exact List.Sublist.slnil | refine List.Sublist.cons_cons _ ?_ | refine List.Sublist.cons _ ?_))))
    (repeat (first | ((with_reducible refine is_AL ?_); (first | ((with_reducible refine is_assign ?_); (refine At_plain hF (by (exact (rfl : _ = some (Value.int _ _)))) ?_)) | with_reducible refine At_nil ?_)) | ((with_reducible refine is_At ?_); (first | with_reducible refine At_ret ?_ | with_reducible refine At_then_n ?_ | with_reducible refine At_go (by assumption) ?_))))
    exact At_ret3 rfl (rv_cellB (by decide) (by exact rfl) 1 rfl rfl) (rv_cellB (by decide) (by exact rfl) 0 rfl rfl) (rv_tmp (by decide)) (fun w' hw' => ⟨_, rfl, [], hpp _ _ ⟨_, rfl, .inl ⟨hp1, rfl, rfl⟩⟩, hw'.sub (List.nil_sublist _)⟩)
  · simp only [List.cons_append, List.nil_append, rowN, NET.v, rowR]
    refine At_nilK (hK _ _ ?_)
    (refine WAt_cons ?_ (by exact (rfl : _ = some (Oper.mk _ _ _ _ _ _))) ?_; (focus (repeat (first | exact List.Sublist.refl _ | exact List.Sublist.slnil | refine List.Sublist.cons_cons _ ?_ | refine List.Sublist.cons _ ?_))); intro K Q hK)
    (repeat (first | ((with_reducible refine is_AL ?_); (first | ((with_reducible refine is_store ?_); (refine At_storeB_2 hF rfl rfl rfl rfl (by simp [Value.one1, epair]) ?_)) | with_reducible refine At_nil ?_)) | ((with_reducible refine is_At ?_); (with_reducible refine At_then_n ?_))))
    refine hK _ _ ?_
    (refine WAt_cons ?_ (by exact (rfl : _ = some (Oper.mk _ _ _ _ _ _))) ?_; (focus (repeat (first | exact List.Sublist.refl _ | exact List.Sublist.slnil | refine List.Sublist.cons_cons _ ?_ | refine List.Sublist.cons _ ?_))); intro K Q hK)
    (repeat (first | ((with_reducible refine is_AL ?_); (first | ((with_reducible refine is_store ?_); (refine At_storeB_1 hF rfl rfl rfl rfl (by simp [Value.one1, epair]) ?_)) | with_reducible refine At_nil ?_)) | ((with_reducible refine is_At ?_); (with_reducible refine At_then_n ?_))))
    refine hK _ _ ?_
    (refine WAt_nil ?_ ?_; (focus (repeat (first | exact List.Sublist.refl _ | exact List.Sublist.slnil | refine List.Sublist.cons_cons _ ?_ | refine List.Sublist.cons _ ?_))))
    (repeat (first | ((with_reducible refine is_AL ?_); (first | ((with_reducible refine is_assign ?_); (refine At_plain hF (by (exact (rfl : _ = some (Value.int _ _)))) ?_)) | with_reducible refine At_nil ?_)) | ((with_reducible refine is_At ?_); (first | with_reducible refine At_ret ?_ | with_reducible refine At_then_n ?_ | with_reducible refine At_go (by assumption) ?_))))
    exact At_ret3 rfl (rv_cellB (by decide) (by exact rfl) 2 rfl rfl) (rv_cellB (by decide) (by exact rfl) 1 rfl rfl) (rv_tmp (by decide)) (fun w' hw' => ⟨_, rfl, [rowR b' c' (N.q.eraseIdx k)], hpp _ _ ⟨_, rfl, .inr ⟨b', c', rfl, rfl⟩⟩, hw'.sub (List.Sublist.cons_cons _ (List.nil_sublist _))⟩)
end Go.Proofs.Ytmilnlcegcdolaa.P
