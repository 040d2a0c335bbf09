/- NetworkAll returns true. -/
import Derived.Test.YtmilnlcegcdolaaSaneW
import Derived.Test.YtmilnlcegcdolaaNetQ
import Derived.Test.YtmilnlcegcdolaaXMergeB
import Derived.Test.YtmilnlcegcdolaaXLoadR
import Derived.Test.YtmilnlcegcdolaaXStr
namespace Go.Proofs.Ytmilnlcegcdolaa.P
open Go.RowKit Go.Proofs.YtmilnlcegcdolaaW.PrintWords
open XW RegInv
attribute [local irreducible] Addr.add
set_option linter.unusedSimpArgs false
set_option linter.unusedVariables false

abbrev nA (b : Nat) (A : Option Addr) (c : Nat) (B : Option Addr) (d : Nat) (q : List PKT) (a : List (Int × Int)) : Res := .obj b (.cells #[.slice A q.length c, .slice B a.length d] 25)
abbrev rA (A : Option Nat) (c : Nat) (q : List PKT) : Res := .row 28 3 encP A c q
/-- where the law is -/
structure AS where
  i : Nat
  A : Option Addr
  c : Nat
  B : Option Addr
  d : Nat
  R : Option Nat
  e : Nat
  q : List PKT
theorem okN_nil : okN [] [] := ⟨by simp, by simp, by simp⟩
theorem dlvQ_nil (q : List PKT) (k : Nat) : dlvQ q [] k = q.getD k zP := if_neg (by simp)
theorem lies_rowP {base w : World} {R : List Res} {A : Option Nat} {c : Nat} {q : List PKT} (hw : Mem base w R) (hm : Res.row 28 3 encP A c q ∈ R) : Lies w (A.map fun b => ⟨b, 0, none⟩) (q.flatMap encP) := by
  have h0 : RowOk 28 3 encP A c q w := hw.ok _ hm
  obtain ⟨_, hlc, hcm, h4⟩ := h0
  cases A with
  | none => rw [h4.1]; exact .inl rfl
  | some b =>
    obtain ⟨junk, hh, _⟩ := h4
    refine .inr ⟨⟨b, 0, none⟩, rfl, fun j u hu => ?_⟩
    rw [XW.add_plain, Nat.zero_add]
    refine cell_of hh ?_
    rw [buf, List.getElem?_toArray, List.getElem?_append_left (List.getElem?_eq_some_iff.1 hu).1]
    exact hu
theorem permA (a b c d e : Res) (T : List Res) : (c :: a :: b :: d :: e :: T).Perm (a :: b :: d :: c :: e :: T) :=
  ((List.Perm.swap a c _).trans ((List.Perm.swap b c _).cons a)).trans (((List.Perm.swap d c _).cons b).cons a)
set_option maxHeartbeats 8000000 in
set_option maxRecDepth 20000 in
theorem netAll_rets (Al : Option Addr) (cl : Nat) (l : List PKT) (Ao : Option Addr) (co : Nat) (o : List Int) (w : World) (hl : Kd.C kP w Al l.length l) (ho : Kd.C (Kd.int .u8) w Ao o.length o) (hw8 : ∀ x ∈ o, 0 ≤ x ∧ x ≤ 255) :
    Rets Try.prog 4 #[.slice Al l.length cl, .slice Ao o.length co] w fun u w' => u = .bool true ∧ Below w.heap.size w w' := by
  have hF := wide_wide
  have hmo := ho.2.1
  refine rets_at (n := 96) Try.func4 rfl Try.ntmps4 (by simp) ?_
  refine At.newNil 28 3 encP encP_len ?_
  (repeat (first | ((with_reducible refine is_AL ?_); (first | ((with_reducible refine is_assign ?_); (refine At_plain hF (by (exact (rfl : _ = some (Value.bool _)))) ?_)) | with_reducible refine At_nil ?_)) | ((with_reducible refine is_At ?_); (first | with_reducible refine At_seq ?_; intro K hK | with_reducible refine At_region ?_ | with_reducible refine At_then_n ?_ | with_reducible refine At_go (by assumption) ?_))))
  refine At_callB hF E9 rfl (vs := #[]) (by simp) (fun w' hw' => sane_rets w') ?_
  (repeat (first | ((with_reducible refine is_AL ?_); (first | ((with_reducible refine is_move ?_); (refine At_plain hF (by (exact (rfl : _ = some (Value.slice _ _ _)))) ?_)) | ((with_reducible refine is_bin ?_); (refine At_plain hF (by (exact (rfl : _ = some (Value.bool _)))) ?_)) | ((with_reducible refine is_un ?_); (refine At_plain hF (by (exact (rfl : _ = some (Value.bool _)))) ?_)) | ((with_reducible refine is_call ?_); (refine At_len hF rfl ?_)) | with_reducible refine At_nil ?_)) | ((with_reducible refine is_At ?_); (first | with_reducible refine At_seq ?_; intro K hK | with_reducible refine At_region ?_ | with_reducible refine At_skip ?_ | with_reducible refine At_then_n ?_ | with_reducible refine At_go (by assumption) ?_ | ((with_reducible refine is_cond ?_); (refine At_cond_f rfl ?_))))))
  by_cases h12 : l.length ≤ 12
  case neg =>
    rw [show decide ((l.length : Int) > 12) = true from decide_eq_true (by omega)]
    (repeat (first | ((with_reducible refine is_AL ?_); (first | ((with_reducible refine is_assign ?_); (refine At_plain hF (by (exact (rfl : _ = some (Value.bool _)))) ?_)) | with_reducible refine At_nil ?_)) | ((with_reducible refine is_At ?_); (first | with_reducible refine At_seq ?_; intro K hK | with_reducible refine At_region ?_ | with_reducible refine At_ret ?_ | with_reducible refine At_then_n ?_ | with_reducible refine At_then_r ?_ | with_reducible refine At_go (by assumption) ?_ | ((with_reducible refine is_cond ?_); (refine At_cond_t rfl ?_))))))
    exact At_ret1 rfl (rv_tmp (by decide)) (fun w' hw' => ⟨_, rfl, rfl, hw'.below⟩)
  rw [show decide ((l.length : Int) > 12) = false from decide_eq_false (by omega)]
  (repeat ((with_reducible refine is_At ?_); (first | with_reducible refine At_seq ?_; intro K hK | with_reducible refine At_region ?_ | with_reducible refine At_skip ?_ | with_reducible refine At_then_n ?_ | with_reducible refine At_go (by assumption) ?_ | ((with_reducible refine is_cond ?_); (refine At_cond_f rfl ?_)))))
  refine At_callB hF E16 rfl (vs := #[]) (by simp) (fun w' hw' => new_rets w') ?_
  rw [show zN.v = .agg #[.slice none 0 0, .slice none 0 0] from rfl]
  ((repeat (first | ((with_reducible refine is_AL ?_); (first | ((with_reducible refine is_assign ?_); (refine At_plain hF (by (first | exact (rfl : _ = some (Value.int _ _)) | exact (rfl : _ = some (Value.slice _ _ _)))) ?_)) | ((with_reducible refine is_store ?_); (refine At_storeB_0 hF rfl rfl rfl rfl (by simp [Value.one1, epair]) ?_)) | with_reducible refine At_nil ?_)) | ((with_reducible refine is_At ?_); (first | with_reducible refine At_seq ?_; intro K hK | with_reducible refine At_block ?_ | with_reducible refine At_region ?_ | with_reducible refine At_then_n ?_ | with_reducible refine At_go (by assumption) ?_)))); ((with_reducible refine is_alloc ?_); (refine At_alloc hF (by (exact (rfl : _ = List.toArray (_ :: _)))) ?_; intro b5)); (repeat (first | ((with_reducible refine is_AL ?_); (first | ((with_reducible refine is_assign ?_); (refine At_plain hF (by (first | exact (rfl : _ = some (Value.int _ _)) | exact (rfl : _ = some (Value.slice _ _ _)))) ?_)) | ((with_reducible refine is_store ?_); (refine At_storeB_0 hF rfl rfl rfl rfl (by simp [Value.one1, epair]) ?_)) | with_reducible refine At_nil ?_)) | ((with_reducible refine is_At ?_); (first | with_reducible refine At_seq ?_; intro K hK | with_reducible refine At_block ?_ | with_reducible refine At_region ?_ | with_reducible refine At_then_n ?_ | with_reducible refine At_go (by assumption) ?_)))))
  refine At_loopT (fun s : AS => [(0, .slice Al l.length cl), (1, .slice Ao o.length co), (5, .pointer (some ⟨b5, 0, none⟩)), (6, .slice (s.R.map fun b => ⟨b, 0, none⟩) s.q.length s.e), (7, .int .i64 s.i)])
    (fun s T => nA b5 s.A s.c s.B s.d s.q [] :: rA s.R s.e s.q :: T) (fun s T => s.i ≤ l.length ∧ s.q.length ≤ s.i ∧ okN s.q [] ∧ Kn w T ⟨s.A, s.c, s.B, s.d, s.q, []⟩) (fun s => l.length - s.i) ⟨0, none, 0, none, 0, none, 0, []⟩ [] ?_ ?_ ⟨Nat.zero_le _, Nat.le_refl _, okN_nil, Kn.z⟩ ?_
  · (repeat (first | exact List.Sublist.refl _ | exact List.Sublist.slnil | refine List.Sublist.cons_cons _ ?_ | refine List.Sublist.cons _ ?_ | exact List.nil_sublist _))
  · (repeat (first | exact True.intro | (refine And.intro ?_ ?_; focus (show _ = (_ : Value); first | exact rfl | (refine Eq.trans (b := Value.int IntKind.i64 _) rfl (congrArg (Value.int IntKind.i64) ?_); omega)))))
  rintro ⟨i, A, c, B, d, R, e, q⟩ T ⟨hi, hqi, hok, hk⟩ K hL ρ0
  simp only at hi hqi hok hk
  try dsimp only
  (repeat (first | ((with_reducible refine is_AL ?_); (first | ((with_reducible refine is_move ?_); (refine At_plain hF (by (first | exact (rfl : _ = some (Value.int _ _)) | exact (rfl : _ = some (Value.slice _ _ _)))) ?_)) | ((with_reducible refine is_bin ?_); (refine At_plain hF (by (exact (rfl : _ = some (Value.bool _)))) ?_)) | ((with_reducible refine is_call ?_); (refine At_len hF rfl ?_)) | with_reducible refine At_nil ?_)) | ((with_reducible refine is_At ?_); (first | with_reducible refine At_seq ?_; intro K hK | with_reducible refine At_region ?_ | with_reducible refine At_then_n ?_ | with_reducible refine At_go (by assumption) ?_))))
  ((with_reducible refine is_cond ?_); (refine At_cond rfl ?_ ?_ <;> (intro hg; try (simp only [decide_eq_true_eq, decide_eq_false_iff_not, beq_iff_eq, bne_iff_ne, beq_eq_false_iff_ne, bne_eq_false_iff_eq, ne_eq, Bool.not_eq_true', Bool.not_eq_false', Bool.not_true, Bool.not_false, Decidable.not_not] at hg); try (exfalso; first | omega | exact hg True.intro))))
  · have hil : i < l.length := by omega
    obtain ⟨ad, hA, hrd, hcell⟩ := CP hl i hil
    generalize l.getD i zP = p at *
    obtain ⟨⟨⟨q', a'⟩, e'⟩, he⟩ : ∃ r, sendF q [] p = r := ⟨_, rfl⟩
    (repeat ((with_reducible refine is_At ?_); (first | with_reducible refine At_seq ?_; intro K hK | with_reducible refine At_block ?_ | with_reducible refine At_skip ?_ | with_reducible refine At_then_n ?_ | with_reducible refine At_go (by assumption) ?_)))
    refine At_mergeU (σ := (Option Addr × Nat × Option Addr × Nat × Nat) × List Res) (fun s => [(0, .slice Al l.length cl), (1, .slice Ao o.length co), (5, .pointer (some ⟨b5, 0, none⟩)), (6, .slice (R.map fun b => ⟨b, 0, none⟩) q.length e), (7, .int .i64 i), (8, .pointer (some ⟨s.1.2.2.2.2, 0, none⟩)), (9, .int .i64 e')])
      (fun s => nA s.1.2.2.2.2 s.1.1 s.1.2.1 s.1.2.2.1 s.1.2.2.2.1 q' a' :: nA b5 A c B d q [] :: rA R e q :: s.2)
      (fun s => T.Sublist s.2 ∧ Kn w s.2 ⟨s.1.1, s.1.2.1, s.1.2.2.1, s.1.2.2.2.1, q', a'⟩) ?_ ?_
    · intro K' hK'
      refine At_drawF hF 11 [0, 1, 2, 3, 4] [] [5, 6, 7, 8, 9, 10] (nA b5 A c B d q [] :: []) (by kernel_rfl) (by decide +kernel) (by decide +kernel) ?_; simp only [List.drop_succ_cons, List.drop_zero]; (repeat ((with_reducible refine is_AQF ?_); first | refine AQF_early (by decide) (by exact (rfl : _ = some (Oper.mk _ _ _ _ _ _))) (by intro K Q hK; (repeat (first | ((with_reducible refine is_move ?_); (refine At_plain hF (by (first | exact (rfl : _ = some (Value.int _ _)) | exact (rfl : _ = some (Value.slice _ _ _)))) ?_)) | ((with_reducible refine is_load ?_); (refine At_loadB hF 0 rfl rfl rfl ?_)) | ((with_reducible refine is_index ?_); (refine At_indexC hF rfl (by assumption) rfl (by omega) ?_)))); exact At_nilK hK) ?_ | refine AQF_late (by decide) (by exact (rfl : _ = some (Oper.mk _ _ _ _ _ _))) (by intro E K Q hK; simp only [List.cons_append, List.nil_append] at hK ⊢; (repeat (first | ((with_reducible refine is_move ?_); (refine At_plain hF (by (first | exact (rfl : _ = some (Value.int _ _)) | exact (rfl : _ = some (Value.slice _ _ _)))) ?_)) | ((with_reducible refine is_load ?_); (refine At_loadB hF 0 rfl rfl rfl ?_)) | ((with_reducible refine is_index ?_); (refine At_indexC hF rfl (by assumption) rfl (by omega) ?_)))); exact At_nilK hK) ?_))
      refine AQF_late (by decide) (by exact (rfl : _ = some (Oper.mk _ _ _ _ _ _))) (by intro E K Q hK; simp only [List.cons_append, List.nil_append] at hK ⊢; refine At_loadCS (vs := [.int .i64 p.f, .int .i64 p.t, .slice p.A p.l p.c]) hF (by exact rfl) (by exact rfl) hcell ?_; exact At_nilK hK) ?_
      refine AQF_doneF ?_
      refine FAt_step (l := [5, 9]) (by (repeat (first | exact List.Sublist.refl _ | exact List.Sublist.slnil | refine List.Sublist.cons_cons _ ?_ | refine List.Sublist.cons _ ?_ | exact List.nil_sublist _))) (by decide +kernel) ?_
      refine AT_all ?_ ?_
      · refine FAt_op (by exact (rfl : _ = some (Oper.mk _ _ _ _ _ _))) ?_
        intro K Q' hK
        (first | refine At_send hF rfl 2 (T := T) rfl ⟨A, c, B, d, q, []⟩ p (arg2 (by (first | exact (rfl : _ = (Value.int _ _)) | exact (rfl : _ = (Value.bool _)) | exact (rfl : _ = (Value.pointer _)) | exact (rfl : _ = (Value.slice _ _ _)) | exact (rfl : _ = (Value.map _)) | exact (rfl : _ = (Value.func _ _ _)) | exact (rfl : _ = (Value.tuple _)) | exact (rfl : _ = (Value.agg _)) | exact (rfl : _ = (Value.string _)) | exact (rfl : _ = (Value.nilFunc)) | exact (rfl : _ = (Value.nilIface)))) (by (first | exact (rfl : _ = (Value.int _ _)) | exact (rfl : _ = (Value.bool _)) | exact (rfl : _ = (Value.pointer _)) | exact (rfl : _ = (Value.slice _ _ _)) | exact (rfl : _ = (Value.map _)) | exact (rfl : _ = (Value.func _ _ _)) | exact (rfl : _ = (Value.tuple _)) | exact (rfl : _ = (Value.agg _)) | exact (rfl : _ = (Value.string _)) | exact (rfl : _ = (Value.nilFunc)) | exact (rfl : _ = (Value.nilIface))))) hk (Kp.of hrd) he ?_ | refine At_send hF rfl 3 (T := T) rfl ⟨A, c, B, d, q, []⟩ p (arg2 (by (first | exact (rfl : _ = (Value.int _ _)) | exact (rfl : _ = (Value.bool _)) | exact (rfl : _ = (Value.pointer _)) | exact (rfl : _ = (Value.slice _ _ _)) | exact (rfl : _ = (Value.map _)) | exact (rfl : _ = (Value.func _ _ _)) | exact (rfl : _ = (Value.tuple _)) | exact (rfl : _ = (Value.agg _)) | exact (rfl : _ = (Value.string _)) | exact (rfl : _ = (Value.nilFunc)) | exact (rfl : _ = (Value.nilIface)))) (by (first | exact (rfl : _ = (Value.int _ _)) | exact (rfl : _ = (Value.bool _)) | exact (rfl : _ = (Value.pointer _)) | exact (rfl : _ = (Value.slice _ _ _)) | exact (rfl : _ = (Value.map _)) | exact (rfl : _ = (Value.func _ _ _)) | exact (rfl : _ = (Value.tuple _)) | exact (rfl : _ = (Value.agg _)) | exact (rfl : _ = (Value.string _)) | exact (rfl : _ = (Value.nilFunc)) | exact (rfl : _ = (Value.nilIface))))) hk (Kp.of hrd) he ?_)
        intro A5 c5 B5 d5 T5 hs5 hk5
        simp only [List.take_succ_cons, List.take_zero, List.cons_append, List.nil_append, retN]
        refine At_nilK (hK _ _ ?_)
        refine FAt_step (l := [6, 9]) (by (repeat (first | exact List.Sublist.refl _ | exact List.Sublist.slnil | refine List.Sublist.cons_cons _ ?_ | refine List.Sublist.cons _ ?_ | exact List.nil_sublist _))) (by decide +kernel) ?_
        refine AT_all ?_ ?_
        · refine FAt_op (by exact (rfl : _ = some (Oper.mk _ _ _ _ _ _))) ?_
          intro K Q' hK
          (repeat ((with_reducible refine is_move ?_); (refine At_plain hF (by (exact (rfl : _ = some (Value.tuple _)))) ?_)))
          refine At_nilK (hK _ _ ?_)
          refine FAt_step (l := [7, 8, 9]) (by (repeat (first | exact List.Sublist.refl _ | exact List.Sublist.slnil | refine List.Sublist.cons_cons _ ?_ | refine List.Sublist.cons _ ?_ | exact List.nil_sublist _))) (by decide +kernel) ?_
          refine AT_all ?_ ?_
          · refine FAt_op (by exact (rfl : _ = some (Oper.mk _ _ _ _ _ _))) ?_
            intro K Q' hK
            (repeat ((with_reducible refine is_extract ?_); (refine At_plain hF (by (exact (rfl : _ = some (Value.agg _)))) ?_)))
            refine At_nilK (hK _ _ ?_)
            refine FAt_step (l := [8, 9]) (by (repeat (first | exact List.Sublist.refl _ | exact List.Sublist.slnil | refine List.Sublist.cons_cons _ ?_ | refine List.Sublist.cons _ ?_ | exact List.nil_sublist _))) (by decide +kernel) ?_
            refine AT_all ?_ ?_
            · refine FAt_op (by exact (rfl : _ = some (Oper.mk _ _ _ _ _ _))) ?_
              intro K Q' hK
              (repeat ((with_reducible refine is_extract ?_); (refine At_plain hF (by (exact (rfl : _ = some (Value.int _ _)))) ?_)))
              refine At_nilK (hK _ _ ?_)
              refine FAt_step (l := [9]) (by (repeat (first | exact List.Sublist.refl _ | exact List.Sublist.slnil | refine List.Sublist.cons_cons _ ?_ | refine List.Sublist.cons _ ?_ | exact List.nil_sublist _))) (by decide +kernel) ?_
              refine AT_all1 ?_
              · refine FAt_op (by exact (rfl : _ = some (Oper.mk _ _ _ _ _ _))) ?_
                intro K Q' hK
                refine At_alloc hF (cs := #[.slice none 0 0, .slice none 0 0]) (by exact rfl) ?_
                intro b8
                refine At_nilK (hK _ _ ?_)
                refine FAt_step (l := [10]) (by (repeat (first | exact List.Sublist.refl _ | exact List.Sublist.slnil | refine List.Sublist.cons_cons _ ?_ | refine List.Sublist.cons _ ?_ | exact List.nil_sublist _))) (by decide +kernel) ?_
                refine AT_all1 ?_
                · refine FAt_op (by exact (rfl : _ = some (Oper.mk _ _ _ _ _ _))) ?_
                  intro K Q' hK
                  (repeat ((with_reducible refine is_store ?_); (refine At_storeB_0 hF rfl rfl rfl rfl (by simp [Value.one1, epair]) ?_)))
                  refine At_nilK (hK _ _ ?_)
                  refine FAt_done (by (repeat (first | exact List.Sublist.refl _ | exact List.Sublist.slnil | refine List.Sublist.cons_cons _ ?_ | refine List.Sublist.cons _ ?_ | exact List.nil_sublist _))) (by decide +kernel) ?_
                  (repeat (first | ((with_reducible refine is_AL ?_); (first | ((with_reducible refine is_assign ?_); (refine At_plain hF (by (exact (rfl : _ = some (Value.int _ _)))) ?_)) | with_reducible refine At_nil ?_)) | ((with_reducible refine is_At ?_); (with_reducible refine At_then_n ?_))))
                  refine At.sub ?_ (hK' ((A5, c5, B5, d5, b8), T5) _ ⟨hs5, hk5⟩ ?_)
                  focus (repeat (first | exact List.Sublist.refl _ | exact List.Sublist.slnil | refine List.Sublist.cons_cons _ ?_ | refine List.Sublist.cons _ ?_ | exact List.nil_sublist _))
                  (repeat (first | exact True.intro | (refine And.intro ?_ ?_; focus (show _ = (_ : Value); first | exact rfl | (refine Eq.trans (b := Value.int IntKind.i64 _) rfl (congrArg (Value.int IntKind.i64) ?_); omega)))))
            refine AT_all1 ?_
            · refine FAt_op (by exact (rfl : _ = some (Oper.mk _ _ _ _ _ _))) ?_
              intro K Q' hK
              refine At_alloc hF (cs := #[.slice none 0 0, .slice none 0 0]) (by exact rfl) ?_
              intro b8
              refine At_nilK (hK _ _ ?_)
              refine FAt_step (l := [8, 10]) (by (repeat (first | exact List.Sublist.refl _ | exact List.Sublist.slnil | refine List.Sublist.cons_cons _ ?_ | refine List.Sublist.cons _ ?_ | exact List.nil_sublist _))) (by decide +kernel) ?_
              refine AT_all ?_ ?_
              · refine FAt_op (by exact (rfl : _ = some (Oper.mk _ _ _ _ _ _))) ?_
                intro K Q' hK
                (repeat ((with_reducible refine is_extract ?_); (refine At_plain hF (by (exact (rfl : _ = some (Value.int _ _)))) ?_)))
                refine At_nilK (hK _ _ ?_)
                refine FAt_step (l := [10]) (by (repeat (first | exact List.Sublist.refl _ | exact List.Sublist.slnil | refine List.Sublist.cons_cons _ ?_ | refine List.Sublist.cons _ ?_ | exact List.nil_sublist _))) (by decide +kernel) ?_
                refine AT_all1 ?_
                · refine FAt_op (by exact (rfl : _ = some (Oper.mk _ _ _ _ _ _))) ?_
                  intro K Q' hK
                  (repeat ((with_reducible refine is_store ?_); (refine At_storeB_0 hF rfl rfl rfl rfl (by simp [Value.one1, epair]) ?_)))
                  refine At_nilK (hK _ _ ?_)
                  refine FAt_done (by (repeat (first | exact List.Sublist.refl _ | exact List.Sublist.slnil | refine List.Sublist.cons_cons _ ?_ | refine List.Sublist.cons _ ?_ | exact List.nil_sublist _))) (by decide +kernel) ?_
                  (repeat (first | ((with_reducible refine is_AL ?_); (first | ((with_reducible refine is_assign ?_); (refine At_plain hF (by (exact (rfl : _ = some (Value.int _ _)))) ?_)) | with_reducible refine At_nil ?_)) | ((with_reducible refine is_At ?_); (with_reducible refine At_then_n ?_))))
                  refine At.sub ?_ (hK' ((A5, c5, B5, d5, b8), T5) _ ⟨hs5, hk5⟩ ?_)
                  focus (repeat (first | exact List.Sublist.refl _ | exact List.Sublist.slnil | refine List.Sublist.cons_cons _ ?_ | refine List.Sublist.cons _ ?_ | exact List.nil_sublist _))
                  (repeat (first | exact True.intro | (refine And.intro ?_ ?_; focus (show _ = (_ : Value); first | exact rfl | (refine Eq.trans (b := Value.int IntKind.i64 _) rfl (congrArg (Value.int IntKind.i64) ?_); omega)))))
              refine AT_all1 ?_
              · refine FAt_op (by exact (rfl : _ = some (Oper.mk _ _ _ _ _ _))) ?_
                intro K Q' hK
                (repeat ((with_reducible refine is_store ?_); (refine At_storeB_0 hF rfl rfl rfl rfl (by simp [Value.one1, epair]) ?_)))
                refine At_nilK (hK _ _ ?_)
                refine FAt_step (l := [8]) (by (repeat (first | exact List.Sublist.refl _ | exact List.Sublist.slnil | refine List.Sublist.cons_cons _ ?_ | refine List.Sublist.cons _ ?_ | exact List.nil_sublist _))) (by decide +kernel) ?_
                refine AT_all1 ?_
                · refine FAt_op (by exact (rfl : _ = some (Oper.mk _ _ _ _ _ _))) ?_
                  intro K Q' hK
                  (repeat ((with_reducible refine is_extract ?_); (refine At_plain hF (by (exact (rfl : _ = some (Value.int _ _)))) ?_)))
                  refine At_nilK (hK _ _ ?_)
                  refine FAt_done (by (repeat (first | exact List.Sublist.refl _ | exact List.Sublist.slnil | refine List.Sublist.cons_cons _ ?_ | refine List.Sublist.cons _ ?_ | exact List.nil_sublist _))) (by decide +kernel) ?_
                  (repeat (first | ((with_reducible refine is_AL ?_); (first | ((with_reducible refine is_assign ?_); (refine At_plain hF (by (exact (rfl : _ = some (Value.int _ _)))) ?_)) | with_reducible refine At_nil ?_)) | ((with_reducible refine is_At ?_); (with_reducible refine At_then_n ?_))))
                  refine At.sub ?_ (hK' ((A5, c5, B5, d5, b8), T5) _ ⟨hs5, hk5⟩ ?_)
                  focus (repeat (first | exact List.Sublist.refl _ | exact List.Sublist.slnil | refine List.Sublist.cons_cons _ ?_ | refine List.Sublist.cons _ ?_ | exact List.nil_sublist _))
                  (repeat (first | exact True.intro | (refine And.intro ?_ ?_; focus (show _ = (_ : Value); first | exact rfl | (refine Eq.trans (b := Value.int IntKind.i64 _) rfl (congrArg (Value.int IntKind.i64) ?_); omega)))))
          refine AT_all ?_ ?_
          · refine FAt_op (by exact (rfl : _ = some (Oper.mk _ _ _ _ _ _))) ?_
            intro K Q' hK
            (repeat ((with_reducible refine is_extract ?_); (refine At_plain hF (by (exact (rfl : _ = some (Value.int _ _)))) ?_)))
            refine At_nilK (hK _ _ ?_)
            refine FAt_step (l := [7, 9]) (by (repeat (first | exact List.Sublist.refl _ | exact List.Sublist.slnil | refine List.Sublist.cons_cons _ ?_ | refine List.Sublist.cons _ ?_ | exact List.nil_sublist _))) (by decide +kernel) ?_
            refine AT_all ?_ ?_
            · refine FAt_op (by exact (rfl : _ = some (Oper.mk _ _ _ _ _ _))) ?_
              intro K Q' hK
              (repeat ((with_reducible refine is_extract ?_); (refine At_plain hF (by (exact (rfl : _ = some (Value.agg _)))) ?_)))
              refine At_nilK (hK _ _ ?_)
              refine FAt_step (l := [9]) (by (repeat (first | exact List.Sublist.refl _ | exact List.Sublist.slnil | refine List.Sublist.cons_cons _ ?_ | refine List.Sublist.cons _ ?_ | exact List.nil_sublist _))) (by decide +kernel) ?_
              refine AT_all1 ?_
              · refine FAt_op (by exact (rfl : _ = some (Oper.mk _ _ _ _ _ _))) ?_
                intro K Q' hK
                refine At_alloc hF (cs := #[.slice none 0 0, .slice none 0 0]) (by exact rfl) ?_
                intro b8
                refine At_nilK (hK _ _ ?_)
                refine FAt_step (l := [10]) (by (repeat (first | exact List.Sublist.refl _ | exact List.Sublist.slnil | refine List.Sublist.cons_cons _ ?_ | refine List.Sublist.cons _ ?_ | exact List.nil_sublist _))) (by decide +kernel) ?_
                refine AT_all1 ?_
                · refine FAt_op (by exact (rfl : _ = some (Oper.mk _ _ _ _ _ _))) ?_
                  intro K Q' hK
                  (repeat ((with_reducible refine is_store ?_); (refine At_storeB_0 hF rfl rfl rfl rfl (by simp [Value.one1, epair]) ?_)))
                  refine At_nilK (hK _ _ ?_)
                  refine FAt_done (by (repeat (first | exact List.Sublist.refl _ | exact List.Sublist.slnil | refine List.Sublist.cons_cons _ ?_ | refine List.Sublist.cons _ ?_ | exact List.nil_sublist _))) (by decide +kernel) ?_
                  (repeat (first | ((with_reducible refine is_AL ?_); (first | ((with_reducible refine is_assign ?_); (refine At_plain hF (by (exact (rfl : _ = some (Value.int _ _)))) ?_)) | with_reducible refine At_nil ?_)) | ((with_reducible refine is_At ?_); (with_reducible refine At_then_n ?_))))
                  refine At.sub ?_ (hK' ((A5, c5, B5, d5, b8), T5) _ ⟨hs5, hk5⟩ ?_)
                  focus (repeat (first | exact List.Sublist.refl _ | exact List.Sublist.slnil | refine List.Sublist.cons_cons _ ?_ | refine List.Sublist.cons _ ?_ | exact List.nil_sublist _))
                  (repeat (first | exact True.intro | (refine And.intro ?_ ?_; focus (show _ = (_ : Value); first | exact rfl | (refine Eq.trans (b := Value.int IntKind.i64 _) rfl (congrArg (Value.int IntKind.i64) ?_); omega)))))
            refine AT_all1 ?_
            · refine FAt_op (by exact (rfl : _ = some (Oper.mk _ _ _ _ _ _))) ?_
              intro K Q' hK
              refine At_alloc hF (cs := #[.slice none 0 0, .slice none 0 0]) (by exact rfl) ?_
              intro b8
              refine At_nilK (hK _ _ ?_)
              refine FAt_step (l := [7]) (by (repeat (first | exact List.Sublist.refl _ | exact List.Sublist.slnil | refine List.Sublist.cons_cons _ ?_ | refine List.Sublist.cons _ ?_ | exact List.nil_sublist _))) (by decide +kernel) ?_
              refine AT_all1 ?_
              · refine FAt_op (by exact (rfl : _ = some (Oper.mk _ _ _ _ _ _))) ?_
                intro K Q' hK
                (repeat ((with_reducible refine is_extract ?_); (refine At_plain hF (by (exact (rfl : _ = some (Value.agg _)))) ?_)))
                refine At_nilK (hK _ _ ?_)
                refine FAt_step (l := [10]) (by (repeat (first | exact List.Sublist.refl _ | exact List.Sublist.slnil | refine List.Sublist.cons_cons _ ?_ | refine List.Sublist.cons _ ?_ | exact List.nil_sublist _))) (by decide +kernel) ?_
                refine AT_all1 ?_
                · refine FAt_op (by exact (rfl : _ = some (Oper.mk _ _ _ _ _ _))) ?_
                  intro K Q' hK
                  (repeat ((with_reducible refine is_store ?_); (refine At_storeB_0 hF rfl rfl rfl rfl (by simp [Value.one1, epair]) ?_)))
                  refine At_nilK (hK _ _ ?_)
                  refine FAt_done (by (repeat (first | exact List.Sublist.refl _ | exact List.Sublist.slnil | refine List.Sublist.cons_cons _ ?_ | refine List.Sublist.cons _ ?_ | exact List.nil_sublist _))) (by decide +kernel) ?_
                  (repeat (first | ((with_reducible refine is_AL ?_); (first | ((with_reducible refine is_assign ?_); (refine At_plain hF (by (exact (rfl : _ = some (Value.int _ _)))) ?_)) | with_reducible refine At_nil ?_)) | ((with_reducible refine is_At ?_); (with_reducible refine At_then_n ?_))))
                  refine At.sub ?_ (hK' ((A5, c5, B5, d5, b8), T5) _ ⟨hs5, hk5⟩ ?_)
                  focus (repeat (first | exact List.Sublist.refl _ | exact List.Sublist.slnil | refine List.Sublist.cons_cons _ ?_ | refine List.Sublist.cons _ ?_ | exact List.nil_sublist _))
                  (repeat (first | exact True.intro | (refine And.intro ?_ ?_; focus (show _ = (_ : Value); first | exact rfl | (refine Eq.trans (b := Value.int IntKind.i64 _) rfl (congrArg (Value.int IntKind.i64) ?_); omega)))))
          refine AT_all1 ?_
          · refine FAt_op (by exact (rfl : _ = some (Oper.mk _ _ _ _ _ _))) ?_
            intro K Q' hK
            refine At_alloc hF (cs := #[.slice none 0 0, .slice none 0 0]) (by exact rfl) ?_
            intro b8
            refine At_nilK (hK _ _ ?_)
            refine FAt_step (l := [7, 8]) (by (repeat (first | exact List.Sublist.refl _ | exact List.Sublist.slnil | refine List.Sublist.cons_cons _ ?_ | refine List.Sublist.cons _ ?_ | exact List.nil_sublist _))) (by decide +kernel) ?_
            refine AT_all ?_ ?_
            · refine FAt_op (by exact (rfl : _ = some (Oper.mk _ _ _ _ _ _))) ?_
              intro K Q' hK
              (repeat ((with_reducible refine is_extract ?_); (refine At_plain hF (by (exact (rfl : _ = some (Value.agg _)))) ?_)))
              refine At_nilK (hK _ _ ?_)
              refine FAt_step (l := [8, 10]) (by (repeat (first | exact List.Sublist.refl _ | exact List.Sublist.slnil | refine List.Sublist.cons_cons _ ?_ | refine List.Sublist.cons _ ?_ | exact List.nil_sublist _))) (by decide +kernel) ?_
              refine AT_all ?_ ?_
              · refine FAt_op (by exact (rfl : _ = some (Oper.mk _ _ _ _ _ _))) ?_
                intro K Q' hK
                (repeat ((with_reducible refine is_extract ?_); (refine At_plain hF (by (exact (rfl : _ = some (Value.int _ _)))) ?_)))
                refine At_nilK (hK _ _ ?_)
                refine FAt_step (l := [10]) (by (repeat (first | exact List.Sublist.refl _ | exact List.Sublist.slnil | refine List.Sublist.cons_cons _ ?_ | refine List.Sublist.cons _ ?_ | exact List.nil_sublist _))) (by decide +kernel) ?_
                refine AT_all1 ?_
                · refine FAt_op (by exact (rfl : _ = some (Oper.mk _ _ _ _ _ _))) ?_
                  intro K Q' hK
                  (repeat ((with_reducible refine is_store ?_); (refine At_storeB_0 hF rfl rfl rfl rfl (by simp [Value.one1, epair]) ?_)))
                  refine At_nilK (hK _ _ ?_)
                  refine FAt_done (by (repeat (first | exact List.Sublist.refl _ | exact List.Sublist.slnil | refine List.Sublist.cons_cons _ ?_ | refine List.Sublist.cons _ ?_ | exact List.nil_sublist _))) (by decide +kernel) ?_
                  (repeat (first | ((with_reducible refine is_AL ?_); (first | ((with_reducible refine is_assign ?_); (refine At_plain hF (by (exact (rfl : _ = some (Value.int _ _)))) ?_)) | with_reducible refine At_nil ?_)) | ((with_reducible refine is_At ?_); (with_reducible refine At_then_n ?_))))
                  refine At.sub ?_ (hK' ((A5, c5, B5, d5, b8), T5) _ ⟨hs5, hk5⟩ ?_)
                  focus (repeat (first | exact List.Sublist.refl _ | exact List.Sublist.slnil | refine List.Sublist.cons_cons _ ?_ | refine List.Sublist.cons _ ?_ | exact List.nil_sublist _))
                  (repeat (first | exact True.intro | (refine And.intro ?_ ?_; focus (show _ = (_ : Value); first | exact rfl | (refine Eq.trans (b := Value.int IntKind.i64 _) rfl (congrArg (Value.int IntKind.i64) ?_); omega)))))
              refine AT_all1 ?_
              · refine FAt_op (by exact (rfl : _ = some (Oper.mk _ _ _ _ _ _))) ?_
                intro K Q' hK
                (repeat ((with_reducible refine is_store ?_); (refine At_storeB_0 hF rfl rfl rfl rfl (by simp [Value.one1, epair]) ?_)))
                refine At_nilK (hK _ _ ?_)
                refine FAt_step (l := [8]) (by (repeat (first | exact List.Sublist.refl _ | exact List.Sublist.slnil | refine List.Sublist.cons_cons _ ?_ | refine List.Sublist.cons _ ?_ | exact List.nil_sublist _))) (by decide +kernel) ?_
                refine AT_all1 ?_
                · refine FAt_op (by exact (rfl : _ = some (Oper.mk _ _ _ _ _ _))) ?_
                  intro K Q' hK
                  (repeat ((with_reducible refine is_extract ?_); (refine At_plain hF (by (exact (rfl : _ = some (Value.int _ _)))) ?_)))
                  refine At_nilK (hK _ _ ?_)
                  refine FAt_done (by (repeat (first | exact List.Sublist.refl _ | exact List.Sublist.slnil | refine List.Sublist.cons_cons _ ?_ | refine List.Sublist.cons _ ?_ | exact List.nil_sublist _))) (by decide +kernel) ?_
                  (repeat (first | ((with_reducible refine is_AL ?_); (first | ((with_reducible refine is_assign ?_); (refine At_plain hF (by (exact (rfl : _ = some (Value.int _ _)))) ?_)) | with_reducible refine At_nil ?_)) | ((with_reducible refine is_At ?_); (with_reducible refine At_then_n ?_))))
                  refine At.sub ?_ (hK' ((A5, c5, B5, d5, b8), T5) _ ⟨hs5, hk5⟩ ?_)
                  focus (repeat (first | exact List.Sublist.refl _ | exact List.Sublist.slnil | refine List.Sublist.cons_cons _ ?_ | refine List.Sublist.cons _ ?_ | exact List.nil_sublist _))
                  (repeat (first | exact True.intro | (refine And.intro ?_ ?_; focus (show _ = (_ : Value); first | exact rfl | (refine Eq.trans (b := Value.int IntKind.i64 _) rfl (congrArg (Value.int IntKind.i64) ?_); omega)))))
            refine AT_all1 ?_
            · refine FAt_op (by exact (rfl : _ = some (Oper.mk _ _ _ _ _ _))) ?_
              intro K Q' hK
              (repeat ((with_reducible refine is_extract ?_); (refine At_plain hF (by (exact (rfl : _ = some (Value.int _ _)))) ?_)))
              refine At_nilK (hK _ _ ?_)
              refine FAt_step (l := [7]) (by (repeat (first | exact List.Sublist.refl _ | exact List.Sublist.slnil | refine List.Sublist.cons_cons _ ?_ | refine List.Sublist.cons _ ?_ | exact List.nil_sublist _))) (by decide +kernel) ?_
              refine AT_all1 ?_
              · refine FAt_op (by exact (rfl : _ = some (Oper.mk _ _ _ _ _ _))) ?_
                intro K Q' hK
                (repeat ((with_reducible refine is_extract ?_); (refine At_plain hF (by (exact (rfl : _ = some (Value.agg _)))) ?_)))
                refine At_nilK (hK _ _ ?_)
                refine FAt_step (l := [10]) (by (repeat (first | exact List.Sublist.refl _ | exact List.Sublist.slnil | refine List.Sublist.cons_cons _ ?_ | refine List.Sublist.cons _ ?_ | exact List.nil_sublist _))) (by decide +kernel) ?_
                refine AT_all1 ?_
                · refine FAt_op (by exact (rfl : _ = some (Oper.mk _ _ _ _ _ _))) ?_
                  intro K Q' hK
                  (repeat ((with_reducible refine is_store ?_); (refine At_storeB_0 hF rfl rfl rfl rfl (by simp [Value.one1, epair]) ?_)))
                  refine At_nilK (hK _ _ ?_)
                  refine FAt_done (by (repeat (first | exact List.Sublist.refl _ | exact List.Sublist.slnil | refine List.Sublist.cons_cons _ ?_ | refine List.Sublist.cons _ ?_ | exact List.nil_sublist _))) (by decide +kernel) ?_
                  (repeat (first | ((with_reducible refine is_AL ?_); (first | ((with_reducible refine is_assign ?_); (refine At_plain hF (by (exact (rfl : _ = some (Value.int _ _)))) ?_)) | with_reducible refine At_nil ?_)) | ((with_reducible refine is_At ?_); (with_reducible refine At_then_n ?_))))
                  refine At.sub ?_ (hK' ((A5, c5, B5, d5, b8), T5) _ ⟨hs5, hk5⟩ ?_)
                  focus (repeat (first | exact List.Sublist.refl _ | exact List.Sublist.slnil | refine List.Sublist.cons_cons _ ?_ | refine List.Sublist.cons _ ?_ | exact List.nil_sublist _))
                  (repeat (first | exact True.intro | (refine And.intro ?_ ?_; focus (show _ = (_ : Value); first | exact rfl | (refine Eq.trans (b := Value.int IntKind.i64 _) rfl (congrArg (Value.int IntKind.i64) ?_); omega)))))
        refine AT_all1 ?_
        · refine FAt_op (by exact (rfl : _ = some (Oper.mk _ _ _ _ _ _))) ?_
          intro K Q' hK
          refine At_alloc hF (cs := #[.slice none 0 0, .slice none 0 0]) (by exact rfl) ?_
          intro b8
          refine At_nilK (hK _ _ ?_)
          refine FAt_step (l := [6]) (by (repeat (first | exact List.Sublist.refl _ | exact List.Sublist.slnil | refine List.Sublist.cons_cons _ ?_ | refine List.Sublist.cons _ ?_ | exact List.nil_sublist _))) (by decide +kernel) ?_
          refine AT_all1 ?_
          · refine FAt_op (by exact (rfl : _ = some (Oper.mk _ _ _ _ _ _))) ?_
            intro K Q' hK
            (repeat ((with_reducible refine is_move ?_); (refine At_plain hF (by (exact (rfl : _ = some (Value.tuple _)))) ?_)))
            refine At_nilK (hK _ _ ?_)
            refine FAt_step (l := [7, 8]) (by (repeat (first | exact List.Sublist.refl _ | exact List.Sublist.slnil | refine List.Sublist.cons_cons _ ?_ | refine List.Sublist.cons _ ?_ | exact List.nil_sublist _))) (by decide +kernel) ?_
            refine AT_all ?_ ?_
            · refine FAt_op (by exact (rfl : _ = some (Oper.mk _ _ _ _ _ _))) ?_
              intro K Q' hK
              (repeat ((with_reducible refine is_extract ?_); (refine At_plain hF (by (exact (rfl : _ = some (Value.agg _)))) ?_)))
              refine At_nilK (hK _ _ ?_)
              refine FAt_step (l := [8, 10]) (by (repeat (first | exact List.Sublist.refl _ | exact List.Sublist.slnil | refine List.Sublist.cons_cons _ ?_ | refine List.Sublist.cons _ ?_ | exact List.nil_sublist _))) (by decide +kernel) ?_
              refine AT_all ?_ ?_
              · refine FAt_op (by exact (rfl : _ = some (Oper.mk _ _ _ _ _ _))) ?_
                intro K Q' hK
                (repeat ((with_reducible refine is_extract ?_); (refine At_plain hF (by (exact (rfl : _ = some (Value.int _ _)))) ?_)))
                refine At_nilK (hK _ _ ?_)
                refine FAt_step (l := [10]) (by (repeat (first | exact List.Sublist.refl _ | exact List.Sublist.slnil | refine List.Sublist.cons_cons _ ?_ | refine List.Sublist.cons _ ?_ | exact List.nil_sublist _))) (by decide +kernel) ?_
                refine AT_all1 ?_
                · refine FAt_op (by exact (rfl : _ = some (Oper.mk _ _ _ _ _ _))) ?_
                  intro K Q' hK
                  (repeat ((with_reducible refine is_store ?_); (refine At_storeB_0 hF rfl rfl rfl rfl (by simp [Value.one1, epair]) ?_)))
                  refine At_nilK (hK _ _ ?_)
                  refine FAt_done (by (repeat (first | exact List.Sublist.refl _ | exact List.Sublist.slnil | refine List.Sublist.cons_cons _ ?_ | refine List.Sublist.cons _ ?_ | exact List.nil_sublist _))) (by decide +kernel) ?_
                  (repeat (first | ((with_reducible refine is_AL ?_); (first | ((with_reducible refine is_assign ?_); (refine At_plain hF (by (exact (rfl : _ = some (Value.int _ _)))) ?_)) | with_reducible refine At_nil ?_)) | ((with_reducible refine is_At ?_); (with_reducible refine At_then_n ?_))))
                  refine At.sub ?_ (hK' ((A5, c5, B5, d5, b8), T5) _ ⟨hs5, hk5⟩ ?_)
                  focus (repeat (first | exact List.Sublist.refl _ | exact List.Sublist.slnil | refine List.Sublist.cons_cons _ ?_ | refine List.Sublist.cons _ ?_ | exact List.nil_sublist _))
                  (repeat (first | exact True.intro | (refine And.intro ?_ ?_; focus (show _ = (_ : Value); first | exact rfl | (refine Eq.trans (b := Value.int IntKind.i64 _) rfl (congrArg (Value.int IntKind.i64) ?_); omega)))))
              refine AT_all1 ?_
              · refine FAt_op (by exact (rfl : _ = some (Oper.mk _ _ _ _ _ _))) ?_
                intro K Q' hK
                (repeat ((with_reducible refine is_store ?_); (refine At_storeB_0 hF rfl rfl rfl rfl (by simp [Value.one1, epair]) ?_)))
                refine At_nilK (hK _ _ ?_)
                refine FAt_step (l := [8]) (by (repeat (first | exact List.Sublist.refl _ | exact List.Sublist.slnil | refine List.Sublist.cons_cons _ ?_ | refine List.Sublist.cons _ ?_ | exact List.nil_sublist _))) (by decide +kernel) ?_
                refine AT_all1 ?_
                · refine FAt_op (by exact (rfl : _ = some (Oper.mk _ _ _ _ _ _))) ?_
                  intro K Q' hK
                  (repeat ((with_reducible refine is_extract ?_); (refine At_plain hF (by (exact (rfl : _ = some (Value.int _ _)))) ?_)))
                  refine At_nilK (hK _ _ ?_)
                  refine FAt_done (by (repeat (first | exact List.Sublist.refl _ | exact List.Sublist.slnil | refine List.Sublist.cons_cons _ ?_ | refine List.Sublist.cons _ ?_ | exact List.nil_sublist _))) (by decide +kernel) ?_
                  (repeat (first | ((with_reducible refine is_AL ?_); (first | ((with_reducible refine is_assign ?_); (refine At_plain hF (by (exact (rfl : _ = some (Value.int _ _)))) ?_)) | with_reducible refine At_nil ?_)) | ((with_reducible refine is_At ?_); (with_reducible refine At_then_n ?_))))
                  refine At.sub ?_ (hK' ((A5, c5, B5, d5, b8), T5) _ ⟨hs5, hk5⟩ ?_)
                  focus (repeat (first | exact List.Sublist.refl _ | exact List.Sublist.slnil | refine List.Sublist.cons_cons _ ?_ | refine List.Sublist.cons _ ?_ | exact List.nil_sublist _))
                  (repeat (first | exact True.intro | (refine And.intro ?_ ?_; focus (show _ = (_ : Value); first | exact rfl | (refine Eq.trans (b := Value.int IntKind.i64 _) rfl (congrArg (Value.int IntKind.i64) ?_); omega)))))
            refine AT_all1 ?_
            · refine FAt_op (by exact (rfl : _ = some (Oper.mk _ _ _ _ _ _))) ?_
              intro K Q' hK
              (repeat ((with_reducible refine is_extract ?_); (refine At_plain hF (by (exact (rfl : _ = some (Value.int _ _)))) ?_)))
              refine At_nilK (hK _ _ ?_)
              refine FAt_step (l := [7]) (by (repeat (first | exact List.Sublist.refl _ | exact List.Sublist.slnil | refine List.Sublist.cons_cons _ ?_ | refine List.Sublist.cons _ ?_ | exact List.nil_sublist _))) (by decide +kernel) ?_
              refine AT_all1 ?_
              · refine FAt_op (by exact (rfl : _ = some (Oper.mk _ _ _ _ _ _))) ?_
                intro K Q' hK
                (repeat ((with_reducible refine is_extract ?_); (refine At_plain hF (by (exact (rfl : _ = some (Value.agg _)))) ?_)))
                refine At_nilK (hK _ _ ?_)
                refine FAt_step (l := [10]) (by (repeat (first | exact List.Sublist.refl _ | exact List.Sublist.slnil | refine List.Sublist.cons_cons _ ?_ | refine List.Sublist.cons _ ?_ | exact List.nil_sublist _))) (by decide +kernel) ?_
                refine AT_all1 ?_
                · refine FAt_op (by exact (rfl : _ = some (Oper.mk _ _ _ _ _ _))) ?_
                  intro K Q' hK
                  (repeat ((with_reducible refine is_store ?_); (refine At_storeB_0 hF rfl rfl rfl rfl (by simp [Value.one1, epair]) ?_)))
                  refine At_nilK (hK _ _ ?_)
                  refine FAt_done (by (repeat (first | exact List.Sublist.refl _ | exact List.Sublist.slnil | refine List.Sublist.cons_cons _ ?_ | refine List.Sublist.cons _ ?_ | exact List.nil_sublist _))) (by decide +kernel) ?_
                  (repeat (first | ((with_reducible refine is_AL ?_); (first | ((with_reducible refine is_assign ?_); (refine At_plain hF (by (exact (rfl : _ = some (Value.int _ _)))) ?_)) | with_reducible refine At_nil ?_)) | ((with_reducible refine is_At ?_); (with_reducible refine At_then_n ?_))))
                  refine At.sub ?_ (hK' ((A5, c5, B5, d5, b8), T5) _ ⟨hs5, hk5⟩ ?_)
                  focus (repeat (first | exact List.Sublist.refl _ | exact List.Sublist.slnil | refine List.Sublist.cons_cons _ ?_ | refine List.Sublist.cons _ ?_ | exact List.nil_sublist _))
                  (repeat (first | exact True.intro | (refine And.intro ?_ ?_; focus (show _ = (_ : Value); first | exact rfl | (refine Eq.trans (b := Value.int IntKind.i64 _) rfl (congrArg (Value.int IntKind.i64) ?_); omega)))))
      refine AT_all1 ?_
      · refine FAt_op (by exact (rfl : _ = some (Oper.mk _ _ _ _ _ _))) ?_
        intro K Q' hK
        refine At_alloc hF (cs := #[.slice none 0 0, .slice none 0 0]) (by exact rfl) ?_
        intro b8
        refine At_nilK (hK _ _ ?_)
        refine FAt_step (l := [5]) (by (repeat (first | exact List.Sublist.refl _ | exact List.Sublist.slnil | refine List.Sublist.cons_cons _ ?_ | refine List.Sublist.cons _ ?_ | exact List.nil_sublist _))) (by decide +kernel) ?_
        refine AT_all1 ?_
        · refine FAt_op (by exact (rfl : _ = some (Oper.mk _ _ _ _ _ _))) ?_
          intro K Q' hK
          (first | refine At_send hF rfl 2 (T := T) rfl ⟨A, c, B, d, q, []⟩ p (arg2 (by (first | exact (rfl : _ = (Value.int _ _)) | exact (rfl : _ = (Value.bool _)) | exact (rfl : _ = (Value.pointer _)) | exact (rfl : _ = (Value.slice _ _ _)) | exact (rfl : _ = (Value.map _)) | exact (rfl : _ = (Value.func _ _ _)) | exact (rfl : _ = (Value.tuple _)) | exact (rfl : _ = (Value.agg _)) | exact (rfl : _ = (Value.string _)) | exact (rfl : _ = (Value.nilFunc)) | exact (rfl : _ = (Value.nilIface)))) (by (first | exact (rfl : _ = (Value.int _ _)) | exact (rfl : _ = (Value.bool _)) | exact (rfl : _ = (Value.pointer _)) | exact (rfl : _ = (Value.slice _ _ _)) | exact (rfl : _ = (Value.map _)) | exact (rfl : _ = (Value.func _ _ _)) | exact (rfl : _ = (Value.tuple _)) | exact (rfl : _ = (Value.agg _)) | exact (rfl : _ = (Value.string _)) | exact (rfl : _ = (Value.nilFunc)) | exact (rfl : _ = (Value.nilIface))))) hk (Kp.of hrd) he ?_ | refine At_send hF rfl 3 (T := T) rfl ⟨A, c, B, d, q, []⟩ p (arg2 (by (first | exact (rfl : _ = (Value.int _ _)) | exact (rfl : _ = (Value.bool _)) | exact (rfl : _ = (Value.pointer _)) | exact (rfl : _ = (Value.slice _ _ _)) | exact (rfl : _ = (Value.map _)) | exact (rfl : _ = (Value.func _ _ _)) | exact (rfl : _ = (Value.tuple _)) | exact (rfl : _ = (Value.agg _)) | exact (rfl : _ = (Value.string _)) | exact (rfl : _ = (Value.nilFunc)) | exact (rfl : _ = (Value.nilIface)))) (by (first | exact (rfl : _ = (Value.int _ _)) | exact (rfl : _ = (Value.bool _)) | exact (rfl : _ = (Value.pointer _)) | exact (rfl : _ = (Value.slice _ _ _)) | exact (rfl : _ = (Value.map _)) | exact (rfl : _ = (Value.func _ _ _)) | exact (rfl : _ = (Value.tuple _)) | exact (rfl : _ = (Value.agg _)) | exact (rfl : _ = (Value.string _)) | exact (rfl : _ = (Value.nilFunc)) | exact (rfl : _ = (Value.nilIface))))) hk (Kp.of hrd) he ?_)
          intro A5 c5 B5 d5 T5 hs5 hk5
          simp only [List.take_succ_cons, List.take_zero, List.cons_append, List.nil_append, retN]
          refine At_nilK (hK _ _ ?_)
          refine FAt_step (l := [6]) (by (repeat (first | exact List.Sublist.refl _ | exact List.Sublist.slnil | refine List.Sublist.cons_cons _ ?_ | refine List.Sublist.cons _ ?_ | exact List.nil_sublist _))) (by decide +kernel) ?_
          refine AT_all1 ?_
          · refine FAt_op (by exact (rfl : _ = some (Oper.mk _ _ _ _ _ _))) ?_
            intro K Q' hK
            (repeat ((with_reducible refine is_move ?_); (refine At_plain hF (by (exact (rfl : _ = some (Value.tuple _)))) ?_)))
            refine At_nilK (hK _ _ ?_)
            refine FAt_step (l := [7, 8]) (by (repeat (first | exact List.Sublist.refl _ | exact List.Sublist.slnil | refine List.Sublist.cons_cons _ ?_ | refine List.Sublist.cons _ ?_ | exact List.nil_sublist _))) (by decide +kernel) ?_
            refine AT_all ?_ ?_
            · refine FAt_op (by exact (rfl : _ = some (Oper.mk _ _ _ _ _ _))) ?_
              intro K Q' hK
              (repeat ((with_reducible refine is_extract ?_); (refine At_plain hF (by (exact (rfl : _ = some (Value.agg _)))) ?_)))
              refine At_nilK (hK _ _ ?_)
              refine FAt_step (l := [8, 10]) (by (repeat (first | exact List.Sublist.refl _ | exact List.Sublist.slnil | refine List.Sublist.cons_cons _ ?_ | refine List.Sublist.cons _ ?_ | exact List.nil_sublist _))) (by decide +kernel) ?_
              refine AT_all ?_ ?_
              · refine FAt_op (by exact (rfl : _ = some (Oper.mk _ _ _ _ _ _))) ?_
                intro K Q' hK
                (repeat ((with_reducible refine is_extract ?_); (refine At_plain hF (by (exact (rfl : _ = some (Value.int _ _)))) ?_)))
                refine At_nilK (hK _ _ ?_)
                refine FAt_step (l := [10]) (by (repeat (first | exact List.Sublist.refl _ | exact List.Sublist.slnil | refine List.Sublist.cons_cons _ ?_ | refine List.Sublist.cons _ ?_ | exact List.nil_sublist _))) (by decide +kernel) ?_
                refine AT_all1 ?_
                · refine FAt_op (by exact (rfl : _ = some (Oper.mk _ _ _ _ _ _))) ?_
                  intro K Q' hK
                  (repeat ((with_reducible refine is_store ?_); (refine At_storeB_0 hF rfl rfl rfl rfl (by simp [Value.one1, epair]) ?_)))
                  refine At_nilK (hK _ _ ?_)
                  refine FAt_done (by (repeat (first | exact List.Sublist.refl _ | exact List.Sublist.slnil | refine List.Sublist.cons_cons _ ?_ | refine List.Sublist.cons _ ?_ | exact List.nil_sublist _))) (by decide +kernel) ?_
                  (repeat (first | ((with_reducible refine is_AL ?_); (first | ((with_reducible refine is_assign ?_); (refine At_plain hF (by (exact (rfl : _ = some (Value.int _ _)))) ?_)) | with_reducible refine At_nil ?_)) | ((with_reducible refine is_At ?_); (with_reducible refine At_then_n ?_))))
                  refine At.sub ?_ (hK' ((A5, c5, B5, d5, b8), T5) _ ⟨hs5, hk5⟩ ?_)
                  focus (repeat (first | exact List.Sublist.refl _ | exact List.Sublist.slnil | refine List.Sublist.cons_cons _ ?_ | refine List.Sublist.cons _ ?_ | exact List.nil_sublist _))
                  (repeat (first | exact True.intro | (refine And.intro ?_ ?_; focus (show _ = (_ : Value); first | exact rfl | (refine Eq.trans (b := Value.int IntKind.i64 _) rfl (congrArg (Value.int IntKind.i64) ?_); omega)))))
              refine AT_all1 ?_
              · refine FAt_op (by exact (rfl : _ = some (Oper.mk _ _ _ _ _ _))) ?_
                intro K Q' hK
                (repeat ((with_reducible refine is_store ?_); (refine At_storeB_0 hF rfl rfl rfl rfl (by simp [Value.one1, epair]) ?_)))
                refine At_nilK (hK _ _ ?_)
                refine FAt_step (l := [8]) (by (repeat (first | exact List.Sublist.refl _ | exact List.Sublist.slnil | refine List.Sublist.cons_cons _ ?_ | refine List.Sublist.cons _ ?_ | exact List.nil_sublist _))) (by decide +kernel) ?_
                refine AT_all1 ?_
                · refine FAt_op (by exact (rfl : _ = some (Oper.mk _ _ _ _ _ _))) ?_
                  intro K Q' hK
                  (repeat ((with_reducible refine is_extract ?_); (refine At_plain hF (by (exact (rfl : _ = some (Value.int _ _)))) ?_)))
                  refine At_nilK (hK _ _ ?_)
                  refine FAt_done (by (repeat (first | exact List.Sublist.refl _ | exact List.Sublist.slnil | refine List.Sublist.cons_cons _ ?_ | refine List.Sublist.cons _ ?_ | exact List.nil_sublist _))) (by decide +kernel) ?_
                  (repeat (first | ((with_reducible refine is_AL ?_); (first | ((with_reducible refine is_assign ?_); (refine At_plain hF (by (exact (rfl : _ = some (Value.int _ _)))) ?_)) | with_reducible refine At_nil ?_)) | ((with_reducible refine is_At ?_); (with_reducible refine At_then_n ?_))))
                  refine At.sub ?_ (hK' ((A5, c5, B5, d5, b8), T5) _ ⟨hs5, hk5⟩ ?_)
                  focus (repeat (first | exact List.Sublist.refl _ | exact List.Sublist.slnil | refine List.Sublist.cons_cons _ ?_ | refine List.Sublist.cons _ ?_ | exact List.nil_sublist _))
                  (repeat (first | exact True.intro | (refine And.intro ?_ ?_; focus (show _ = (_ : Value); first | exact rfl | (refine Eq.trans (b := Value.int IntKind.i64 _) rfl (congrArg (Value.int IntKind.i64) ?_); omega)))))
            refine AT_all1 ?_
            · refine FAt_op (by exact (rfl : _ = some (Oper.mk _ _ _ _ _ _))) ?_
              intro K Q' hK
              (repeat ((with_reducible refine is_extract ?_); (refine At_plain hF (by (exact (rfl : _ = some (Value.int _ _)))) ?_)))
              refine At_nilK (hK _ _ ?_)
              refine FAt_step (l := [7]) (by (repeat (first | exact List.Sublist.refl _ | exact List.Sublist.slnil | refine List.Sublist.cons_cons _ ?_ | refine List.Sublist.cons _ ?_ | exact List.nil_sublist _))) (by decide +kernel) ?_
              refine AT_all1 ?_
              · refine FAt_op (by exact (rfl : _ = some (Oper.mk _ _ _ _ _ _))) ?_
                intro K Q' hK
                (repeat ((with_reducible refine is_extract ?_); (refine At_plain hF (by (exact (rfl : _ = some (Value.agg _)))) ?_)))
                refine At_nilK (hK _ _ ?_)
                refine FAt_step (l := [10]) (by (repeat (first | exact List.Sublist.refl _ | exact List.Sublist.slnil | refine List.Sublist.cons_cons _ ?_ | refine List.Sublist.cons _ ?_ | exact List.nil_sublist _))) (by decide +kernel) ?_
                refine AT_all1 ?_
                · refine FAt_op (by exact (rfl : _ = some (Oper.mk _ _ _ _ _ _))) ?_
                  intro K Q' hK
                  (repeat ((with_reducible refine is_store ?_); (refine At_storeB_0 hF rfl rfl rfl rfl (by simp [Value.one1, epair]) ?_)))
                  refine At_nilK (hK _ _ ?_)
                  refine FAt_done (by (repeat (first | exact List.Sublist.refl _ | exact List.Sublist.slnil | refine List.Sublist.cons_cons _ ?_ | refine List.Sublist.cons _ ?_ | exact List.nil_sublist _))) (by decide +kernel) ?_
                  (repeat (first | ((with_reducible refine is_AL ?_); (first | ((with_reducible refine is_assign ?_); (refine At_plain hF (by (exact (rfl : _ = some (Value.int _ _)))) ?_)) | with_reducible refine At_nil ?_)) | ((with_reducible refine is_At ?_); (with_reducible refine At_then_n ?_))))
                  refine At.sub ?_ (hK' ((A5, c5, B5, d5, b8), T5) _ ⟨hs5, hk5⟩ ?_)
                  focus (repeat (first | exact List.Sublist.refl _ | exact List.Sublist.slnil | refine List.Sublist.cons_cons _ ?_ | refine List.Sublist.cons _ ?_ | exact List.nil_sublist _))
                  (repeat (first | exact True.intro | (refine And.intro ?_ ?_; focus (show _ = (_ : Value); first | exact rfl | (refine Eq.trans (b := Value.int IntKind.i64 _) rfl (congrArg (Value.int IntKind.i64) ?_); omega)))))
    rintro ⟨⟨A5, c5, B5, d5, b8⟩, T5⟩ ρ1 ⟨hs5, hk5⟩
    dsimp only at hs5 hk5 ⊢
    refine At_go (by assumption) ?_
    by_cases hp : okP p
    · rw [snd_ok hok hp (by omega)] at he
      simp only [Prod.mk.injEq] at he
      obtain ⟨⟨rfl, rfl⟩, rfl⟩ := he
      (repeat (first | ((with_reducible refine is_AL ?_); (first | ((with_reducible refine is_move ?_); (refine At_plain hF (by (first | exact (rfl : _ = some (Value.int _ _)) | exact (rfl : _ = some (Value.slice _ _ _)))) ?_)) | ((with_reducible refine is_bin ?_); (refine At_plain hF (by (exact (rfl : _ = some (Value.bool _)))) ?_)) | ((with_reducible refine is_load ?_); (refine At_loadB hF 0 rfl rfl rfl ?_)) | ((with_reducible refine is_index ?_); (refine At_indexC hF rfl (by assumption) rfl (by omega) ?_)) | ((with_reducible refine is_store ?_); (refine At_storeB_1 hF rfl rfl rfl rfl (by simp [Value.one1, epair]) ?_)) | with_reducible refine At_nil ?_)) | ((with_reducible refine is_At ?_); (first | with_reducible refine At_seq ?_; intro K hK | with_reducible refine At_region ?_ | with_reducible refine At_then_n ?_ | with_reducible refine At_go (by assumption) ?_ | ((with_reducible refine is_cond ?_); (refine At_cond_t rfl ?_))))))
      refine At_loadCS (vs := [.int .i64 p.f, .int .i64 p.t, .slice p.A p.l p.c]) hF (by exact rfl) (by exact rfl) hcell ?_
      refine At_sliceA_1 hF (by decide) rfl rfl ?_
      intro bs
      refine At_append_3 hF 0 rfl rfl rfl rfl (x0 := p) rfl (by decide) (by simp [Value.one1]) (by simp only [TS.bytes]; omega) (by omega) ?_
      intro R2 e2
      rw [show q.length + 1 = (q ++ [p]).length by simp]
      (repeat (first | ((with_reducible refine is_AL ?_); (first | ((with_reducible refine is_move ?_); (refine At_plain hF (by (exact (rfl : _ = some (Value.int _ _)))) ?_)) | ((with_reducible refine is_bin ?_); ((with_reducible refine is_badd ?_); (refine At_add hF rfl rfl (by omega) ?_))) | ((with_reducible refine is_assign ?_); (refine At_plain hF (by (first | exact (rfl : _ = some (Value.int _ _)) | exact (rfl : _ = some (Value.slice _ _ _)))) ?_)) | with_reducible refine At_nil ?_)) | ((with_reducible refine is_At ?_); (first | with_reducible refine At_region ?_ | with_reducible refine At_then_n ?_ | with_reducible refine At_inb_n ?_ | with_reducible refine At_go (by assumption) ?_))))
      refine At.sub ?_ (hL ⟨i + 1, A5, c5, B5, d5, R2, e2, q ++ [p]⟩ T5 _ ⟨hil, by simp only [List.length_append, List.length_singleton]; omega, okN_snoc hok hp (by omega), hk5⟩ (by simp only; omega) ?_)
      · (repeat (first | exact List.Sublist.refl _ | exact List.Sublist.slnil | refine List.Sublist.cons_cons _ ?_ | refine List.Sublist.cons _ ?_ | exact List.nil_sublist _))
      · (repeat (first | exact True.intro | (refine And.intro ?_ ?_; focus (show _ = (_ : Value); first | exact rfl | (refine Eq.trans (b := Value.int IntKind.i64 _) rfl (congrArg (Value.int IntKind.i64) ?_); omega)))))
    · rw [show sendF q [] p = (([], []), 60) from if_pos (.inr hp)] at he
      simp only [Prod.mk.injEq] at he
      obtain ⟨⟨rfl, rfl⟩, rfl⟩ := he
      (repeat (first | ((with_reducible refine is_AL ?_); (first | ((with_reducible refine is_move ?_); (refine At_plain hF (by (exact (rfl : _ = some (Value.int _ _)))) ?_)) | ((with_reducible refine is_bin ?_); (first | ((with_reducible refine is_badd ?_); (refine At_add hF rfl rfl (by omega) ?_)) | refine At_plain hF (by (exact (rfl : _ = some (Value.bool _)))) ?_)) | ((with_reducible refine is_assign ?_); (refine At_plain hF (by (exact (rfl : _ = some (Value.int _ _)))) ?_)) | with_reducible refine At_nil ?_)) | ((with_reducible refine is_At ?_); (first | with_reducible refine At_seq ?_; intro K hK | with_reducible refine At_region ?_ | with_reducible refine At_skip ?_ | with_reducible refine At_then_n ?_ | with_reducible refine At_inb_n ?_ | with_reducible refine At_go (by assumption) ?_ | ((with_reducible refine is_cond ?_); (refine At_cond_f rfl ?_))))))
      refine At.sub ?_ (hL ⟨i + 1, A, c, B, d, R, e, q⟩ T5 _ ⟨hil, by simp only; omega, hok, hk.mono hs5⟩ (by simp only; omega) ?_)
      · exact .cons _ (.cons_cons _ (.cons_cons _ (List.Sublist.refl _)))
      · (repeat (first | exact True.intro | (refine And.intro ?_ ?_; focus (show _ = (_ : Value); first | exact rfl | (refine Eq.trans (b := Value.int IntKind.i64 _) rfl (congrArg (Value.int IntKind.i64) ?_); omega)))))
  (repeat (first | ((with_reducible refine is_AL ?_); (first | ((with_reducible refine is_assign ?_); (refine At_plain hF (by (exact (rfl : _ = some (Value.int _ _)))) ?_)) | with_reducible refine At_nil ?_)) | ((with_reducible refine is_At ?_); (first | with_reducible refine At_seq ?_; intro K hK | with_reducible refine At_block ?_ | with_reducible refine At_region ?_ | with_reducible refine At_exit ?_ | with_reducible refine At_then_n ?_ | with_reducible refine At_then_e ?_ | with_reducible refine At_inb_e rfl ?_ | with_reducible refine At_go (by assumption) ?_))))
  refine At_loopT (fun s : AS => [(1, .slice Ao o.length co), (5, .pointer (some ⟨b5, 0, none⟩)), (6, .slice (s.R.map fun b => ⟨b, 0, none⟩) s.q.length s.e), (10, .int .i64 s.i)])
    (fun s T => nA b5 s.A s.c s.B s.d s.q [] :: rA s.R s.e s.q :: T) (fun s T => s.i + s.q.length ≤ 12 ∧ okN s.q [] ∧ Kn w T ⟨s.A, s.c, s.B, s.d, s.q, []⟩) (fun s => s.q.length) ⟨0, A, c, B, d, R, e, q⟩ T ?_ ?_ ⟨by simp only; omega, hok, hk⟩ ?_
  · (repeat (first | exact List.Sublist.refl _ | exact List.Sublist.slnil | refine List.Sublist.cons_cons _ ?_ | refine List.Sublist.cons _ ?_ | exact List.nil_sublist _))
  · (repeat (first | exact True.intro | (refine And.intro ?_ ?_; focus (show _ = (_ : Value); first | exact rfl | (refine Eq.trans (b := Value.int IntKind.i64 _) rfl (congrArg (Value.int IntKind.i64) ?_); omega)))))
  clear hL hk hok hqi hi hg
  rintro ⟨i, A, c, B, d, R, e, q⟩ T ⟨hi, hok, hk⟩ K hL ρ2
  simp only at hi hok hk
  try dsimp only
  by_cases hq0 : 0 < q.length
  case neg =>
    (repeat (first | ((with_reducible refine is_AL ?_); (first | ((with_reducible refine is_move ?_); (refine At_plain hF (by (exact (rfl : _ = some (Value.slice _ _ _)))) ?_)) | ((with_reducible refine is_bin ?_); (refine At_plain hF (by (exact (rfl : _ = some (Value.bool _)))) ?_)) | ((with_reducible refine is_call ?_); (refine At_len hF rfl ?_)) | with_reducible refine At_nil ?_)) | ((with_reducible refine is_At ?_); (first | with_reducible refine At_seq ?_; intro K hK | with_reducible refine At_region ?_ | with_reducible refine At_then_n ?_ | with_reducible refine At_go (by assumption) ?_))))
    rw [show decide ((q.length : Int) > 0) = false from decide_eq_false (by omega)]
    (repeat (first | ((with_reducible refine is_AL ?_); (first | ((with_reducible refine is_bin ?_); (refine At_plain hF (by (exact (rfl : _ = some (Value.bool _)))) ?_)) | ((with_reducible refine is_assign ?_); (refine At_plain hF (by (exact (rfl : _ = some (Value.bool _)))) ?_)) | ((with_reducible refine is_call ?_); (refine At_len hF rfl ?_)) | ((with_reducible refine is_field ?_); (refine At_field hF rfl ?_)) | ((with_reducible refine is_load ?_); (refine At_load hF 0 (by exact rfl) rfl (by (exact (rfl : _ = some (Value.slice _ _ _)))) ?_)) | with_reducible refine At_nil ?_)) | ((with_reducible refine is_At ?_); (first | with_reducible refine At_seq ?_; intro K hK | with_reducible refine At_region ?_ | with_reducible refine At_ret ?_ | with_reducible refine At_exit ?_ | with_reducible refine At_then_n ?_ | with_reducible refine At_then_e ?_ | with_reducible refine At_inb_e rfl ?_ | with_reducible refine At_go (by assumption) ?_ | ((with_reducible refine is_cond ?_); (refine At_cond_f rfl ?_))))))
    exact At_ret1 rfl (rv_tmp (by decide)) (fun w' hw' => ⟨_, rfl, congrArg Value.bool (beq_iff_eq.2 (by omega)), hw'.below⟩)
  refine At_rowSome 1 rfl hq0 ?_
  rintro br rfl
  refine At.wit fun w1 hw1 => ?_
  have hqe : q.length ≤ e := (show RowOk 28 3 encP (some br) e q w1 from hw1.ok _ (List.mem_of_getElem? (i := 1) rfl)).2.1
  clear hw1
  (repeat (first | ((with_reducible refine is_AL ?_); (first | ((with_reducible refine is_move ?_); (refine At_plain hF (by (exact (rfl : _ = some (Value.slice _ _ _)))) ?_)) | ((with_reducible refine is_bin ?_); (refine At_plain hF (by (exact (rfl : _ = some (Value.bool _)))) ?_)) | ((with_reducible refine is_call ?_); (refine At_len hF rfl ?_)) | with_reducible refine At_nil ?_)) | ((with_reducible refine is_At ?_); (first | with_reducible refine At_seq ?_; intro K hK | with_reducible refine At_region ?_ | with_reducible refine At_then_n ?_ | with_reducible refine At_go (by assumption) ?_))))
  rw [show decide ((q.length : Int) > 0) = true from decide_eq_true (by omega)]
  (repeat (first | ((with_reducible refine is_AL ?_); (first | ((with_reducible refine is_move ?_); (refine At_plain hF (by (first | exact (rfl : _ = some (Value.int _ _)) | exact (rfl : _ = some (Value.slice _ _ _)))) ?_)) | ((with_reducible refine is_bin ?_); (refine At_plain hF (by (exact (rfl : _ = some (Value.bool _)))) ?_)) | ((with_reducible refine is_assign ?_); (refine At_plain hF (by (exact (rfl : _ = some (Value.int _ _)))) ?_)) | ((with_reducible refine is_call ?_); (refine At_len hF rfl ?_)) | with_reducible refine At_nil ?_)) | ((with_reducible refine is_At ?_); (first | with_reducible refine At_seq ?_; intro K hK | with_reducible refine At_block ?_ | with_reducible refine At_region ?_ | with_reducible refine At_skip ?_ | with_reducible refine At_then_n ?_ | with_reducible refine At_go (by assumption) ?_ | ((with_reducible refine is_cond ?_); (refine At_cond_t rfl ?_))))))
  refine At_mergeU (σ := Nat) (fun k => [(1, .slice Ao o.length co), (5, .pointer (some ⟨b5, 0, none⟩)), (6, .slice (some ⟨br, 0, none⟩) q.length e), (10, .int .i64 i), (11, .int .i64 k)]) (fun k => nA b5 A c B d q [] :: rA (some br) e q :: T) (fun k => k < q.length) ?_ ?_
  · intro K' hK'
    by_cases hio : i < o.length
    · rw [show decide ((i : Int) < o.length) = true from decide_eq_true (by omega)]
      obtain ⟨ado, hAo, _, hco⟩ := C_flat (d := Kd.int .u8) (enc := fun x : Int => [.int .u8 x]) (fun h => h) ho 0 i hio
      have hz := hw8 _ (getD_mem' (d := 0) hio)
      have hcell := hco 0 _ rfl
      rw [addr_add_add, show (Kd.int IntKind.u8).sz = 1 from rfl, Nat.mul_one, Nat.add_zero] at hcell
      clear hco
      generalize o.getD i 0 = z at *
      obtain ⟨k, hk1, hk2⟩ : ∃ k : Nat, z % (q.length : Int) = k ∧ k < q.length := by
        have h1 := Int.emod_nonneg z (show (q.length : Int) ≠ 0 by omega)
        have h2 := Int.emod_lt_of_pos z (show (0 : Int) < q.length by omega)
        exact ⟨(z % q.length).toNat, by omega, by omega⟩
      (repeat (first | ((with_reducible refine is_AL ?_); (first | ((with_reducible refine is_move ?_); (refine At_plain hF (by (first | exact (rfl : _ = some (Value.int _ _)) | exact (rfl : _ = some (Value.slice _ _ _)))) ?_)) | ((with_reducible refine is_index ?_); (refine At_indexC1 hF rfl (by assumption) rfl rfl (by omega) ?_)))) | ((with_reducible refine is_At ?_); (first | with_reducible refine At_region ?_ | ((with_reducible refine is_cond ?_); (refine At_cond_t rfl ?_))))))
      refine At_loadC hF (by exact rfl) (by exact hcell) ?_
      refine At_conv hF Try.underlying5 Try.underlying3 (by exact rfl) ?_
      rw [show IntKind.i64.wrap z = z by rw [IntKind.wrap_i64]; omega]
      have hz0 := hz.1
      (repeat (first | ((with_reducible refine is_AL ?_); (first | ((with_reducible refine is_move ?_); (refine At_plain hF (by (exact (rfl : _ = some (Value.slice _ _ _)))) ?_)) | ((with_reducible refine is_bin ?_); ((with_reducible refine is_brem ?_); (refine At_rem hF rfl rfl (by omega) ?_))) | ((with_reducible refine is_assign ?_); (refine At_plain hF (by (exact (rfl : _ = some (Value.int _ _)))) ?_)) | ((with_reducible refine is_call ?_); (refine At_len hF rfl ?_)) | with_reducible refine At_nil ?_)) | ((with_reducible refine is_At ?_); (with_reducible refine At_then_n ?_))))
      rw [hk1]
      refine At.sub ?_ (hK' k _ hk2 ?_)
      · (repeat (first | exact List.Sublist.refl _ | exact List.Sublist.slnil | refine List.Sublist.cons_cons _ ?_ | refine List.Sublist.cons _ ?_ | exact List.nil_sublist _))
      · (repeat (first | exact True.intro | (refine And.intro ?_ ?_; focus (show _ = (_ : Value); first | exact rfl | (refine Eq.trans (b := Value.int IntKind.i64 _) rfl (congrArg (Value.int IntKind.i64) ?_); omega)))))
    · rw [show decide ((i : Int) < o.length) = false from decide_eq_false (by omega)]
      (repeat ((with_reducible refine is_At ?_); (first | with_reducible refine At_skip ?_ | with_reducible refine At_then_n ?_ | ((with_reducible refine is_cond ?_); (refine At_cond_f rfl ?_)))))
      refine At.sub ?_ (hK' 0 _ hq0 ?_)
      · (repeat (first | exact List.Sublist.refl _ | exact List.Sublist.slnil | refine List.Sublist.cons_cons _ ?_ | refine List.Sublist.cons _ ?_ | exact List.nil_sublist _))
      · (repeat (first | exact True.intro | (refine And.intro ?_ ?_; focus (show _ = (_ : Value); first | exact rfl | (refine Eq.trans (b := Value.int IntKind.i64 _) rfl (congrArg (Value.int IntKind.i64) ?_); omega)))))
  intro k ρ3 hkl
  try dsimp only
  refine At_go (by assumption) ?_
  have hrd := hk.rd _ (getD_mem' (d := zP) hkl)
  have hdel := del_ok hok hkl
  rw [dlvQ_nil] at hdel
  have hpr : ∀ w', Mem w w' T → (q.getD k zP).rd w' := hrd
  generalize hp : q.getD k zP = p at *
  (repeat (first | ((with_reducible refine is_AL ?_); (first | ((with_reducible refine is_move ?_); (refine At_plain hF (by (exact (rfl : _ = some (Value.int _ _)))) ?_)) | ((with_reducible refine is_load ?_); (refine At_loadB hF 0 rfl rfl rfl ?_)))) | ((with_reducible refine is_At ?_); (first | with_reducible refine At_seq ?_; intro K hK | with_reducible refine At_region ?_))))
  refine At_deliver hF rfl 2 (T := T) rfl ⟨A, c, B, d, q, []⟩ k (arg2 (by (first | exact (rfl : _ = (Value.int _ _)) | exact (rfl : _ = (Value.bool _)) | exact (rfl : _ = (Value.pointer _)) | exact (rfl : _ = (Value.slice _ _ _)) | exact (rfl : _ = (Value.map _)) | exact (rfl : _ = (Value.func _ _ _)) | exact (rfl : _ = (Value.tuple _)) | exact (rfl : _ = (Value.agg _)) | exact (rfl : _ = (Value.string _)) | exact (rfl : _ = (Value.nilFunc)) | exact (rfl : _ = (Value.nilIface)))) (by (first | exact (rfl : _ = (Value.int _ _)) | exact (rfl : _ = (Value.bool _)) | exact (rfl : _ = (Value.pointer _)) | exact (rfl : _ = (Value.slice _ _ _)) | exact (rfl : _ = (Value.map _)) | exact (rfl : _ = (Value.func _ _ _)) | exact (rfl : _ = (Value.tuple _)) | exact (rfl : _ = (Value.agg _)) | exact (rfl : _ = (Value.string _)) | exact (rfl : _ = (Value.nilFunc)) | exact (rfl : _ = (Value.nilIface))))) hk hdel ?_
  intro A1 c1 B1 d1 T1 hs1 hk1 hp1
  simp only [List.take_succ_cons, List.take_zero, List.cons_append, List.nil_append, retP]
  ((repeat (first | ((with_reducible refine is_AL ?_); (first | ((with_reducible refine is_move ?_); (refine At_plain hF (by (exact (rfl : _ = some (Value.tuple _)))) ?_)) | ((with_reducible refine is_assign ?_); (refine At_plain hF (by (exact (rfl : _ = some (Value.int _ _)))) ?_)) | ((with_reducible refine is_extract ?_); (refine At_plain hF (by (first | exact (rfl : _ = some (Value.int _ _)) | exact (rfl : _ = some (Value.agg _)))) ?_)) | ((with_reducible refine is_store ?_); (first | refine At_storeB_0 hF rfl rfl rfl rfl (by simp [Value.one1, epair]) ?_ | refine At_storeB_1 hF rfl rfl rfl rfl (by simp [Value.one1, epair]) ?_)) | with_reducible refine At_nil ?_)) | ((with_reducible refine is_At ?_); (first | with_reducible refine At_seq ?_; intro K hK | with_reducible refine At_then_n ?_ | with_reducible refine At_go (by assumption) ?_)))); ((with_reducible refine is_alloc ?_); (refine At_alloc hF (by (exact (rfl : _ = List.toArray (_ :: _)))) ?_; intro b12)); (repeat (first | ((with_reducible refine is_AL ?_); (first | ((with_reducible refine is_move ?_); (refine At_plain hF (by (exact (rfl : _ = some (Value.tuple _)))) ?_)) | ((with_reducible refine is_assign ?_); (refine At_plain hF (by (exact (rfl : _ = some (Value.int _ _)))) ?_)) | ((with_reducible refine is_extract ?_); (refine At_plain hF (by (first | exact (rfl : _ = some (Value.int _ _)) | exact (rfl : _ = some (Value.agg _)))) ?_)) | ((with_reducible refine is_store ?_); (first | refine At_storeB_0 hF rfl rfl rfl rfl (by simp [Value.one1, epair]) ?_ | refine At_storeB_1 hF rfl rfl rfl rfl (by simp [Value.one1, epair]) ?_)) | with_reducible refine At_nil ?_)) | ((with_reducible refine is_At ?_); (first | with_reducible refine At_seq ?_; intro K hK | with_reducible refine At_then_n ?_ | with_reducible refine At_go (by assumption) ?_)))); ((with_reducible refine is_alloc ?_); (refine At_alloc hF (by (exact (rfl : _ = List.toArray (_ :: _)))) ?_; intro b13)); (repeat (first | ((with_reducible refine is_AL ?_); (first | ((with_reducible refine is_move ?_); (refine At_plain hF (by (exact (rfl : _ = some (Value.tuple _)))) ?_)) | ((with_reducible refine is_assign ?_); (refine At_plain hF (by (exact (rfl : _ = some (Value.int _ _)))) ?_)) | ((with_reducible refine is_extract ?_); (refine At_plain hF (by (first | exact (rfl : _ = some (Value.int _ _)) | exact (rfl : _ = some (Value.agg _)))) ?_)) | ((with_reducible refine is_store ?_); (first | refine At_storeB_0 hF rfl rfl rfl rfl (by simp [Value.one1, epair]) ?_ | refine At_storeB_1 hF rfl rfl rfl rfl (by simp [Value.one1, epair]) ?_)) | with_reducible refine At_nil ?_)) | ((with_reducible refine is_At ?_); (first | with_reducible refine At_seq ?_; intro K hK | with_reducible refine At_then_n ?_ | with_reducible refine At_go (by assumption) ?_)))))
  refine At_draw hF 11 (by kernel_rfl) (by decide +kernel) ?_; simp only [List.take_succ_cons, List.take_zero, List.drop_succ_cons, List.drop_zero]; (repeat ((with_reducible refine is_AQc ?_); refine AQ_cons (by intro K Q hK; (repeat (first | ((with_reducible refine is_guarded ?_); (refine At_guard_t rfl (by decide) rfl ?_)) | ((with_reducible refine is_move ?_); (refine At_plain hF (by (first | exact (rfl : _ = some (Value.int _ _)) | exact (rfl : _ = some (Value.bool _)) | exact (rfl : _ = some (Value.slice _ _ _)))) ?_)) | ((with_reducible refine is_bin ?_); (refine At_plain hF (by (exact (rfl : _ = some (Value.bool _)))) ?_)) | ((with_reducible refine is_load ?_); (refine At_loadB hF 1 rfl rfl rfl ?_)) | ((with_reducible refine is_index ?_); (refine At_indexS hF rfl rfl (by omega) ?_)))); exact At_nilK hK) ?_))
  refine AQ_cons (by intro K Q hK; refine At_guard_t rfl (by decide) rfl ?_; refine At_loadRow hF 3 (by exact rfl) rfl zP hkl rfl (v := .agg #[.int .i64 p.f, .int .i64 p.t, .slice p.A p.l p.c]) (by rw [hp]; rfl) ?_; exact At_nilK hK) ?_
  refine AQ_cons (by intro K Q hK; refine At_guard_t rfl (by decide) rfl ?_; refine At_callB hF E19 rfl (arg2 (by (first | exact (rfl : _ = (Value.int _ _)) | exact (rfl : _ = (Value.bool _)) | exact (rfl : _ = (Value.pointer _)) | exact (rfl : _ = (Value.slice _ _ _)) | exact (rfl : _ = (Value.map _)) | exact (rfl : _ = (Value.func _ _ _)) | exact (rfl : _ = (Value.tuple _)) | exact (rfl : _ = (Value.agg _)) | exact (rfl : _ = (Value.string _)) | exact (rfl : _ = (Value.nilFunc)) | exact (rfl : _ = (Value.nilIface)))) (by (first | exact (rfl : _ = (Value.int _ _)) | exact (rfl : _ = (Value.bool _)) | exact (rfl : _ = (Value.pointer _)) | exact (rfl : _ = (Value.slice _ _ _)) | exact (rfl : _ = (Value.map _)) | exact (rfl : _ = (Value.func _ _ _)) | exact (rfl : _ = (Value.tuple _)) | exact (rfl : _ = (Value.agg _)) | exact (rfl : _ = (Value.string _)) | exact (rfl : _ = (Value.nilFunc)) | exact (rfl : _ = (Value.nilIface))))) (fun w' hw' => sameEq_rets p w' (hp1.at 4 rfl hw')) ?_; exact At_nilK hK) ?_
  (repeat ((with_reducible refine is_AQc ?_); refine AQ_cons (by intro K Q hK; (repeat (first | ((with_reducible refine is_guarded ?_); (refine At_guard_t rfl (by decide) rfl ?_)) | ((with_reducible refine is_pick ?_); (refine At_plain hF (by (exact (rfl : _ = some (Value.bool _)))) ?_)) | ((with_reducible refine is_un ?_); (refine At_plain hF (by (exact (rfl : _ = some (Value.bool _)))) ?_)))); exact At_nilK hK) ?_)); refine AQ_done ?_
  (repeat (first | ((with_reducible refine is_AL ?_); (first | ((with_reducible refine is_load ?_); (refine At_loadB hF 0 rfl rfl rfl ?_)) | ((with_reducible refine is_store ?_); (refine At_storeB_2 hF rfl rfl rfl rfl (by simp [Value.one1, epair]) ?_)) | with_reducible refine At_nil ?_)) | ((with_reducible refine is_At ?_); (first | with_reducible refine At_seq ?_; intro K hK | with_reducible refine At_region ?_ | with_reducible refine At_skip ?_ | with_reducible refine At_then_n ?_ | with_reducible refine At_go (by assumption) ?_ | ((with_reducible refine is_cond ?_); (refine At_cond_f rfl ?_))))))
  have e1 : (q.take k).length = k := by rw [List.length_take]; omega
  have e2 : (q.drop (k + 1)).length = q.length - (k + 1) := List.length_drop
  have e3 : q.eraseIdx k = q.take k ++ q.drop (k + 1) := List.eraseIdx_eq_take_drop_succ q k
  refine At_drawE hF 10 [1, 2, 3, 5, 6, 7, 8] [] [0, 4, 9] ([]) (by kernel_rfl) (by decide +kernel) (by decide +kernel) ?_; simp only [List.drop_succ_cons, List.drop_zero]; (repeat ((with_reducible refine is_AQF ?_); first | refine AQF_early (by decide) (by exact (rfl : _ = some (Oper.mk _ _ _ _ _ _))) (by intro K Q hK; (repeat ((with_reducible refine is_move ?_); (refine At_plain hF (by (first | exact (rfl : _ = some (Value.int _ _)) | exact (rfl : _ = some (Value.slice _ _ _)))) ?_))); exact At_nilK hK) ?_ | refine AQF_late (by decide) (by exact (rfl : _ = some (Oper.mk _ _ _ _ _ _))) (by intro E K Q hK; simp only [List.cons_append, List.nil_append] at hK ⊢; (repeat ((with_reducible refine is_move ?_); (refine At_plain hF (by (first | exact (rfl : _ = some (Value.int _ _)) | exact (rfl : _ = some (Value.slice _ _ _)))) ?_))); exact At_nilK hK) ?_))
  refine AQF_late (by decide) (by exact (rfl : _ = some (Oper.mk _ _ _ _ _ _))) (by intro E K Q hK; simp only [List.cons_append, List.nil_append] at hK ⊢; refine At_cut_h (h := k) hF (by exact rfl) (by exact rfl) (by omega) ?_; rw [cutA_z]; exact At_nilK hK) ?_
  (repeat ((with_reducible refine is_AQF ?_); first | refine AQF_early (by decide) (by exact (rfl : _ = some (Oper.mk _ _ _ _ _ _))) (by intro K Q hK; (repeat (first | ((with_reducible refine is_move ?_); (refine At_plain hF (by (first | exact (rfl : _ = some (Value.int _ _)) | exact (rfl : _ = some (Value.slice _ _ _)))) ?_)) | ((with_reducible refine is_bin ?_); ((with_reducible refine is_badd ?_); (refine At_add hF rfl rfl (by omega) ?_))))); exact At_nilK hK) ?_ | refine AQF_late (by decide) (by exact (rfl : _ = some (Oper.mk _ _ _ _ _ _))) (by intro E K Q hK; simp only [List.cons_append, List.nil_append] at hK ⊢; (repeat (first | ((with_reducible refine is_move ?_); (refine At_plain hF (by (first | exact (rfl : _ = some (Value.int _ _)) | exact (rfl : _ = some (Value.slice _ _ _)))) ?_)) | ((with_reducible refine is_bin ?_); ((with_reducible refine is_badd ?_); (refine At_add hF rfl rfl (by omega) ?_))))); exact At_nilK hK) ?_))
  refine AQF_late (by decide) (by exact (rfl : _ = some (Oper.mk _ _ _ _ _ _))) (by intro E K Q hK; simp only [List.cons_append, List.nil_append] at hK ⊢; refine At_cut_l (l := k + 1) hF (by exact rfl) (by exact rfl) (by omega) ?_; exact At_nilK hK) ?_
  refine AQF_done ?_
  (refine WAt_cons ?_ (by exact (rfl : _ = some (Oper.mk _ _ _ _ _ _))) ?_; (focus (repeat (first | exact List.Sublist.refl _ | exact List.Sublist.slnil | refine List.Sublist.cons_cons _ ?_ | refine List.Sublist.cons _ ?_ | exact List.nil_sublist _))); intro K Q hK)
  refine At_slice0 hF encP encP_len ?_
  intro b0
  refine At_nilK (hK _ _ ?_)
  (refine WAt_cons ?_ (by exact (rfl : _ = some (Oper.mk _ _ _ _ _ _))) ?_; (focus (repeat (first | exact List.Sublist.refl _ | exact List.Sublist.slnil | refine List.Sublist.cons_cons _ ?_ | refine List.Sublist.cons _ ?_ | exact List.nil_sublist _))); intro K Q hK)
  refine At_spread (sz := 3) (enc := encP) (l := []) (ys := q.take k) hF 0 rfl (by exact rfl) rfl (by exact rfl) e1.symm (fun w hw => lies_take (lies_rowP hw (List.mem_of_getElem? (i := 4) rfl)) k) ⟨rfl, rfl, by decide, rfl⟩ (fun y _ => oneP y) (by first | (simp only [TS.bytes]; omega) | (simp only [TS.bytes, List.length_nil, List.length_append, List.length_cons]; omega)) (by first | omega | (simp only [List.length_nil, List.length_append, List.length_cons]; omega)) (fun h => by cases h) ?_
  intro Ab cb
  simp only [List.set_cons_zero, List.nil_append, List.length_nil, Nat.zero_add]
  refine At_nilK (hK _ _ ?_)
  (refine WAt_cons ?_ (by exact (rfl : _ = some (Oper.mk _ _ _ _ _ _))) ?_; (focus (repeat (first | exact List.Sublist.refl _ | exact List.Sublist.slnil | refine List.Sublist.cons_cons _ ?_ | refine List.Sublist.cons _ ?_ | exact List.nil_sublist _))); intro K Q hK)
  refine At_spread (sz := 3) (enc := encP) (l := q.take k) (ys := q.drop (k + 1)) hF 0 rfl (by exact rfl) rfl (by exact rfl) e2.symm (fun w hw => lies_drop (lies_rowP hw (List.mem_of_getElem? (i := 4) rfl)) (k + 1) e (by omega) hqe) ⟨rfl, rfl, by decide, rfl⟩ (fun y _ => oneP y) (by first | (simp only [TS.bytes]; omega) | (simp only [TS.bytes, List.length_nil, List.length_append, List.length_cons]; omega)) (by first | omega | (simp only [List.length_nil, List.length_append, List.length_cons]; omega)) (fun h => by unfold cutA at h; split at h <;> cases h) ?_
  intro Ac cc
  simp only [List.set_cons_zero]
  rw [← e3, show (q.take k).length + (q.drop (k + 1)).length = (q.eraseIdx k).length by rw [e3, List.length_append]]
  refine At_nilK (hK _ _ ?_)
  (refine WAt_nil ?_ ?_; (focus (repeat (first | exact List.Sublist.refl _ | exact List.Sublist.slnil | refine List.Sublist.cons_cons _ ?_ | refine List.Sublist.cons _ ?_ | exact List.nil_sublist _))))
  have hel : (q.eraseIdx k).length + 1 = q.length := by rw [List.length_eraseIdx, if_pos hkl]; omega
  (repeat (first | ((with_reducible refine is_AL ?_); (first | ((with_reducible refine is_move ?_); (refine At_plain hF (by (exact (rfl : _ = some (Value.int _ _)))) ?_)) | ((with_reducible refine is_bin ?_); ((with_reducible refine is_badd ?_); (refine At_add hF rfl rfl (by omega) ?_))) | ((with_reducible refine is_assign ?_); (refine At_plain hF (by (first | exact (rfl : _ = some (Value.int _ _)) | exact (rfl : _ = some (Value.slice _ _ _)))) ?_)) | with_reducible refine At_nil ?_)) | ((with_reducible refine is_At ?_); (first | with_reducible refine At_region ?_ | with_reducible refine At_then_n ?_ | with_reducible refine At_inb_n ?_ | with_reducible refine At_go (by assumption) ?_))))
  refine At.perm (R' := nA b5 A1 c1 B1 d1 (q.eraseIdx k) [] :: rA Ac cc (q.eraseIdx k) :: nA b13 A1 c1 B1 d1 (q.eraseIdx k) [] :: bx3 b12 p :: rA (some br) e q :: T1) ?_ ?_
  · exact permA _ _ _ _ _ _
  refine At.sub ?_ (hL ⟨i + 1, A1, c1, B1, d1, Ac, cc, q.eraseIdx k⟩ T1 _ ⟨by simp only; omega, okN_erase hok k, hk1⟩ (by simp only; omega) ?_)
  · exact .cons_cons _ (.cons_cons _ (.cons _ (.cons _ (.cons _ (List.Sublist.refl _)))))
  · (repeat (first | exact True.intro | (refine And.intro ?_ ?_; focus (show _ = (_ : Value); first | exact rfl | (refine Eq.trans (b := Value.int IntKind.i64 _) rfl (congrArg (Value.int IntKind.i64) ?_); omega)))))
theorem law_NetworkAll.calls (Al : Option Addr) (cl : Nat) (l : List PKT) (Ao : Option Addr) (co : Nat) (o : List Int) (w : World) (hl : Kd.C kP w Al l.length l) (ho : Kd.C (Kd.int .u8) w Ao o.length o) (hw : ∀ x ∈ o, (Lit.int .u8 x).wf = true) :
    Calls Try.prog 4 #[.slice Al l.length cl, .slice Ao o.length co] w fun e w' => e = .returned (.bool true) ∧ Below w.heap.size w w' :=
  (netAll_rets Al cl l Ao co o w hl ho (fun x hx => by
    have := hw x hx
    simp only [Lit.wf, Bool.and_eq_true, decide_eq_true_eq] at this
    exact this)).mono (by rintro e w' ⟨u, rfl, rfl, hb⟩; exact ⟨rfl, hb⟩)
end Go.Proofs.Ytmilnlcegcdolaa.P
