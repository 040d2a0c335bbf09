/- NetworkOnlySent returns true. -/
import Derived.Test.YtmilnlcegcdolaaOnlD
import Derived.Test.YtmilnlcegcdolaaXMergeB
import Derived.Test.YtmilnlcegcdolaaXLoadR
import Derived.Test.YtmilnlcegcdolaaXStr
import Derived.Test.YtmilnlcegcdolaaXDrawN
namespace Go.Proofs.Ytmilnlcegcdolaa.P
open Go.RowKit Go.Proofs.YtmilnlcegcdolaaW.PrintWords
open XW RegInv
attribute [local irreducible] Addr.add
set_option linter.unusedSimpArgs false
set_option linter.unusedVariables false

/-- a plain operation under a guard that is not told -/
theorem At_guardP {F : Fence} {P : Program} {n : Nat} {Q : XW.Post} {ρ : Nat → Value} {ds : List Deferred} {base : World} {R : List Res} {ops : Array Oper} (hF : Wide F) {dst : Option Tmp} {op : Op} {ty : TypeId} {pos : String} {af : Array Edge} {rest : List Oper} {g t : Nat} {want b : Bool} {v : Value} (ho : (ops[g]?).bind (·.dst) = some t) (ht : t < n) (hv : ρ t = .bool b) (hp : b = want → plain n ρ op = some v)
    (h : AL F P n Q ops rest (updO ρ dst (if b = want then v else undef)) ds base R) : AL F P n Q ops (⟨dst, op, ty, pos, af, some (g, want)⟩ :: rest) ρ ds base R := by
  by_cases e : b = want
  · rw [if_pos e] at h
    subst e
    exact At_guard_t ho ht hv (At_plain hF (hp rfl) h)
  · rw [if_neg e] at h
    exact At_guard_f hF ho ht hv (by cases b <;> cases want <;> simp_all) h
abbrev rO (A : Option Nat) (c : Nat) (q : List PKT) : Res := .row 28 3 encP A c q
/-- where the law is -/
structure OL where
  i : Nat
  A : Option Addr
  c : Nat
  B : Option Addr
  d : Nat
  R : Option Nat
  e : Nat
  q : List PKT
  a : List (Int × Int)
  S : List PKT
  n : Nat
theorem okN_nil' : okN [] [] := ⟨by simp, by simp, by simp⟩
set_option maxHeartbeats 8000000 in
set_option maxRecDepth 20000 in
theorem only_rets (Al : Option Addr) (cl : Nat) (l : List MOV) (w : World) (hl : Kd.C kM w Al l.length l) :
    Rets Try.prog 7 #[.slice Al l.length cl] w fun u w' => u = .bool true ∧ Below w.heap.size w w' := by
  have hF := wide_wide
  refine rets_at (n := 102) Try.func7 rfl Try.ntmps7 (by simp) ?_
  refine At.newNil 28 3 encP encP_len ?_
  (repeat (first | ((with_reducible refine is_AL ?_); (first | ((with_reducible refine is_assign ?_); (refine At_plain hF (by (exact (rfl : _ = some (Value.bool _)))) ?_)) | with_reducible refine At_nil ?_)) | ((with_reducible refine is_At ?_); (first | with_reducible refine At_seq ?_; intro K hK | with_reducible refine At_region ?_ | with_reducible refine At_then_n ?_ | with_reducible refine At_go (by assumption) ?_))))
  refine At_callB hF E9 rfl (vs := #[]) (by simp) (fun w' hw' => sane_rets w') ?_
  (repeat (first | ((with_reducible refine is_AL ?_); (first | ((with_reducible refine is_move ?_); (refine At_plain hF (by (exact (rfl : _ = some (Value.slice _ _ _)))) ?_)) | ((with_reducible refine is_bin ?_); (refine At_plain hF (by (exact (rfl : _ = some (Value.bool _)))) ?_)) | ((with_reducible refine is_un ?_); (refine At_plain hF (by (exact (rfl : _ = some (Value.bool _)))) ?_)) | ((with_reducible refine is_call ?_); (refine At_len hF rfl ?_)) | with_reducible refine At_nil ?_)) | ((with_reducible refine is_At ?_); (first | with_reducible refine At_seq ?_; intro K hK | with_reducible refine At_region ?_ | with_reducible refine At_skip ?_ | with_reducible refine At_then_n ?_ | with_reducible refine At_go (by assumption) ?_ | ((with_reducible refine is_cond ?_); (refine At_cond_f rfl ?_))))))
  by_cases h60 : l.length ≤ 60
  case neg =>
    rw [show decide ((l.length : Int) > 60) = true from decide_eq_true (by omega)]
    (repeat (first | ((with_reducible refine is_AL ?_); (first | ((with_reducible refine is_assign ?_); (refine At_plain hF (by (exact (rfl : _ = some (Value.bool _)))) ?_)) | with_reducible refine At_nil ?_)) | ((with_reducible refine is_At ?_); (first | with_reducible refine At_seq ?_; intro K hK | with_reducible refine At_region ?_ | with_reducible refine At_ret ?_ | with_reducible refine At_then_n ?_ | with_reducible refine At_then_r ?_ | with_reducible refine At_go (by assumption) ?_ | ((with_reducible refine is_cond ?_); (refine At_cond_t rfl ?_))))))
    exact At_ret1 rfl (rv_tmp (by decide)) (fun w' hw' => ⟨_, rfl, rfl, hw'.below⟩)
  rw [show decide ((l.length : Int) > 60) = false from decide_eq_false (by omega)]
  (repeat ((with_reducible refine is_At ?_); (first | with_reducible refine At_seq ?_; intro K hK | with_reducible refine At_region ?_ | with_reducible refine At_skip ?_ | with_reducible refine At_then_n ?_ | with_reducible refine At_go (by assumption) ?_ | ((with_reducible refine is_cond ?_); (refine At_cond_f rfl ?_)))))
  refine At_callB hF E16 rfl (vs := #[]) (by simp) (fun w' hw' => new_rets w') ?_
  rw [show zN.v = .agg #[.slice none 0 0, .slice none 0 0] from rfl]
  ((repeat (first | ((with_reducible refine is_AL ?_); (first | ((with_reducible refine is_assign ?_); (refine At_plain hF (by (first | exact (rfl : _ = some (Value.int _ _)) | exact (rfl : _ = some (Value.slice _ _ _)))) ?_)) | ((with_reducible refine is_store ?_); (refine At_storeB_0 hF rfl rfl rfl rfl (by simp [Value.one1, epair]) ?_)) | with_reducible refine At_nil ?_)) | ((with_reducible refine is_At ?_); (first | with_reducible refine At_seq ?_; intro K hK | with_reducible refine At_block ?_ | with_reducible refine At_region ?_ | with_reducible refine At_then_n ?_ | with_reducible refine At_go (by assumption) ?_)))); ((with_reducible refine is_alloc ?_); (refine At_alloc hF (by (exact (rfl : _ = List.toArray (_ :: _)))) ?_; intro b3)); (repeat (first | ((with_reducible refine is_AL ?_); (first | ((with_reducible refine is_assign ?_); (refine At_plain hF (by (first | exact (rfl : _ = some (Value.int _ _)) | exact (rfl : _ = some (Value.slice _ _ _)))) ?_)) | ((with_reducible refine is_store ?_); (refine At_storeB_0 hF rfl rfl rfl rfl (by simp [Value.one1, epair]) ?_)) | with_reducible refine At_nil ?_)) | ((with_reducible refine is_At ?_); (first | with_reducible refine At_seq ?_; intro K hK | with_reducible refine At_block ?_ | with_reducible refine At_region ?_ | with_reducible refine At_then_n ?_ | with_reducible refine At_go (by assumption) ?_)))))
  refine At_loopT (fun s : OL => [(0, .slice Al l.length cl), (3, .pointer (some ⟨b3, 0, none⟩)), (4, .slice (s.R.map fun b => ⟨b, 0, none⟩) s.S.length s.e), (5, .int .i64 s.n), (6, .int .i64 s.i)])
    (fun s T => nH b3 s.A s.c s.B s.d s.q s.a :: rO s.R s.e s.S :: T) (fun s T => s.i ≤ l.length ∧ s.S.length ≤ s.i ∧ s.n ≤ s.i ∧ okN s.q s.a ∧ (∀ x ∈ s.q, x ∈ s.S) ∧ (s.a ≠ [] → 0 < s.n) ∧ Kn w T ⟨s.A, s.c, s.B, s.d, s.q, s.a⟩ ∧ ∀ x ∈ s.S, Kp w T x) (fun s => l.length - s.i) ⟨0, none, 0, none, 0, none, 0, [], [], [], 0⟩ [] ?_ ?_ ⟨Nat.zero_le _, Nat.le_refl _, Nat.le_refl _, okN_nil', fun x hx => hx, fun h => absurd rfl h, Kn.z, fun x hx => by cases hx⟩ ?_
  · (repeat (first | exact List.Sublist.refl _ | exact List.Sublist.slnil | refine List.Sublist.cons_cons _ ?_ | refine List.Sublist.cons _ ?_ | exact List.nil_sublist _))
  · (repeat (first | exact True.intro | (refine And.intro ?_ ?_; focus (show _ = (_ : Value); first | exact rfl | (refine Eq.trans (b := Value.int IntKind.i64 _) rfl (congrArg (Value.int IntKind.i64) ?_); omega)))))
  rintro ⟨i, A, c, B, d, R, e, q, a, S, n⟩ T ⟨hi, hSi, hni, hok, hqS, han, hk, hS⟩ K hL ρ0
  simp only at hi hSi hni hok hqS han hk hS
  try dsimp only
  (repeat (first | ((with_reducible refine is_AL ?_); (first | ((with_reducible refine is_move ?_); (refine At_plain hF (by (first | exact (rfl : _ = some (Value.int _ _)) | exact (rfl : _ = some (Value.slice _ _ _)))) ?_)) | ((with_reducible refine is_bin ?_); (refine At_plain hF (by (exact (rfl : _ = some (Value.bool _)))) ?_)) | ((with_reducible refine is_call ?_); (refine At_len hF rfl ?_)) | with_reducible refine At_nil ?_)) | ((with_reducible refine is_At ?_); (first | with_reducible refine At_seq ?_; intro K hK | with_reducible refine At_region ?_ | with_reducible refine At_then_n ?_ | with_reducible refine At_go (by assumption) ?_))))
  ((with_reducible refine is_cond ?_); (refine At_cond rfl ?_ ?_ <;> (intro hg; try (simp only [decide_eq_true_eq, decide_eq_false_iff_not, beq_iff_eq, bne_iff_ne, beq_eq_false_iff_ne, bne_eq_false_iff_eq, ne_eq, Bool.not_eq_true', Bool.not_eq_false', Bool.not_true, Bool.not_false, Decidable.not_not] at hg); try (exfalso; first | omega | exact hg True.intro))))
  · have hil : i < l.length := by omega
    obtain ⟨ad, hA, hbd, hcell⟩ := CM hl i hil
    generalize l.getD i zM = mv at *
    (repeat ((with_reducible refine is_At ?_); (first | with_reducible refine At_seq ?_; intro K hK | with_reducible refine At_block ?_ | with_reducible refine At_skip ?_ | with_reducible refine At_then_n ?_ | with_reducible refine At_go (by assumption) ?_)))
    refine At_mergeU (σ := (Nat × Nat) × HS) (fun s => [(0, .slice Al l.length cl), (3, .pointer (some ⟨b3, 0, none⟩)), (4, .slice (R.map fun b => ⟨b, 0, none⟩) S.length e), (5, .int .i64 n), (6, .int .i64 i), (7, .pointer (some ⟨s.1.1, 0, none⟩)), (8, .pointer (some ⟨s.1.2, 0, none⟩)), (9, .int .i64 s.2.e)])
      (fun s => nH s.1.1 s.2.A s.2.c s.2.B s.2.d s.2.q s.2.a :: bx3 s.1.2 s.2.p :: nH b3 A c B d q a :: rO R e S :: s.2.Rs)
      (fun s => T.Sublist s.2.Rs ∧ HapOk (mv.k % 6) q a s.2.q s.2.a s.2.p s.2.e ∧ Kn w s.2.Rs ⟨s.2.A, s.2.c, s.2.B, s.2.d, s.2.q, s.2.a⟩ ∧ Kp w s.2.Rs s.2.p) ?_ ?_
    · intro K' hK'
      have hLk : Keeps [(0, .slice Al l.length cl), (3, .pointer (some ⟨b3, 0, none⟩)), (4, .slice (R.map fun b => ⟨b, 0, none⟩) S.length e), (5, .int .i64 n), (6, .int .i64 i), (25, .agg #[.slice A q.length c, .slice B a.length d]), (29, .agg #[.int .u8 mv.k, .int .u8 mv.a, .int .u8 mv.x, .int .u8 mv.y, .int .u8 mv.d])] := fun ρ v h => ⟨h, h, h, h, h, h, h⟩
      refine At_drawF hF 14 [0, 1, 2, 3, 4] [] [5, 6, 7, 8, 9, 10, 11, 12, 13] (nH b3 A c B d q a :: []) (by kernel_rfl) (by decide +kernel) (by decide +kernel) ?_; simp only [List.drop_succ_cons, List.drop_zero]; (repeat ((with_reducible refine is_AQF ?_); first | refine AQF_early (by decide) (by exact (rfl : _ = some (Oper.mk _ _ _ _ _ _))) (by intro K Q hK; (repeat (first | ((with_reducible refine is_move ?_); (refine At_plain hF (by (first | exact (rfl : _ = some (Value.int _ _)) | exact (rfl : _ = some (Value.slice _ _ _)))) ?_)) | ((with_reducible refine is_load ?_); (refine At_loadB hF 0 rfl rfl rfl ?_)) | ((with_reducible refine is_index ?_); (refine At_indexC hF rfl (by assumption) rfl (by omega) ?_)))); exact At_nilK hK) ?_ | refine AQF_late (by decide) (by exact (rfl : _ = some (Oper.mk _ _ _ _ _ _))) (by intro E K Q hK; simp only [List.cons_append, List.nil_append] at hK ⊢; (repeat (first | ((with_reducible refine is_move ?_); (refine At_plain hF (by (first | exact (rfl : _ = some (Value.int _ _)) | exact (rfl : _ = some (Value.slice _ _ _)))) ?_)) | ((with_reducible refine is_load ?_); (refine At_loadB hF 0 rfl rfl rfl ?_)) | ((with_reducible refine is_index ?_); (refine At_indexC hF rfl (by assumption) rfl (by omega) ?_)))); exact At_nilK hK) ?_))
      refine AQF_late (by decide) (by exact (rfl : _ = some (Oper.mk _ _ _ _ _ _))) (by intro E K Q hK; simp only [List.cons_append, List.nil_append] at hK ⊢; refine At_loadCS (vs := [.int .u8 mv.k, .int .u8 mv.a, .int .u8 mv.x, .int .u8 mv.y, .int .u8 mv.d]) hF (by exact rfl) (by exact rfl) hcell ?_; exact At_nilK hK) ?_
      refine AQF_doneF ?_
      refine FAt_ind (I := fun done ρ R' => ∃ s b7 b8, OI w (mv.k % 6) q a T [nH b3 A c B d q a, rO R e S] [(0, .slice Al l.length cl), (3, .pointer (some ⟨b3, 0, none⟩)), (4, .slice (R.map fun b => ⟨b, 0, none⟩) S.length e), (5, .int .i64 n), (6, .int .i64 i), (25, .agg #[.slice A q.length c, .slice B a.length d]), (29, .agg #[.int .u8 mv.k, .int .u8 mv.a, .int .u8 mv.x, .int .u8 mv.y, .int .u8 mv.d])] done ρ R' s b7 b8) ?_ ?_ ?_ _ _ _ _ (by decide) ?_
      · rintro done ρ R' ⟨s, b7, b8, h⟩
        rw [h.hR]
        exact (List.Sublist.cons_cons _ (List.nil_sublist _)).trans ((List.sublist_append_right _ _).trans (List.sublist_append_right _ _))
      · rintro done ρ R' ⟨s, b7, b8, h⟩ hall
        obtain ⟨b7, rfl, h7⟩ := h.c10 (hall 10 (by decide))
        obtain ⟨b8, rfl, h8⟩ := h.c11 (hall 11 (by decide))
        have hR := h.hR
        rw [hall 12 (by decide), hall 13 (by decide)] at hR
        subst hR
        refine At_plain hF (v := .int .i64 s.e) (by show some (ρ 33) = _; rw [h.c9 (hall 9 (by decide))]) ?_
        refine At_nilK ?_
        have hfr := h.fr
        exact At.sub (List.Sublist.refl _) (hK' ((b7, b8), s) _ (h.c5 (hall 5 (by decide))).1 ⟨hfr.1, hfr.2.1, hfr.2.2.1, hfr.2.2.2.1, hfr.2.2.2.2.1, h7, h8, rfl, trivial⟩)
      · rintro done ρ R' oc ⟨s, b7, b8, h⟩ hc hd hdep
        simp only [List.mem_cons, List.not_mem_nil, or_false] at hc
        rcases hc with rfl | rfl | rfl | rfl | rfl | rfl | rfl | rfl | rfl
        · exact ⟨_, by exact (rfl : _ = some (Oper.mk _ _ _ _ _ _)), fun K Q' hK => h.s5 hF hLk rfl hd ⟨A, c, B, d, q, a⟩ mv rfl rfl rfl hk hok hbd h.fr.2.2.2.2.2.1 h.fr.2.2.2.2.2.2.1 hK⟩
        · exact ⟨_, by exact (rfl : _ = some (Oper.mk _ _ _ _ _ _)), fun K Q' hK => h.s6 hF hLk (hdep 5 (by decide) (by decide +kernel)) hK⟩
        · exact ⟨_, by exact (rfl : _ = some (Oper.mk _ _ _ _ _ _)), fun K Q' hK => h.s7 hF hLk (hdep 5 (by decide) (by decide +kernel)) (hdep 6 (by decide) (by decide +kernel)) hK⟩
        · exact ⟨_, by exact (rfl : _ = some (Oper.mk _ _ _ _ _ _)), fun K Q' hK => h.s8 hF hLk (hdep 5 (by decide) (by decide +kernel)) (hdep 6 (by decide) (by decide +kernel)) hK⟩
        · exact ⟨_, by exact (rfl : _ = some (Oper.mk _ _ _ _ _ _)), fun K Q' hK => h.s9 hF hLk (hdep 5 (by decide) (by decide +kernel)) (hdep 6 (by decide) (by decide +kernel)) hK⟩
        · exact ⟨_, by exact (rfl : _ = some (Oper.mk _ _ _ _ _ _)), fun K Q' hK => h.s10 hF hLk hd hK⟩
        · exact ⟨_, by exact (rfl : _ = some (Oper.mk _ _ _ _ _ _)), fun K Q' hK => h.s11 hF hLk hd hK⟩
        · exact ⟨_, by exact (rfl : _ = some (Oper.mk _ _ _ _ _ _)), fun K Q' hK => h.s12 hF hLk hd (hdep 5 (by decide) (by decide +kernel)) (hdep 7 (by decide) (by decide +kernel)) (hdep 10 (by decide) (by decide +kernel)) hK⟩
        · exact ⟨_, by exact (rfl : _ = some (Oper.mk _ _ _ _ _ _)), fun K Q' hK => h.s13 hF hLk hd (hdep 5 (by decide) (by decide +kernel)) (hdep 8 (by decide) (by decide +kernel)) (hdep 10 (by decide) (by decide +kernel)) (hdep 11 (by decide) (by decide +kernel)) hK⟩
      · refine ⟨⟨A, c, B, d, q, a, zP, 0, T⟩, none, none, ?_, rfl, fun _ => ⟨rfl, rfl, rfl, rfl, rfl, rfl, rfl⟩, fun h => absurd h (by simp), fun h => absurd h (by simp), fun h => absurd h (by simp), fun h => absurd h (by simp), fun h => absurd h (by simp), fun h => absurd h (by simp), fun _ => ⟨rfl, rfl⟩, fun h => absurd h (by simp), fun _ => ⟨rfl, rfl⟩⟩
        (repeat (first | exact True.intro | (refine And.intro ?_ ?_; focus (show _ = (_ : Value); first | exact rfl | (refine Eq.trans (b := Value.int IntKind.i64 _) rfl (congrArg (Value.int IntKind.i64) ?_); omega)))))
    rintro ⟨⟨b7, b8⟩, ⟨A', c', B', d', q', a', p, e', T'⟩⟩ ρ1 ⟨hsT, hh, hk', hp'⟩
    dsimp only at hsT hh hk' hp' ⊢
    refine At_go (by assumption) ?_
    replace hk := hk.mono hsT
    replace hS : ∀ x ∈ S, Kp w T' x := fun x hx => (hS x hx).mono hsT
    rcases hh with ⟨he, hq', ha'⟩ | ⟨he, hok', hcs⟩
    · subst q' a'
      (repeat (first | ((with_reducible refine is_AL ?_); (first | ((with_reducible refine is_move ?_); (refine At_plain hF (by (exact (rfl : _ = some (Value.int _ _)))) ?_)) | ((with_reducible refine is_bin ?_); (refine At_plain hF (by (exact (rfl : _ = some (Value.bool _)))) ?_)) | with_reducible refine At_nil ?_)) | ((with_reducible refine is_At ?_); (first | with_reducible refine At_seq ?_; intro K hK | with_reducible refine At_region ?_ | with_reducible refine At_then_n ?_ | with_reducible refine At_go (by assumption) ?_))))
      rw [show (e' != 0) = true by rw [bne_iff_ne]; exact he]
      (repeat (first | ((with_reducible refine is_AL ?_); ((with_reducible refine is_load ?_); (refine At_loadB hF 2 rfl rfl rfl ?_))) | ((with_reducible refine is_At ?_); (first | with_reducible refine At_seq ?_; intro K hK | with_reducible refine At_region ?_ | ((with_reducible refine is_cond ?_); (refine At_cond_t rfl ?_))))))
      refine At_callB hF E13 rfl (arg1 (by (first | exact (rfl : _ = (Value.int _ _)) | exact (rfl : _ = (Value.bool _)) | exact (rfl : _ = (Value.pointer _)) | exact (rfl : _ = (Value.slice _ _ _)) | exact (rfl : _ = (Value.map _)) | exact (rfl : _ = (Value.func _ _ _)) | exact (rfl : _ = (Value.tuple _)) | exact (rfl : _ = (Value.agg _)) | exact (rfl : _ = (Value.string _)) | exact (rfl : _ = (Value.nilFunc)) | exact (rfl : _ = (Value.nilIface))))) (fun w' hw' => check_rets ⟨A, c, B, d, q, a⟩ w' (hk.at 4 rfl hw')) ?_
      rw [show chkN (⟨A, c, B, d, q, a⟩ : NET).q (⟨A, c, B, d, q, a⟩ : NET).a = 0 from if_pos hok]
      (repeat ((with_reducible refine is_AL ?_); (first | ((with_reducible refine is_guarded ?_); (refine At_guard_t rfl (by decide) rfl ?_)) | ((with_reducible refine is_move ?_); (refine At_plain hF (by (exact (rfl : _ = some (Value.bool _)))) ?_)) | ((with_reducible refine is_bin ?_); (refine At_plain hF (by (exact (rfl : _ = some (Value.bool _)))) ?_)) | ((with_reducible refine is_load ?_); (refine At_loadB hF 0 rfl rfl rfl ?_)))))
      refine At_buildS hF (cs := #[.slice none 0 0, .slice none 0 0]) (by exact rfl) (by exact rfl) ?_
      (repeat ((with_reducible refine is_AL ?_); ((with_reducible refine is_guarded ?_); (refine At_guard_t rfl (by decide) rfl ?_))))
      refine At_callB hF E15 rfl (arg2 (by (first | exact (rfl : _ = (Value.int _ _)) | exact (rfl : _ = (Value.bool _)) | exact (rfl : _ = (Value.pointer _)) | exact (rfl : _ = (Value.slice _ _ _)) | exact (rfl : _ = (Value.map _)) | exact (rfl : _ = (Value.func _ _ _)) | exact (rfl : _ = (Value.tuple _)) | exact (rfl : _ = (Value.agg _)) | exact (rfl : _ = (Value.string _)) | exact (rfl : _ = (Value.nilFunc)) | exact (rfl : _ = (Value.nilIface)))) (by (first | exact (rfl : _ = (Value.int _ _)) | exact (rfl : _ = (Value.bool _)) | exact (rfl : _ = (Value.pointer _)) | exact (rfl : _ = (Value.slice _ _ _)) | exact (rfl : _ = (Value.map _)) | exact (rfl : _ = (Value.func _ _ _)) | exact (rfl : _ = (Value.tuple _)) | exact (rfl : _ = (Value.agg _)) | exact (rfl : _ = (Value.string _)) | exact (rfl : _ = (Value.nilFunc)) | exact (rfl : _ = (Value.nilIface))))) (fun w' hw' => sameN_rets ⟨A', c', B', d', [], []⟩ zN w' (hk'.at 4 rfl hw') (zN_ok w') rfl rfl) ?_
      (repeat (first | ((with_reducible refine is_AL ?_); (first | ((with_reducible refine is_guarded ?_); (refine At_guard_t rfl (by decide) rfl ?_)) | ((with_reducible refine is_move ?_); (refine At_plain hF (by (exact (rfl : _ = some (Value.int _ _)))) ?_)) | ((with_reducible refine is_bin ?_); ((with_reducible refine is_badd ?_); (refine At_add hF rfl rfl (by omega) ?_))) | ((with_reducible refine is_assign ?_); (refine At_plain hF (by (exact (rfl : _ = some (Value.int _ _)))) ?_)) | ((with_reducible refine is_pick ?_); (refine At_plain hF (by (exact (rfl : _ = some (Value.bool _)))) ?_)) | ((with_reducible refine is_un ?_); (refine At_plain hF (by (exact (rfl : _ = some (Value.bool _)))) ?_)) | with_reducible refine At_nil ?_)) | ((with_reducible refine is_At ?_); (first | with_reducible refine At_region ?_ | with_reducible refine At_skip ?_ | with_reducible refine At_exit ?_ | with_reducible refine At_then_n ?_ | with_reducible refine At_then_e ?_ | with_reducible refine At_inb_e rfl ?_ | with_reducible refine At_go (by assumption) ?_ | ((with_reducible refine is_cond ?_); (refine At_cond_f rfl ?_))))))
      refine At.sub ?_ (hL ⟨i + 1, A, c, B, d, R, e, q, a, S, n⟩ T' _ ⟨hil, by simp only; omega, by simp only; omega, hok, hqS, han, hk, hS⟩ (by simp only; omega) ?_)
      · (repeat (first | exact List.Sublist.refl _ | exact List.Sublist.slnil | refine List.Sublist.cons_cons _ ?_ | refine List.Sublist.cons _ ?_ | exact List.nil_sublist _))
      · (repeat (first | exact True.intro | (refine And.intro ?_ ?_; focus (show _ = (_ : Value); first | exact rfl | (refine Eq.trans (b := Value.int IntKind.i64 _) rfl (congrArg (Value.int IntKind.i64) ?_); omega)))))
    subst e'
    have hc0 := hcell 0 _ rfl
    rw [addr_add_add] at hc0
    (repeat (first | ((with_reducible refine is_AL ?_); (first | ((with_reducible refine is_move ?_); (refine At_plain hF (by (first | exact (rfl : _ = some (Value.int _ _)) | exact (rfl : _ = some (Value.slice _ _ _)))) ?_)) | ((with_reducible refine is_bin ?_); (refine At_plain hF (by (exact (rfl : _ = some (Value.bool _)))) ?_)) | ((with_reducible refine is_field ?_); (refine At_fieldC hF rfl ?_)) | ((with_reducible refine is_index ?_); (refine At_indexC hF rfl (by assumption) rfl (by omega) ?_)) | with_reducible refine At_nil ?_)) | ((with_reducible refine is_At ?_); (first | with_reducible refine At_seq ?_; intro K hK | with_reducible refine At_region ?_ | with_reducible refine At_skip ?_ | with_reducible refine At_then_n ?_ | with_reducible refine At_go (by assumption) ?_ | ((with_reducible refine is_cond ?_); (refine At_cond_f rfl ?_))))))
    refine At_loadC hF (by exact rfl) (by exact hc0) ?_
    (repeat (first | ((with_reducible refine is_AL ?_); (first | ((with_reducible refine is_bin ?_); (refine At_plain hF (by (first | exact (rfl : _ = some (Value.int _ _)) | exact (rfl : _ = some (Value.bool _)))) ?_)) | ((with_reducible refine is_assign ?_); (refine At_plain hF (by (exact (rfl : _ = some (Value.bool _)))) ?_)) | with_reducible refine At_nil ?_)) | ((with_reducible refine is_At ?_); (first | with_reducible refine At_seq ?_; intro K hK | with_reducible refine At_block ?_ | with_reducible refine At_region ?_ | with_reducible refine At_then_n ?_ | with_reducible refine At_go (by assumption) ?_))))
    rw [Int.tmod_eq_emod_of_nonneg hbd.1.1]
    generalize mv.k % 6 = m at *
    clear hcell hc0
    refine At_mergeB (σ := ((Option Nat × Nat) × List PKT) × Nat) (fun s => [(0, .slice Al l.length cl), (3, .pointer (some ⟨b3, 0, none⟩)), (4, .slice (s.1.1.1.map fun b => ⟨b, 0, none⟩) s.1.2.length s.1.1.2), (5, .int .i64 s.2), (6, .int .i64 i), (7, .pointer (some ⟨b7, 0, none⟩))])
      (fun s => nH b7 A' c' B' d' q' a' :: nH b3 A c B d q a :: rO s.1.1.1 s.1.1.2 s.1.2 :: T')
      (fun s => s.1.2.length ≤ i + 1 ∧ s.2 ≤ i + 1 ∧ (∀ x ∈ q', x ∈ s.1.2) ∧ (a' ≠ [] → 0 < s.2) ∧ ∀ x ∈ s.1.2, Kp w T' x) ?_ ?_
    · intro K' hK'
      rcases hcs with ⟨hm, ⟨z, hq'⟩, ha'⟩ | ⟨hm, hsub, ha', hpq⟩ | ⟨hm, hsub, ha'⟩ | ⟨hm, hq'⟩ | ⟨hm, hq', hnil⟩
      · subst m q' a'
        have hlq := hok'.1
        rw [List.length_append, List.length_singleton] at hlq
        rw [show ((0 : Int) == 0) = true from rfl]
        (repeat (first | ((with_reducible refine is_AL ?_); (first | ((with_reducible refine is_bin ?_); (refine At_plain hF (by (exact (rfl : _ = some (Value.bool _)))) ?_)) | ((with_reducible refine is_call ?_); (refine At_len hF rfl ?_)) | ((with_reducible refine is_field ?_); (refine At_field hF rfl ?_)) | ((with_reducible refine is_load ?_); (refine At_load hF 0 (by exact rfl) rfl (by (exact (rfl : _ = some (Value.slice _ _ _)))) ?_)) | with_reducible refine At_nil ?_)) | ((with_reducible refine is_At ?_); (first | with_reducible refine At_seq ?_; intro K hK | with_reducible refine At_region ?_ | with_reducible refine At_then_n ?_ | with_reducible refine At_go (by assumption) ?_ | ((with_reducible refine is_cond ?_); (refine At_cond_t rfl ?_))))))
        rw [show (((q ++ [z]).length : Int) == 0) = false by rw [beq_eq_false_iff_ne, List.length_append]; simp; omega]
        have hlz : (q ++ [z]).length = q.length + 1 := by simp
        (repeat (first | ((with_reducible refine is_AL ?_); (first | ((with_reducible refine is_move ?_); (refine At_plain hF (by (exact (rfl : _ = some (Value.slice _ _ _)))) ?_)) | ((with_reducible refine is_bin ?_); ((with_reducible refine is_bsub ?_); (refine At_sub hF rfl rfl (by omega) ?_))) | ((with_reducible refine is_call ?_); (refine At_len hF rfl ?_)) | ((with_reducible refine is_field ?_); (refine At_field hF rfl ?_)) | ((with_reducible refine is_load ?_); (refine At_load hF 0 (by exact rfl) rfl (by (exact (rfl : _ = some (Value.slice _ _ _)))) ?_)))) | ((with_reducible refine is_At ?_); (first | with_reducible refine At_region ?_ | with_reducible refine At_skip ?_ | with_reducible refine At_then_n ?_ | with_reducible refine At_go (by assumption) ?_ | ((with_reducible refine is_cond ?_); (refine At_cond_f rfl ?_))))))
        rw [show ((q ++ [z]).length : Int) - 1 = (q.length : Int) by rw [hlz]; omega]
        refine AL.wit fun w1 hw1 => ?_
        obtain ⟨ad1, hA1, _, _⟩ := CP (hk'.at 4 rfl hw1).q q.length (by rw [hlz]; omega)
        clear hw1
        have hA1 : A' = some ad1 := hA1
        refine At_indexC hF (k := q.length) (A := A') (len := (q ++ [z]).length) (c := c') (by exact rfl) hA1 (by exact rfl) (by rw [hlz]; omega) ?_
        refine At_loadK (a := ad1.add (q.length * 3)) (vs := [.int .i64 z.f, .int .i64 z.t, .slice z.A z.l z.c]) hF (by exact rfl) (by exact rfl) (fun w' hw' j u hj => ?_) ?_
        · obtain ⟨ad2, h1, _, h2⟩ := CP (hk'.at 4 rfl hw').q q.length (by rw [hlz]; omega)
          have h1 : A' = some ad2 := h1
          rw [hA1] at h1
          cases h1
          have ez : (q ++ [z]).getD q.length zP = z := by simp
          rw [ez] at h2
          exact h2 j u hj
        refine At_sliceA_1 hF (by decide) rfl rfl ?_
        intro bs
        refine At_append_4 hF 0 rfl rfl rfl rfl (x0 := z) rfl (by decide) (by simp [Value.one1]) (by simp only [TS.bytes]; omega) (by omega) ?_
        intro R2 e2
        rw [show S.length + 1 = (S ++ [z]).length by simp]
        (repeat (first | ((with_reducible refine is_AL ?_); (first | ((with_reducible refine is_assign ?_); (refine At_plain hF (by (exact (rfl : _ = some (Value.slice _ _ _)))) ?_)) | with_reducible refine At_nil ?_)) | ((with_reducible refine is_At ?_); (first | with_reducible refine At_then_n ?_ | with_reducible refine At_inb_n ?_))))
        refine At.sub ?_ (hK' (((R2, e2), S ++ [z]), n) _ ⟨by simp only [List.length_append, List.length_singleton]; omega, by simp only; omega, fun x hx => ?_, han, fun x hx => ?_⟩ ?_)
        · (repeat (first | exact List.Sublist.refl _ | exact List.Sublist.slnil | refine List.Sublist.cons_cons _ ?_ | refine List.Sublist.cons _ ?_ | exact List.nil_sublist _))
        · rcases List.mem_append.1 hx with hx | hx
          · exact List.mem_append.2 (.inl (hqS x hx))
          · exact List.mem_append.2 (.inr hx)
        · rcases List.mem_append.1 hx with hx | hx
          · exact hS x hx
          · rw [List.mem_singleton.1 hx]; exact hk'.rd z (by simp)
        · (repeat (first | exact True.intro | (refine And.intro ?_ ?_; focus (show _ = (_ : Value); first | exact rfl | (refine Eq.trans (b := Value.int IntKind.i64 _) rfl (congrArg (Value.int IntKind.i64) ?_); omega)))))
      · subst m a'
        rw [show ((1 : Int) == 0) = false from rfl]
        (repeat (first | ((with_reducible refine is_AL ?_); (first | ((with_reducible refine is_bin ?_); (refine At_plain hF (by (exact (rfl : _ = some (Value.bool _)))) ?_)) | ((with_reducible refine is_assign ?_); (refine At_plain hF (by (exact (rfl : _ = some (Value.bool _)))) ?_)) | ((with_reducible refine is_load ?_); (refine At_loadB hF 1 rfl rfl rfl ?_)) | with_reducible refine At_nil ?_)) | ((with_reducible refine is_At ?_); (first | with_reducible refine At_seq ?_; intro K hK | with_reducible refine At_region ?_ | with_reducible refine At_then_n ?_ | with_reducible refine At_go (by assumption) ?_ | ((with_reducible refine is_cond ?_); (first | refine At_cond_t rfl ?_ | refine At_cond_f rfl ?_))))))
        rw [show ((1 : Int) == 1) = true from rfl]
        skip
        refine At_buildS hF (cs := #[.int .i64 0, .int .i64 0, .slice none 0 0]) (by exact rfl) (by exact rfl) ?_
        refine At_callM hF E19 rfl (Post := fun u Rs => (∃ b, u = .bool b ∧ (p = zP → b = true)) ∧ Rs = []) (arg2 (by (first | exact (rfl : _ = (Value.int _ _)) | exact (rfl : _ = (Value.bool _)) | exact (rfl : _ = (Value.pointer _)) | exact (rfl : _ = (Value.slice _ _ _)) | exact (rfl : _ = (Value.map _)) | exact (rfl : _ = (Value.func _ _ _)) | exact (rfl : _ = (Value.tuple _)) | exact (rfl : _ = (Value.agg _)) | exact (rfl : _ = (Value.string _)) | exact (rfl : _ = (Value.nilFunc)) | exact (rfl : _ = (Value.nilIface)))) (by (first | exact (rfl : _ = (Value.int _ _)) | exact (rfl : _ = (Value.bool _)) | exact (rfl : _ = (Value.pointer _)) | exact (rfl : _ = (Value.slice _ _ _)) | exact (rfl : _ = (Value.map _)) | exact (rfl : _ = (Value.func _ _ _)) | exact (rfl : _ = (Value.tuple _)) | exact (rfl : _ = (Value.agg _)) | exact (rfl : _ = (Value.string _)) | exact (rfl : _ = (Value.nilFunc)) | exact (rfl : _ = (Value.nilIface))))) (fun w' hw' => sameAny_rets p zP w' (hp'.at 4 rfl hw') (zP_rd w')) ?_
        rintro u Rs ⟨⟨b, rfl, hb⟩, rfl⟩
        simp only [List.nil_append]
        (repeat ((with_reducible refine is_AL ?_); ((with_reducible refine is_move ?_); (refine At_plain hF (by (exact (rfl : _ = some (Value.bool _)))) ?_))))
        refine At_guardP hF (t := 73) (b := b) (want := true) (v := .int .i64 n) (by exact rfl) (by decide) (by exact rfl) (fun e => by exact rfl) ?_
        refine At_guardP hF (t := 73) (b := b) (want := true) (v := .bool (decide ((n : Int) > 0))) (by exact rfl) (by decide) (by exact rfl) (fun e => by subst e; exact rfl) ?_
        refine At_plain hF (v := .bool (b && decide ((n : Int) > 0))) (by cases b <;> rfl) ?_
        obtain ⟨met, hmet, hmp⟩ : ∃ met, (b && decide ((n : Int) > 0)) = met ∧ (met = true ∨ p ∈ S) := by
          refine ⟨_, rfl, ?_⟩
          rcases hpq with ⟨h1, h2⟩ | h1
          · have := han h2
            rw [hb h1, decide_eq_true (by omega)]
            exact .inl rfl
          · exact .inr (hqS p h1)
        rw [hmet]
        clear hmet hb
        (repeat (first | ((with_reducible refine is_AL ?_); (first | ((with_reducible refine is_assign ?_); (refine At_plain hF (by (first | exact (rfl : _ = some (Value.int _ _)) | exact (rfl : _ = some (Value.bool _)))) ?_)) | with_reducible refine At_nil ?_)) | ((with_reducible refine is_At ?_); (first | with_reducible refine At_seq ?_; intro K hK | with_reducible refine At_block ?_ | with_reducible refine At_region ?_ | with_reducible refine At_then_n ?_ | with_reducible refine At_go (by assumption) ?_))))
        refine At_loop (fun st : Nat × Bool => [(0, .slice Al l.length cl), (3, .pointer (some ⟨b3, 0, none⟩)), (4, .slice (R.map fun b => ⟨b, 0, none⟩) S.length e), (5, .int .i64 n), (6, .int .i64 i), (7, .pointer (some ⟨b7, 0, none⟩)), (8, .pointer (some ⟨b8, 0, none⟩)), (10, .bool st.2), (11, .int .i64 st.1)])
          (fun _ => nH b7 A' c' B' d' q' a :: bx3 b8 p :: nH b3 A c B d q a :: rO R e S :: T') (fun st => st.1 ≤ S.length ∧ (st.2 = true ∨ ∃ j, st.1 ≤ j ∧ j < S.length ∧ S.getD j zP = p)) (fun st => S.length - st.1) (0, met) ?_ ?_ ⟨Nat.zero_le _, ?_⟩ ?_
        · (repeat (first | exact List.Sublist.refl _ | exact List.Sublist.slnil | refine List.Sublist.cons_cons _ ?_ | refine List.Sublist.cons _ ?_ | exact List.nil_sublist _))
        · (repeat (first | exact True.intro | (refine And.intro ?_ ?_; focus (show _ = (_ : Value); first | exact rfl | (refine Eq.trans (b := Value.int IntKind.i64 _) rfl (congrArg (Value.int IntKind.i64) ?_); omega)))))
        · rcases hmp with h1 | h1
          · exact .inl h1
          · obtain ⟨j, hj, ej⟩ := List.getElem_of_mem h1
            exact .inr ⟨j, Nat.zero_le _, hj, by rw [List.getD_eq_getElem?_getD, List.getElem?_eq_getElem hj, Option.getD_some, ej]⟩
        clear hmp
        rintro ⟨k, met⟩ ⟨hkS, hmet⟩ K2 hL2 ρ2
        simp only at hkS hmet
        try dsimp only
        by_cases hkl : k < S.length
        · refine At_rowSome 3 rfl (show 0 < S.length by omega) ?_
          rintro br rfl
          (repeat (first | ((with_reducible refine is_AL ?_); (first | ((with_reducible refine is_move ?_); (refine At_plain hF (by (first | exact (rfl : _ = some (Value.int _ _)) | exact (rfl : _ = some (Value.slice _ _ _)))) ?_)) | ((with_reducible refine is_bin ?_); (refine At_plain hF (by (exact (rfl : _ = some (Value.bool _)))) ?_)) | ((with_reducible refine is_call ?_); (refine At_len hF rfl ?_)) | with_reducible refine At_nil ?_)) | ((with_reducible refine is_At ?_); (first | with_reducible refine At_seq ?_; intro K hK | with_reducible refine At_region ?_ | with_reducible refine At_then_n ?_ | with_reducible refine At_go (by assumption) ?_))))
          rw [show decide ((k : Int) < S.length) = true from decide_eq_true (by omega)]
          cases met with
          | true =>
            (repeat ((with_reducible refine is_At ?_); (first | with_reducible refine At_seq ?_; intro K hK | with_reducible refine At_block ?_ | with_reducible refine At_skip ?_ | with_reducible refine At_then_n ?_ | with_reducible refine At_go (by assumption) ?_ | ((with_reducible refine is_cond ?_); (refine At_cond_t rfl ?_)))))
            refine At_draw hF 9 (by kernel_rfl) (by decide +kernel) ?_; simp only [List.take_succ_cons, List.take_zero, List.drop_succ_cons, List.drop_zero]; (repeat ((with_reducible refine is_AQc ?_); refine AQ_cons (by intro K Q hK; (repeat (first | ((with_reducible refine is_guarded ?_); (refine At_guard_f hF rfl (by decide) rfl rfl ?_)) | ((with_reducible refine is_move ?_); (refine At_plain hF (by (exact (rfl : _ = some (Value.bool _)))) ?_)) | ((with_reducible refine is_pick ?_); (refine At_plain hF (by (exact (rfl : _ = some (Value.bool _)))) ?_)))); exact At_nilK hK) ?_))
            (repeat ((with_reducible refine is_AQc ?_); refine AQ_cons (by intro K Q hK; skip; exact At_nilK hK) ?_)); refine AQ_done ?_
            (repeat (first | ((with_reducible refine is_AL ?_); (first | ((with_reducible refine is_move ?_); (refine At_plain hF (by (exact (rfl : _ = some (Value.int _ _)))) ?_)) | ((with_reducible refine is_bin ?_); ((with_reducible refine is_badd ?_); (refine At_add hF rfl rfl (by omega) ?_))) | ((with_reducible refine is_assign ?_); (refine At_plain hF (by (first | exact (rfl : _ = some (Value.int _ _)) | exact (rfl : _ = some (Value.bool _)))) ?_)) | with_reducible refine At_nil ?_)) | ((with_reducible refine is_At ?_); (first | with_reducible refine At_region ?_ | with_reducible refine At_then_n ?_ | with_reducible refine At_inb_n ?_ | with_reducible refine At_go (by assumption) ?_))))
            refine At.sub ?_ (hL2 (k + 1, true) _ ⟨hkl, .inl rfl⟩ (by simp only; omega) ?_)
            · (repeat (first | exact List.Sublist.refl _ | exact List.Sublist.slnil | refine List.Sublist.cons_cons _ ?_ | refine List.Sublist.cons _ ?_ | exact List.nil_sublist _))
            · (repeat (first | exact True.intro | (refine And.intro ?_ ?_; focus (show _ = (_ : Value); first | exact rfl | (refine Eq.trans (b := Value.int IntKind.i64 _) rfl (congrArg (Value.int IntKind.i64) ?_); omega)))))
          | false =>
            have hKx := hS _ (getD_mem' (d := zP) hkl)
            generalize hx : S.getD k zP = x at *
            (repeat ((with_reducible refine is_At ?_); (first | with_reducible refine At_seq ?_; intro K hK | with_reducible refine At_block ?_ | with_reducible refine At_skip ?_ | with_reducible refine At_then_n ?_ | with_reducible refine At_go (by assumption) ?_ | ((with_reducible refine is_cond ?_); (refine At_cond_t rfl ?_)))))
            refine At_drawE hF 9 [0, 1, 2, 3, 4, 5, 6] [] [7, 8] (bx3 b8 p :: rO (some br) e S :: []) (by kernel_rfl) (by decide +kernel) (by decide +kernel) ?_; simp only [List.drop_succ_cons, List.drop_zero]; (repeat ((with_reducible refine is_AQF ?_); first | refine AQF_early (by decide) (by exact (rfl : _ = some (Oper.mk _ _ _ _ _ _))) (by intro K Q hK; (repeat (first | ((with_reducible refine is_guarded ?_); (refine At_guard_t rfl (by decide) rfl ?_)) | ((with_reducible refine is_move ?_); (refine At_plain hF (by (first | exact (rfl : _ = some (Value.int _ _)) | exact (rfl : _ = some (Value.bool _)) | exact (rfl : _ = some (Value.slice _ _ _)))) ?_)) | ((with_reducible refine is_index ?_); (refine At_indexS hF rfl rfl (by omega) ?_)))); exact At_nilK hK) ?_ | refine AQF_late (by decide) (by exact (rfl : _ = some (Oper.mk _ _ _ _ _ _))) (by intro E K Q hK; simp only [List.cons_append, List.nil_append] at hK ⊢; (repeat (first | ((with_reducible refine is_guarded ?_); (refine At_guard_t rfl (by decide) rfl ?_)) | ((with_reducible refine is_move ?_); (refine At_plain hF (by (first | exact (rfl : _ = some (Value.int _ _)) | exact (rfl : _ = some (Value.bool _)) | exact (rfl : _ = some (Value.slice _ _ _)))) ?_)) | ((with_reducible refine is_index ?_); (refine At_indexS hF rfl rfl (by omega) ?_)))); exact At_nilK hK) ?_))
            refine AQF_late (by decide) (by exact (rfl : _ = some (Oper.mk _ _ _ _ _ _))) (by intro E K Q hK; simp only [List.cons_append, List.nil_append] at hK ⊢; refine At_guard_t rfl (by decide) rfl ?_; refine At_loadRow hF 1 (by exact rfl) rfl zP hkl rfl (v := .agg #[.int .i64 x.f, .int .i64 x.t, .slice x.A x.l x.c]) (by rw [hx]; rfl) ?_; exact At_nilK hK) ?_
            (repeat ((with_reducible refine is_AQF ?_); first | refine AQF_early (by decide) (by exact (rfl : _ = some (Oper.mk _ _ _ _ _ _))) (by intro K Q hK; (repeat (first | ((with_reducible refine is_guarded ?_); (refine At_guard_t rfl (by decide) rfl ?_)) | ((with_reducible refine is_load ?_); (refine At_loadB hF 0 rfl rfl rfl ?_)))); exact At_nilK hK) ?_ | refine AQF_late (by decide) (by exact (rfl : _ = some (Oper.mk _ _ _ _ _ _))) (by intro E K Q hK; simp only [List.cons_append, List.nil_append] at hK ⊢; (repeat (first | ((with_reducible refine is_guarded ?_); (refine At_guard_t rfl (by decide) rfl ?_)) | ((with_reducible refine is_load ?_); (refine At_loadB hF 0 rfl rfl rfl ?_)))); exact At_nilK hK) ?_))
            refine AQF_done ?_
            (refine WAt_cons ?_ (by exact (rfl : _ = some (Oper.mk _ _ _ _ _ _))) ?_; (focus (repeat (first | exact List.Sublist.refl _ | exact List.Sublist.slnil | refine List.Sublist.cons_cons _ ?_ | refine List.Sublist.cons _ ?_ | exact List.nil_sublist _))); intro K Q hK)
            refine At_guard_t rfl (by decide) rfl ?_
            refine At_callM hF E19 rfl (Post := fun u Rs => (∃ b, u = .bool b ∧ (x = p → b = true)) ∧ Rs = []) (arg2 (by (first | exact (rfl : _ = (Value.int _ _)) | exact (rfl : _ = (Value.bool _)) | exact (rfl : _ = (Value.pointer _)) | exact (rfl : _ = (Value.slice _ _ _)) | exact (rfl : _ = (Value.map _)) | exact (rfl : _ = (Value.func _ _ _)) | exact (rfl : _ = (Value.tuple _)) | exact (rfl : _ = (Value.agg _)) | exact (rfl : _ = (Value.string _)) | exact (rfl : _ = (Value.nilFunc)) | exact (rfl : _ = (Value.nilIface)))) (by (first | exact (rfl : _ = (Value.int _ _)) | exact (rfl : _ = (Value.bool _)) | exact (rfl : _ = (Value.pointer _)) | exact (rfl : _ = (Value.slice _ _ _)) | exact (rfl : _ = (Value.map _)) | exact (rfl : _ = (Value.func _ _ _)) | exact (rfl : _ = (Value.tuple _)) | exact (rfl : _ = (Value.agg _)) | exact (rfl : _ = (Value.string _)) | exact (rfl : _ = (Value.nilFunc)) | exact (rfl : _ = (Value.nilIface))))) (fun w' hw' => sameAny_rets x p w' (hKx.at 4 rfl hw') (hp'.at 4 rfl hw')) ?_
            rintro u Rs ⟨⟨b1, rfl, hb1⟩, rfl⟩
            simp only [List.nil_append]
            refine At_nilK (hK _ _ ?_)
            (refine WAt_cons ?_ (by exact (rfl : _ = some (Oper.mk _ _ _ _ _ _))) ?_; (focus (repeat (first | exact List.Sublist.refl _ | exact List.Sublist.slnil | refine List.Sublist.cons_cons _ ?_ | refine List.Sublist.cons _ ?_ | exact List.nil_sublist _))); intro K Q hK)
            (repeat (first | ((with_reducible refine is_AL ?_); (first | ((with_reducible refine is_pick ?_); (refine At_plain hF (by (exact (rfl : _ = some (Value.bool _)))) ?_)) | with_reducible refine At_nil ?_)) | ((with_reducible refine is_At ?_); (with_reducible refine At_then_n ?_))))
            refine hK _ _ ?_
            (refine WAt_nil ?_ ?_; (focus (repeat (first | exact List.Sublist.refl _ | exact List.Sublist.slnil | refine List.Sublist.cons_cons _ ?_ | refine List.Sublist.cons _ ?_ | exact List.nil_sublist _))))
            (repeat (first | ((with_reducible refine is_AL ?_); (first | ((with_reducible refine is_move ?_); (refine At_plain hF (by (exact (rfl : _ = some (Value.int _ _)))) ?_)) | ((with_reducible refine is_bin ?_); ((with_reducible refine is_badd ?_); (refine At_add hF rfl rfl (by omega) ?_))) | ((with_reducible refine is_assign ?_); (refine At_plain hF (by (first | exact (rfl : _ = some (Value.int _ _)) | exact (rfl : _ = some (Value.bool _)))) ?_)) | with_reducible refine At_nil ?_)) | ((with_reducible refine is_At ?_); (first | with_reducible refine At_region ?_ | with_reducible refine At_then_n ?_ | with_reducible refine At_inb_n ?_ | with_reducible refine At_go (by assumption) ?_))))
            refine At.sub ?_ (hL2 (k + 1, b1) _ ⟨hkl, ?_⟩ (by simp only; omega) ?_)
            · (repeat (first | exact List.Sublist.refl _ | exact List.Sublist.slnil | refine List.Sublist.cons_cons _ ?_ | refine List.Sublist.cons _ ?_ | exact List.nil_sublist _))
            · rcases hmet with h1 | ⟨j, h1, h2, h3⟩
              · cases h1
              · by_cases ej : j = k
                · subst ej
                  exact .inl (hb1 (by rw [← hx]; exact h3))
                · exact .inr ⟨j, by simp only; omega, h2, h3⟩
            · (repeat (first | exact True.intro | (refine And.intro ?_ ?_; focus (show _ = (_ : Value); first | exact rfl | (refine Eq.trans (b := Value.int IntKind.i64 _) rfl (congrArg (Value.int IntKind.i64) ?_); omega)))))
        · have hmt : met = true := by
            rcases hmet with h1 | ⟨j, h1, h2, h3⟩
            · exact h1
            · omega
          subst hmt
          (repeat (first | ((with_reducible refine is_AL ?_); (first | ((with_reducible refine is_move ?_); (refine At_plain hF (by (first | exact (rfl : _ = some (Value.int _ _)) | exact (rfl : _ = some (Value.slice _ _ _)))) ?_)) | ((with_reducible refine is_bin ?_); (refine At_plain hF (by (exact (rfl : _ = some (Value.bool _)))) ?_)) | ((with_reducible refine is_call ?_); (refine At_len hF rfl ?_)) | with_reducible refine At_nil ?_)) | ((with_reducible refine is_At ?_); (first | with_reducible refine At_seq ?_; intro K hK | with_reducible refine At_region ?_ | with_reducible refine At_then_n ?_ | with_reducible refine At_go (by assumption) ?_))))
          rw [show decide ((k : Int) < S.length) = false from decide_eq_false (by omega)]
          (repeat (first | ((with_reducible refine is_AL ?_); (first | ((with_reducible refine is_move ?_); (refine At_plain hF (by (exact (rfl : _ = some (Value.bool _)))) ?_)) | ((with_reducible refine is_un ?_); (refine At_plain hF (by (exact (rfl : _ = some (Value.bool _)))) ?_)) | with_reducible refine At_nil ?_)) | ((with_reducible refine is_At ?_); (first | with_reducible refine At_seq ?_; intro K hK | with_reducible refine At_region ?_ | with_reducible refine At_skip ?_ | with_reducible refine At_exit ?_ | with_reducible refine At_then_n ?_ | with_reducible refine At_then_e ?_ | with_reducible refine At_inb_n ?_ | with_reducible refine At_inb_e rfl ?_ | with_reducible refine At_go (by assumption) ?_ | ((with_reducible refine is_cond ?_); (refine At_cond_f rfl ?_))))))
          refine At.sub ?_ (hK' (((R, e), S), n) _ ⟨by simp only; omega, by simp only; omega, fun x hx => hqS x (hsub x hx), han, hS⟩ ?_)
          · (repeat (first | exact List.Sublist.refl _ | exact List.Sublist.slnil | refine List.Sublist.cons_cons _ ?_ | refine List.Sublist.cons _ ?_ | exact List.nil_sublist _))
          · (repeat (first | exact True.intro | (refine And.intro ?_ ?_; focus (show _ = (_ : Value); first | exact rfl | (refine Eq.trans (b := Value.int IntKind.i64 _) rfl (congrArg (Value.int IntKind.i64) ?_); omega)))))
      · subst a'
        rw [show (m == 0) = false by rw [beq_eq_false_iff_ne]; omega]
        (repeat (first | ((with_reducible refine is_AL ?_); (first | ((with_reducible refine is_bin ?_); (refine At_plain hF (by (exact (rfl : _ = some (Value.bool _)))) ?_)) | ((with_reducible refine is_assign ?_); (refine At_plain hF (by (exact (rfl : _ = some (Value.bool _)))) ?_)) | with_reducible refine At_nil ?_)) | ((with_reducible refine is_At ?_); (first | with_reducible refine At_seq ?_; intro K hK | with_reducible refine At_region ?_ | with_reducible refine At_then_n ?_ | with_reducible refine At_go (by assumption) ?_ | ((with_reducible refine is_cond ?_); (refine At_cond_f rfl ?_))))))
        rw [show (m == 1) = false by rw [beq_eq_false_iff_ne]; omega]
        (repeat (first | ((with_reducible refine is_AL ?_); (first | ((with_reducible refine is_bin ?_); (refine At_plain hF (by (exact (rfl : _ = some (Value.bool _)))) ?_)) | ((with_reducible refine is_assign ?_); (refine At_plain hF (by (exact (rfl : _ = some (Value.bool _)))) ?_)) | with_reducible refine At_nil ?_)) | ((with_reducible refine is_At ?_); (first | with_reducible refine At_seq ?_; intro K hK | with_reducible refine At_region ?_ | with_reducible refine At_then_n ?_ | with_reducible refine At_go (by assumption) ?_ | ((with_reducible refine is_cond ?_); (refine At_cond_f rfl ?_))))))
        rw [show (m == 4) = false by rw [beq_eq_false_iff_ne]; omega]
        (repeat ((with_reducible refine is_At ?_); (first | with_reducible refine At_skip ?_ | with_reducible refine At_then_n ?_ | with_reducible refine At_inb_n ?_ | ((with_reducible refine is_cond ?_); (refine At_cond_f rfl ?_)))))
        refine At.sub ?_ (hK' (((R, e), S), n) _ ⟨by simp only; omega, by simp only; omega, fun x hx => hqS x (hsub x hx), han, hS⟩ ?_)
        · (repeat (first | exact List.Sublist.refl _ | exact List.Sublist.slnil | refine List.Sublist.cons_cons _ ?_ | refine List.Sublist.cons _ ?_ | exact List.nil_sublist _))
        · (repeat (first | exact True.intro | (refine And.intro ?_ ?_; focus (show _ = (_ : Value); first | exact rfl | (refine Eq.trans (b := Value.int IntKind.i64 _) rfl (congrArg (Value.int IntKind.i64) ?_); omega)))))
      · subst m q'
        rw [show ((4 : Int) == 0) = false from rfl]
        (repeat (first | ((with_reducible refine is_AL ?_); (first | ((with_reducible refine is_move ?_); (refine At_plain hF (by (exact (rfl : _ = some (Value.int _ _)))) ?_)) | ((with_reducible refine is_bin ?_); (first | ((with_reducible refine is_badd ?_); (refine At_add hF rfl rfl (by omega) ?_)) | refine At_plain hF (by (exact (rfl : _ = some (Value.bool _)))) ?_)) | ((with_reducible refine is_assign ?_); (refine At_plain hF (by (first | exact (rfl : _ = some (Value.int _ _)) | exact (rfl : _ = some (Value.bool _)))) ?_)) | with_reducible refine At_nil ?_)) | ((with_reducible refine is_At ?_); (first | with_reducible refine At_seq ?_; intro K hK | with_reducible refine At_region ?_ | with_reducible refine At_then_n ?_ | with_reducible refine At_inb_n ?_ | with_reducible refine At_go (by assumption) ?_ | ((with_reducible refine is_cond ?_); (first | refine At_cond_t rfl ?_ | refine At_cond_f rfl ?_))))))
        rw [show ((4 : Int) == 1) = false from rfl]
        skip
        rw [show ((4 : Int) == 4) = true from rfl]
        skip
        refine At.sub ?_ (hK' (((R, e), S), n + 1) _ ⟨by simp only; omega, by simp only; omega, hqS, fun _ => Nat.succ_pos _, hS⟩ ?_)
        · (repeat (first | exact List.Sublist.refl _ | exact List.Sublist.slnil | refine List.Sublist.cons_cons _ ?_ | refine List.Sublist.cons _ ?_ | exact List.nil_sublist _))
        · (repeat (first | exact True.intro | (refine And.intro ?_ ?_; focus (show _ = (_ : Value); first | exact rfl | (refine Eq.trans (b := Value.int IntKind.i64 _) rfl (congrArg (Value.int IntKind.i64) ?_); omega)))))
      · subst m q'
        rw [show ((5 : Int) == 0) = false from rfl]
        (repeat (first | ((with_reducible refine is_AL ?_); (first | ((with_reducible refine is_bin ?_); (refine At_plain hF (by (exact (rfl : _ = some (Value.bool _)))) ?_)) | ((with_reducible refine is_assign ?_); (refine At_plain hF (by (exact (rfl : _ = some (Value.bool _)))) ?_)) | with_reducible refine At_nil ?_)) | ((with_reducible refine is_At ?_); (first | with_reducible refine At_seq ?_; intro K hK | with_reducible refine At_region ?_ | with_reducible refine At_skip ?_ | with_reducible refine At_then_n ?_ | with_reducible refine At_inb_n ?_ | with_reducible refine At_go (by assumption) ?_ | ((with_reducible refine is_cond ?_); (refine At_cond_f rfl ?_))))))
        rw [show ((5 : Int) == 1) = false from rfl]
        skip
        rw [show ((5 : Int) == 4) = false from rfl]
        skip
        refine At.sub ?_ (hK' (((R, e), S), n) _ ⟨by simp only; omega, by simp only; omega, hqS, fun h => han (fun h2 => h (hnil h2)), hS⟩ ?_)
        · (repeat (first | exact List.Sublist.refl _ | exact List.Sublist.slnil | refine List.Sublist.cons_cons _ ?_ | refine List.Sublist.cons _ ?_ | exact List.nil_sublist _))
        · (repeat (first | exact True.intro | (refine And.intro ?_ ?_; focus (show _ = (_ : Value); first | exact rfl | (refine Eq.trans (b := Value.int IntKind.i64 _) rfl (congrArg (Value.int IntKind.i64) ?_); omega)))))
    rintro ⟨⟨⟨R2, e2⟩, S2⟩, n2⟩ ρ3 ⟨h1, h2, h3, h4, h5⟩
    dsimp only at h1 h2 h3 h4 h5 ⊢
    refine At_go (by assumption) ?_
    (repeat (first | ((with_reducible refine is_AL ?_); (first | ((with_reducible refine is_load ?_); (first | refine At_loadB hF 0 rfl rfl rfl ?_ | refine At_loadB hF 1 rfl rfl rfl ?_)) | ((with_reducible refine is_store ?_); (refine At_storeB_1 hF rfl rfl rfl rfl (by simp [Value.one1, epair]) ?_)) | with_reducible refine At_nil ?_)) | ((with_reducible refine is_At ?_); (first | with_reducible refine At_seq ?_; intro K hK | with_reducible refine At_region ?_ | with_reducible refine At_then_n ?_ | with_reducible refine At_go (by assumption) ?_))))
    refine At_callB hF E13 rfl (arg1 (by (first | exact (rfl : _ = (Value.int _ _)) | exact (rfl : _ = (Value.bool _)) | exact (rfl : _ = (Value.pointer _)) | exact (rfl : _ = (Value.slice _ _ _)) | exact (rfl : _ = (Value.map _)) | exact (rfl : _ = (Value.func _ _ _)) | exact (rfl : _ = (Value.tuple _)) | exact (rfl : _ = (Value.agg _)) | exact (rfl : _ = (Value.string _)) | exact (rfl : _ = (Value.nilFunc)) | exact (rfl : _ = (Value.nilIface))))) (fun w' hw' => check_rets ⟨A', c', B', d', q', a'⟩ w' (hk'.at 3 rfl hw')) ?_
    rw [show chkN (⟨A', c', B', d', q', a'⟩ : NET).q (⟨A', c', B', d', q', a'⟩ : NET).a = 0 from if_pos hok']
    (repeat (first | ((with_reducible refine is_AL ?_); (first | ((with_reducible refine is_move ?_); (refine At_plain hF (by (exact (rfl : _ = some (Value.int _ _)))) ?_)) | ((with_reducible refine is_bin ?_); (first | ((with_reducible refine is_badd ?_); (refine At_add hF rfl rfl (by omega) ?_)) | refine At_plain hF (by (exact (rfl : _ = some (Value.bool _)))) ?_)) | ((with_reducible refine is_assign ?_); (refine At_plain hF (by (exact (rfl : _ = some (Value.int _ _)))) ?_)) | with_reducible refine At_nil ?_)) | ((with_reducible refine is_At ?_); (first | with_reducible refine At_region ?_ | with_reducible refine At_skip ?_ | with_reducible refine At_then_n ?_ | with_reducible refine At_inb_n ?_ | with_reducible refine At_go (by assumption) ?_ | ((with_reducible refine is_cond ?_); (refine At_cond_f rfl ?_))))))
    refine At.sub ?_ (hL ⟨i + 1, A', c', B', d', R2, e2, q', a', S2, n2⟩ T' _ ⟨hil, h1, h2, hok', h3, h4, hk', h5⟩ (by simp only; omega) ?_)
    · (repeat (first | exact List.Sublist.refl _ | exact List.Sublist.slnil | refine List.Sublist.cons_cons _ ?_ | refine List.Sublist.cons _ ?_ | exact List.nil_sublist _))
    · (repeat (first | exact True.intro | (refine And.intro ?_ ?_; focus (show _ = (_ : Value); first | exact rfl | (refine Eq.trans (b := Value.int IntKind.i64 _) rfl (congrArg (Value.int IntKind.i64) ?_); omega)))))
  · (repeat (first | ((with_reducible refine is_AL ?_); (first | ((with_reducible refine is_assign ?_); (refine At_plain hF (by (exact (rfl : _ = some (Value.bool _)))) ?_)) | with_reducible refine At_nil ?_)) | ((with_reducible refine is_At ?_); (first | with_reducible refine At_seq ?_; intro K hK | with_reducible refine At_region ?_ | with_reducible refine At_ret ?_ | with_reducible refine At_exit ?_ | with_reducible refine At_then_n ?_ | with_reducible refine At_then_e ?_ | with_reducible refine At_inb_e rfl ?_ | with_reducible refine At_go (by assumption) ?_))))
    exact At_ret1 rfl (rv_tmp (by decide)) (fun w' hw' => ⟨_, rfl, rfl, hw'.below⟩)
theorem law_NetworkOnlySent.calls (Al : Option Addr) (cl : Nat) (l : List MOV) (w : World) (hl : Kd.C kM w Al l.length l) : Calls Try.prog 7 #[.slice Al l.length cl] w fun e w' => e = .returned (.bool true) ∧ Below w.heap.size w w' :=
  (only_rets Al cl l w hl).mono (by rintro e w' ⟨u, rfl, rfl, hb⟩; exact ⟨rfl, hb⟩)
end Go.Proofs.Ytmilnlcegcdolaa.P
