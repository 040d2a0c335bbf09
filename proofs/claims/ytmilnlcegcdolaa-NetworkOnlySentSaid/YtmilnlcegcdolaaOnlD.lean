/- The region in which a move is made: each operation keeps the invariant. -/
import Derived.Test.YtmilnlcegcdolaaOnlP
namespace Go.Proofs.Ytmilnlcegcdolaa.P
open Go.RowKit Go.Proofs.YtmilnlcegcdolaaW.PrintWords
open XW RegInv
attribute [local irreducible] Addr.add
set_option linter.unusedSimpArgs false
set_option linter.unusedVariables false
set_option linter.unusedSectionVars false

/-- the operations of the region leave alone what is told -/
def Keeps (L : List (Nat × Value)) : Prop := ∀ (ρ : Nat → Value) (v : Value), AllAt ρ L → AllAt (upd ρ 30 v) L ∧ AllAt (upd ρ 24 v) L ∧ AllAt (upd ρ 31 v) L ∧ AllAt (upd ρ 32 v) L ∧ AllAt (upd ρ 33 v) L ∧ AllAt (upd ρ 7 v) L ∧ AllAt (upd ρ 8 v) L
section
variable {F : Fence} {ds : List Deferred} {w : World} {ops : Array Oper} {m : Int} {q : List PKT} {a : List (Int × Int)} {T Bx : List Res} {L : List (Nat × Value)} {done : List Nat} {ρ : Nat → Value} {R : List Res} {s : HS} {b7 b8 : Option Nat} {K : (Nat → Value) → List Deferred → World → Prop} {Q' : XW.Post} {ty : TypeId} {ats : Array TypeId} {pos : String} {af : Array Edge}
variable (hF : Wide F) (h : OI w m q a T Bx L done ρ R s b7 b8) (hL : Keeps L)
include hF h hL
theorem OI.s5 (ha : F.alive = false) (hd : done.contains 5 = false) (N : NET) (mv : MOV) (hm : mv.k % 6 = m) (hq : N.q = q) (haa : N.a = a) (hN : Kn w T N) (hok : okN N.q N.a) (hb : mv.bd) (h25 : ρ 25 = N.v) (h29 : ρ 29 = .agg #[.int .u8 mv.k, .int .u8 mv.a, .int .u8 mv.x, .int .u8 mv.y, .int .u8 mv.d])
    (hK : ∀ ρ' R', (∃ s b7 b8, OI w m q a T Bx L (5 :: done) ρ' R' s b7 b8) → At w R' (K ρ' ds)) :
    AL F Try.prog 102 (Then K Q') ops [⟨some 30, .call { callee := .value (.func 27), args := #[.tmp 25, .tmp 29], argTypes := ats }, ty, pos, af, none⟩] ρ ds w R := by
  obtain ⟨hRs, h12, h13, h6, h7, h8, h9⟩ := h.n5 hd
  have hsub : T.Sublist R := by
    rw [h.hR, hRs]
    exact (List.sublist_append_right _ _).trans ((List.sublist_append_right _ _).trans (List.sublist_append_right _ _))
  refine At_callM hF E27 ha (Post := hapRes N (mv.k % 6)) (arg2 (v0 := N.v) (v1 := .agg #[.int .u8 mv.k, .int .u8 mv.a, .int .u8 mv.x, .int .u8 mv.y, .int .u8 mv.d]) h25 h29) (fun w' hw' => hap_rets N mv.k mv.a mv.x mv.y mv.d hb.1 hb.2.1 hb.2.2.1 hb.2.2.2 hok w' (hN w' (hw'.sub hsub))) ?_
  rintro u Rs ⟨A', c', B', d', q', a', p', e', rfl, hh, htr⟩
  obtain ⟨hk, hp⟩ := htr w T hN
  rw [hm, hq, haa] at hh
  refine At_nilK (At.perm (R' := box7 false s b7 ++ (box8 false s b8 ++ (Bx ++ (Rs ++ T)))) ?_ (hK _ _ ⟨⟨A', c', B', d', q', a', p', e', Rs ++ T⟩, b7, b8, ?_⟩))
  · rw [h.hR, h12, h13, hRs]
    exact perm5 _ _ _ _ _
  · refine ⟨(hL ρ _ h.fr).1, ?_, fun h0 => absurd h0 (by simp), fun _ => ⟨⟨List.sublist_append_right _ _, hh, hk, hp⟩, rfl⟩, fun h0 => ?_, fun h0 => ?_, fun h0 => ?_, fun h0 => ?_, h.c10, h.n10, h.c11, h.n11⟩
    · show _ = box7 (done.contains 12) _ b7 ++ (box8 (done.contains 13) _ b8 ++ _)
      rw [h12, h13]
      cases b7 <;> cases b8 <;> rfl
    · exact absurd h0 (by show ¬ done.contains 6 = true; rw [h6]; simp)
    · exact absurd h0 (by show ¬ done.contains 7 = true; rw [h7]; simp)
    · exact absurd h0 (by show ¬ done.contains 8 = true; rw [h8]; simp)
    · exact absurd h0 (by show ¬ done.contains 9 = true; rw [h9]; simp)
theorem OI.s6 (h5 : done.contains 5 = true) (hK : ∀ ρ' R', (∃ s b7 b8, OI w m q a T Bx L (6 :: done) ρ' R' s b7 b8) → At w R' (K ρ' ds)) :
    AL F Try.prog 102 (Then K Q') ops [⟨some 24, .move (.tmp 30), ty, pos, af, none⟩] ρ ds w R := by
  refine At_plain hF (v := s.tup) (by show some (ρ 30) = _; rw [(h.c5 h5).2]) (At_nilK (hK _ _ ⟨s, b7, b8, ?_⟩))
  exact ⟨(hL ρ _ h.fr).2.1, h.hR, fun h0 => absurd h5 (by rw [show done.contains 5 = false from h0]; simp), h.c5, fun _ => rfl, h.c7, h.c8, h.c9, h.c10, h.n10, h.c11, h.n11⟩
theorem OI.s7 (h5 : done.contains 5 = true) (h6 : done.contains 6 = true) (hK : ∀ ρ' R', (∃ s b7 b8, OI w m q a T Bx L (7 :: done) ρ' R' s b7 b8) → At w R' (K ρ' ds)) :
    AL F Try.prog 102 (Then K Q') ops [⟨some 31, .extract (.tmp 24) 0, ty, pos, af, none⟩] ρ ds w R := by
  refine At_plain hF (v := s.net) (by simp only [plain]; rw [show xv 102 ρ (.tmp 24) = s.tup from h.c6 h6]; rfl) (At_nilK (hK _ _ ⟨s, b7, b8, ?_⟩))
  exact ⟨(hL ρ _ h.fr).2.2.1, h.hR, fun h0 => absurd h5 (by rw [show done.contains 5 = false from h0]; simp), h.c5, h.c6, fun _ => rfl, h.c8, h.c9, h.c10, h.n10, h.c11, h.n11⟩
theorem OI.s8 (h5 : done.contains 5 = true) (h6 : done.contains 6 = true) (hK : ∀ ρ' R', (∃ s b7 b8, OI w m q a T Bx L (8 :: done) ρ' R' s b7 b8) → At w R' (K ρ' ds)) :
    AL F Try.prog 102 (Then K Q') ops [⟨some 32, .extract (.tmp 24) 1, ty, pos, af, none⟩] ρ ds w R := by
  refine At_plain hF (v := s.pk) (by simp only [plain]; rw [show xv 102 ρ (.tmp 24) = s.tup from h.c6 h6]; rfl) (At_nilK (hK _ _ ⟨s, b7, b8, ?_⟩))
  exact ⟨(hL ρ _ h.fr).2.2.2.1, h.hR, fun h0 => absurd h5 (by rw [show done.contains 5 = false from h0]; simp), h.c5, h.c6, h.c7, fun _ => rfl, h.c9, h.c10, h.n10, h.c11, h.n11⟩
theorem OI.s9 (h5 : done.contains 5 = true) (h6 : done.contains 6 = true) (hK : ∀ ρ' R', (∃ s b7 b8, OI w m q a T Bx L (9 :: done) ρ' R' s b7 b8) → At w R' (K ρ' ds)) :
    AL F Try.prog 102 (Then K Q') ops [⟨some 33, .extract (.tmp 24) 2, ty, pos, af, none⟩] ρ ds w R := by
  refine At_plain hF (v := .int .i64 s.e) (by simp only [plain]; rw [show xv 102 ρ (.tmp 24) = s.tup from h.c6 h6]; rfl) (At_nilK (hK _ _ ⟨s, b7, b8, ?_⟩))
  exact ⟨(hL ρ _ h.fr).2.2.2.2.1, h.hR, fun h0 => absurd h5 (by rw [show done.contains 5 = false from h0]; simp), h.c5, h.c6, h.c7, h.c8, fun _ => rfl, h.c10, h.n10, h.c11, h.n11⟩
theorem OI.s10 (hd : done.contains 10 = false) (hK : ∀ ρ' R', (∃ s b7 b8, OI w m q a T Bx L (10 :: done) ρ' R' s b7 b8) → At w R' (K ρ' ds)) :
    AL F Try.prog 102 (Then K Q') ops [⟨some 7, .alloc 25, ty, pos, af, none⟩] ρ ds w R := by
  obtain ⟨rfl, h12⟩ := h.n10 hd
  refine At_alloc hF (cs := #[.slice none 0 0, .slice none 0 0]) (by exact rfl) ?_
  intro b
  refine At_nilK (hK _ _ ⟨s, some b, b8, ?_⟩)
  refine ⟨(hL ρ _ h.fr).2.2.2.2.2.1, ?_, h.n5, h.c5, h.c6, h.c7, h.c8, h.c9, fun _ => ⟨b, rfl, rfl⟩, fun h0 => absurd h0 (by simp), h.c11, h.n11⟩
  show _ = box7 (done.contains 12) s (some b) ++ (box8 (done.contains 13) s b8 ++ _)
  rw [h12, h.hR, h12]; rfl
theorem OI.s11 (hd : done.contains 11 = false) (hK : ∀ ρ' R', (∃ s b7 b8, OI w m q a T Bx L (11 :: done) ρ' R' s b7 b8) → At w R' (K ρ' ds)) :
    AL F Try.prog 102 (Then K Q') ops [⟨some 8, .alloc 28, ty, pos, af, none⟩] ρ ds w R := by
  obtain ⟨rfl, h13⟩ := h.n11 hd
  refine At_alloc hF (cs := #[.int .i64 0, .int .i64 0, .slice none 0 0]) (by exact rfl) ?_
  intro b
  refine At_nilK (At.perm (R' := box7 (done.contains 12) s b7 ++ (.obj b (.cells #[.int .i64 0, .int .i64 0, .slice none 0 0] 28) :: (Bx ++ s.Rs))) ?_ (hK _ _ ⟨s, b7, some b, ?_⟩))
  · rw [h.hR]
    exact List.perm_middle
  · refine ⟨(hL ρ _ h.fr).2.2.2.2.2.2, ?_, h.n5, h.c5, h.c6, h.c7, h.c8, h.c9, h.c10, h.n10, fun _ => ⟨b, rfl, rfl⟩, fun h0 => absurd h0 (by simp)⟩
    show _ = box7 (done.contains 12) s b7 ++ (box8 (done.contains 13) s (some b) ++ _)
    rw [h13]; rfl
theorem OI.s12 (hd : done.contains 12 = false) (h5 : done.contains 5 = true) (h7 : done.contains 7 = true) (h10 : done.contains 10 = true) (hK : ∀ ρ' R', (∃ s b7 b8, OI w m q a T Bx L (12 :: done) ρ' R' s b7 b8) → At w R' (K ρ' ds)) :
    AL F Try.prog 102 (Then K Q') ops [⟨none, .store 25 (.tmp 7) (.tmp 31), ty, pos, af, none⟩] ρ ds w R := by
  obtain ⟨b, rfl, hb⟩ := h.c10 h10
  have hR := h.hR
  rw [hd] at hR
  refine At_storeB hF 0 (b := b) (cs := #[.slice none 0 0, .slice none 0 0]) (t1 := 25) (show ρ 7 = _ from hb) (show ρ 31 = _ from h.c7 h7) (by rw [hR]; rfl) rfl rfl (by simp [Value.one1]) ?_
  refine At_nilK (hK _ _ ⟨s, some b, b8, ?_⟩)
  refine ⟨h.fr, ?_, fun h0 => absurd h5 (by rw [show done.contains 5 = false from h0]; simp), h.c5, h.c6, h.c7, h.c8, h.c9, h.c10, fun h0 => absurd h10 (by rw [show done.contains 10 = false from h0]; simp), h.c11, h.n11⟩
  show _ = box7 true s (some b) ++ (box8 (done.contains 13) s b8 ++ _)
  rw [hR]; rfl
theorem OI.s13 (hd : done.contains 13 = false) (h5 : done.contains 5 = true) (h8 : done.contains 8 = true) (h10 : done.contains 10 = true) (h11 : done.contains 11 = true) (hK : ∀ ρ' R', (∃ s b7 b8, OI w m q a T Bx L (13 :: done) ρ' R' s b7 b8) → At w R' (K ρ' ds)) :
    AL F Try.prog 102 (Then K Q') ops [⟨none, .store 28 (.tmp 8) (.tmp 32), ty, pos, af, none⟩] ρ ds w R := by
  obtain ⟨b, rfl, hb⟩ := h.c11 h11
  obtain ⟨b', rfl, _⟩ := h.c10 h10
  have hR := h.hR
  rw [hd] at hR
  refine At_storeB hF 1 (b := b) (cs := #[.int .i64 0, .int .i64 0, .slice none 0 0]) (t1 := 28) (show ρ 8 = _ from hb) (show ρ 32 = _ from h.c8 h8) (by rw [hR]; rfl) rfl rfl (by simp [Value.one1]) ?_
  refine At_nilK (hK _ _ ⟨s, some b', some b, ?_⟩)
  refine ⟨h.fr, ?_, fun h0 => absurd h5 (by rw [show done.contains 5 = false from h0]; simp), h.c5, h.c6, h.c7, h.c8, h.c9, h.c10, h.n10, h.c11, fun h0 => absurd h11 (by rw [show done.contains 11 = false from h0]; simp)⟩
  show _ = box7 (done.contains 12) s (some b') ++ (box8 true s (some b) ++ _)
  rw [hR]; rfl
end
end Go.Proofs.Ytmilnlcegcdolaa.P
