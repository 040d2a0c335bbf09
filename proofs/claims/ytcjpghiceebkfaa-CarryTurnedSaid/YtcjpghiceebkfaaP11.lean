-- written by wip/tools/gprint.py, a driver of this session's over the kit's print, out of the translation: Lean checks it.
import Derived.Test.YtcjpghiceebkfaaP0
import Derived.Test.YtcjpghiceebkfaaP2
import Derived.Test.YtcjpghiceebkfaaP3
import Derived.Test.YtcjpghiceebkfaaP7
import Derived.Test.YtcjpghiceebkfaaGMat
namespace Go.Proofs.Ytcjpghiceebkfaa.P
open Go.RowKit Go.Proofs.YtcjpghiceebkfaaW.PrintWords Go.Proofs.YtcjpghiceebkfaaW.PrintLast Go.Proofs.YtcjpghiceebkfaaW.PrintMore
attribute [local go_sem] max2_int min2_int max_two min_two max_three min_three max_four min_four   -- for this text's walks alone
set_option linter.unusedVariables false
set_option linter.unusedSimpArgs false

/-! ### fastilaw22_CarryTurned: function 7 -/
mutual
def fastilaw22_CarryTurned.j0 : Nat → Int → List (S45) → Int → Bool → Option (Bool)
  | 0, _, _, _, _ => none
  | k + 1, x0, x1, x2, x35 => if x35 = true then (some true) else ((fastiref22_Rounds.f k x1).bind fun t326 => (if 0 ≤ t326 then (if (t326 : Int).toNat ≤ 281474976710656 then (fastilaw22_CarryTurned.l0 k x0 x1 x2 t326 (List.replicate (t326 : Int).toNat false) ([] : List (S45)) ([] : List (S45)) x1 (x1.length : Int) 0) else (none)) else (none)))
def fastilaw22_CarryTurned.l0 : Nat → Int → List (S45) → Int → Int → List Bool → List (S45) → List (S45) → List (S45) → Int → Int → Option (Bool)
  | 0, _, _, _, _, _, _, _, _, _, _ => none
  | k + 1, x0, x1, x2, x7, x8, x9, x10, x40, x41, x42 => if x42 < x41 then (if 0 ≤ x42 then (if x42 < (x40.length : Int) then (if 0 ≤ ((rd_T45 x40 x42).f0) then (if ((rd_T45 x40 x42).f0) < (x8.length : Int) then (if x7 = 0 then (none) else (if x9.length < 5864062014805 then (if x10.length < 5864062014805 then (fastilaw22_CarryTurned.l0 k x0 x1 x2 x7 (x8.set (((rd_T45 x40 x42).f0) : Int).toNat true) (x9 ++ [(⟨Int.tmod (wrap64 (((rd_T45 x40 x42).f0) + (wrap64 (x2)))) x7, (rd_T45 x40 x42).f1, (rd_T45 x40 x42).f2⟩ : S45)]) (x10 ++ [(⟨wrap64 ((wrap64 (x7 - 1)) - ((rd_T45 x40 x42).f0)), (rd_T45 x40 x42).f1, (rd_T45 x40 x42).f2⟩ : S45)]) x40 x41 (wrap64 (x42 + 1))) else (none)) else (none))) else (none)) else (none)) else (none)) else (none)) else (fastilaw22_CarryTurned.l1 k x0 x1 x9 x10 x8 (x8.length : Int) 0)
def fastilaw22_CarryTurned.l1 : Nat → Int → List (S45) → List (S45) → List (S45) → List Bool → Int → Int → Option (Bool)
  | 0, _, _, _, _, _, _, _ => none
  | k + 1, x0, x1, x9, x10, x74, x75, x76 => if x76 < x75 then (if 0 ≤ x76 then (if x76 < (x74.length : Int) then (if rdOf false x74 x76 = true then (fastilaw22_CarryTurned.l1 k x0 x1 x9 x10 x74 x75 (wrap64 (x76 + 1))) else (some true)) else (none)) else (none)) else ((carry_Matrix.f x0 x1).bind fun bt341 => ((carry_Matrix.f x0 x9).bind fun bt345 => ((carry_Matrix.f x0 x10).bind fun bt349 => (if bt341.2 = 0 then (if bt345.2 = 0 then (if bt349.2 = 0 then (if (bt341.1.length : Int) = x0 then (if (bt349.1.length : Int) = x0 then ((fastiref22_SameAll.f k bt341.1 bt345.1).bind fun t353 => (fastilaw22_CarryTurned.j3 k x0 bt341.1 bt349.1 (!t353))) else (fastilaw22_CarryTurned.j3 k x0 bt341.1 bt349.1 true)) else (fastilaw22_CarryTurned.j3 k x0 bt341.1 bt349.1 true)) else (fastilaw22_CarryTurned.j3 k x0 bt341.1 bt349.1 true)) else (fastilaw22_CarryTurned.j3 k x0 bt341.1 bt349.1 true)) else (fastilaw22_CarryTurned.j3 k x0 bt341.1 bt349.1 true)))))
def fastilaw22_CarryTurned.j3 : Nat → Int → List (List Int) → List (List Int) → Bool → Option (Bool)
  | 0, _, _, _, _ => none
  | k + 1, x0, x16, x20, x128 => if x128 = true then (some false) else (fastilaw22_CarryTurned.l2 k x0 x16 x20 x0 0)
def fastilaw22_CarryTurned.l2 : Nat → Int → List (List Int) → List (List Int) → Int → Int → Option (Bool)
  | 0, _, _, _, _, _ => none
  | k + 1, x0, x16, x20, x129, x130 => if x130 < x129 then (if 0 ≤ x130 then (if x130 < (x16.length : Int) then (if ((rd_L3 x16 x130).length : Int) = x0 then (if x130 < (x20.length : Int) then (if ((rd_L3 x20 x130).length : Int) = x0 then (fastilaw22_CarryTurned.l2 k x0 x16 x20 x129 (wrap64 (x130 + 1))) else (some false)) else (none)) else (some false)) else (none)) else (none)) else (fastilaw22_CarryTurned.l3 k x0 x16 x20 x0 0)
def fastilaw22_CarryTurned.l3 : Nat → Int → List (List Int) → List (List Int) → Int → Int → Option (Bool)
  | 0, _, _, _, _, _ => none
  | k + 1, x0, x16, x20, x150, x151 => if x151 < x150 then (fastilaw22_CarryTurned.l4 k x0 x16 x20 x151 x150 x151 x0 0) else (some true)
def fastilaw22_CarryTurned.l4 : Nat → Int → List (List Int) → List (List Int) → Int → Int → Int → Int → Int → Option (Bool)
  | 0, _, _, _, _, _, _, _, _ => none
  | k + 1, x0, x16, x20, x23, x150, x151, x154, x155 => if x155 < x154 then (if 0 ≤ x23 then (if x23 < (x16.length : Int) then (if 0 ≤ x155 then (if x155 < ((rd_L3 x16 x23).length : Int) then (if x155 < (x20.length : Int) then (if x23 < ((rd_L3 x20 x155).length : Int) then (if (rd (rd_L3 x16 x23) x155) = (rd (rd_L3 x20 x155) x23) then (fastilaw22_CarryTurned.l4 k x0 x16 x20 x23 x150 x151 x154 (wrap64 (x155 + 1))) else (some false)) else (none)) else (none)) else (none)) else (none)) else (none)) else (none)) else (fastilaw22_CarryTurned.l3 k x0 x16 x20 x150 (wrap64 (x151 + 1)))
end
def fastilaw22_CarryTurned.f (k : Nat) (a0 : Int) (l1 : List (S45)) (a2 : Int) : Option (Bool) := (fastilaw22_sane.f k).bind fun t324 => (if t324 = true then ((fastilaw22_right.f k a0 l1).bind fun t325 => (if t325 = true then (fastilaw22_CarryTurned.j0 k a0 l1 a2 ((l1.length : Int) == 0)) else (fastilaw22_CarryTurned.j0 k a0 l1 a2 true))) else (some false))
set_option maxHeartbeats 8000000 in
set_option maxRecDepth 100000 in
theorem fastilaw22_CarryTurned.calls (k : Nat) (a0 : Int) (A1 : Option Addr) (c1 : Nat) (l1 : List (S45)) (a2 : Int) (r : Bool) (w : World) (hr1 : Kd.C k45 w A1 l1.length l1) (hc1 : l1.length ≤ c1) (h : fastilaw22_CarryTurned.f k a0 l1 a2 = some r) :
    Calls Try.prog 7 #[.int .i64 a0, .slice A1 l1.length c1, .int .u8 a2] w fun e w' => e = .returned (.bool r) ∧ Below w.heap.size w w' := by
  have hu45 := Try.underlying45
  have HR1 := Aside0.mk hr1
  have HC1 := Aside0.mk hc1
  clear hr1 hc1
  have HB := Aside0.mk (Below.refl w.heap.size w)
  have H : ((fastilaw22_sane.f k).bind fun t324 => (if t324 = true then ((fastilaw22_right.f k a0 l1).bind fun t325 => (if t325 = true then (fastilaw22_CarryTurned.j0 k a0 l1 a2 ((l1.length : Int) == 0)) else (fastilaw22_CarryTurned.j0 k a0 l1 a2 true))) else (some false))) = some r := h
  clear h
  replace H := Option.bind_eq_some_iff.mp H
  obtain ⟨t324, A40, H⟩ := H
  replace H : (if t324 = true then ((fastilaw22_right.f k a0 l1).bind fun t325 => (if t325 = true then (fastilaw22_CarryTurned.j0 k a0 l1 a2 ((l1.length : Int) == 0)) else (fastilaw22_CarryTurned.j0 k a0 l1 a2 true))) else (some false)) = some r := H
  have A4 := Aside0.mk A40
  clear A40
  by_cases c5 : t324 = true
  · subst c5
    have H1 : ((fastilaw22_right.f k a0 l1).bind fun t325 => (if t325 = true then (fastilaw22_CarryTurned.j0 k a0 l1 a2 ((l1.length : Int) == 0)) else (fastilaw22_CarryTurned.j0 k a0 l1 a2 true))) = some r := by rw [if_pos rfl] at H; exact H
    clear H
    have H := H1
    clear H1
    have HC6 := Aside0.mk H
    clear H
    go_enter Try.func7, Try.ntmps7
    go_upto_region 3 with (first | (go_at_call 9; (with_reducible refine (fastilaw22_sane.calls k  true _ A4.out).mono ?_); rintro e w7 ⟨rfl, hb⟩; have n0_ := Aside0.mk (below_step (by repeat (first | (with_reducible first | exact HB.out | apply below_alloc | apply pw_below_drewN | apply below_drew1) | exact HB.out)) hb); clear HB; have HB := n0_; clear n0_; (try clear hb); (try clear hb2); (try clear hk); (try clear hi)))
    repeat (go_quiet (first | (go_at_call 9; (with_reducible refine (fastilaw22_sane.calls k  true _ A4.out).mono ?_); rintro e w7 ⟨rfl, hb⟩; have n0_ := Aside0.mk (below_step (by repeat (first | (with_reducible first | exact HB.out | apply below_alloc | apply pw_below_drewN | apply below_drew1) | exact HB.out)) hb); clear HB; have HB := n0_; clear n0_; (try clear hb); (try clear hb2); (try clear hk); (try clear hi))); go_upto_region 3 with (first | (go_at_call 9; (with_reducible refine (fastilaw22_sane.calls k  true _ A4.out).mono ?_); rintro e w7 ⟨rfl, hb⟩; have n0_ := Aside0.mk (below_step (by repeat (first | (with_reducible first | exact HB.out | apply below_alloc | apply pw_below_drewN | apply below_drew1) | exact HB.out)) hb); clear HB; have HB := n0_; clear n0_; (try clear hb); (try clear hb2); (try clear hk); (try clear hi))))
    (try simp only [Act.put, List.setIfInBounds_toArray, List.set_cons_zero, List.set_cons_succ])
    go_cut [35] (fun v35 wc => ∃ (kq : Nat) (x35_5 : Bool), v35 = .bool x35_5 ∧ Aside0 (fastilaw22_CarryTurned.j0 kq a0 l1 a2 x35_5 = some r) ∧ Aside0 (kq ≤ k) ∧ Aside0 (Below w.heap.size w wc))
    case first =>
      have H := HC6.out
      clear HC6
      replace H := Option.bind_eq_some_iff.mp H
      obtain ⟨t325, A80, H⟩ := H
      replace H : (if t325 = true then (fastilaw22_CarryTurned.j0 k a0 l1 a2 ((l1.length : Int) == 0)) else (fastilaw22_CarryTurned.j0 k a0 l1 a2 true)) = some r := H
      have A8 := Aside0.mk A80
      clear A80
      by_cases c9 : t325 = true
      · subst c9
        have H1 : (fastilaw22_CarryTurned.j0 k a0 l1 a2 ((l1.length : Int) == 0)) = some r := by rw [if_pos rfl] at H; exact H
        clear H
        have H := H1
        clear H1
        have H' := Aside0.mk H
        clear H
        go_wp2_with (first | (go_at_call 21; (with_reducible refine (fastilaw22_right.calls k a0 _ _ l1 true _ ?side1 ?side2 A8.out).mono ?_); (case side1 => repeat (first | exact (Kd.C_below HR1.out HB.out) | (with_reducible refine Kd.C_alloc ?_ _) | (with_reducible refine Kd.C_drewN ?_ _) | (with_reducible refine Kd.C_drew ?_))); (case side2 => exact HC1.out); rintro e w10 ⟨rfl, hb⟩; have n0_ := Aside0.mk (below_step (by repeat (first | (with_reducible first | exact HB.out | apply below_alloc | apply pw_below_drewN | apply below_drew1) | exact HB.out)) hb); clear HB; have HB := n0_; clear n0_; (try clear hb); (try clear hb2); (try clear hk); (try clear hi)))
        repeat (go_quiet (first | (go_at_call 21; (with_reducible refine (fastilaw22_right.calls k a0 _ _ l1 true _ ?side1 ?side2 A8.out).mono ?_); (case side1 => repeat (first | exact (Kd.C_below HR1.out HB.out) | (with_reducible refine Kd.C_alloc ?_ _) | (with_reducible refine Kd.C_drewN ?_ _) | (with_reducible refine Kd.C_drew ?_))); (case side2 => exact HC1.out); rintro e w10 ⟨rfl, hb⟩; have n0_ := Aside0.mk (below_step (by repeat (first | (with_reducible first | exact HB.out | apply below_alloc | apply pw_below_drewN | apply below_drew1) | exact HB.out)) hb); clear HB; have HB := n0_; clear n0_; (try clear hb); (try clear hb2); (try clear hk); (try clear hi))); try go_wp2_with (first | (go_at_call 21; (with_reducible refine (fastilaw22_right.calls k a0 _ _ l1 true _ ?side1 ?side2 A8.out).mono ?_); (case side1 => repeat (first | exact (Kd.C_below HR1.out HB.out) | (with_reducible refine Kd.C_alloc ?_ _) | (with_reducible refine Kd.C_drewN ?_ _) | (with_reducible refine Kd.C_drew ?_))); (case side2 => exact HC1.out); rintro e w10 ⟨rfl, hb⟩; have n0_ := Aside0.mk (below_step (by repeat (first | (with_reducible first | exact HB.out | apply below_alloc | apply pw_below_drewN | apply below_drew1) | exact HB.out)) hb); clear HB; have HB := n0_; clear n0_; (try clear hb); (try clear hb2); (try clear hk); (try clear hi))))
        go_meet
        case rel => exact ⟨_, (((l1.length : Int) == 0)), (by first | rfl | (simp; done) | (simp [*]; done)), H', ⟨by first | omega | exact Nat.le_refl _⟩, ⟨by repeat (first | (with_reducible first | exact HB.out | apply below_alloc | apply pw_below_drewN | apply below_drew1) | exact HB.out)⟩⟩
      · replace c9 := Bool.eq_false_iff.mpr c9
        subst c9
        have H1 : (fastilaw22_CarryTurned.j0 k a0 l1 a2 true) = some r := by rw [if_neg (show ¬ (false = true) by decide)] at H; exact H
        clear H
        have H := H1
        clear H1
        have H' := Aside0.mk H
        clear H
        go_wp2_with (first | (go_at_call 21; (with_reducible refine (fastilaw22_right.calls k a0 _ _ l1 false _ ?side1 ?side2 A8.out).mono ?_); (case side1 => repeat (first | exact (Kd.C_below HR1.out HB.out) | (with_reducible refine Kd.C_alloc ?_ _) | (with_reducible refine Kd.C_drewN ?_ _) | (with_reducible refine Kd.C_drew ?_))); (case side2 => exact HC1.out); rintro e w11 ⟨rfl, hb⟩; have n0_ := Aside0.mk (below_step (by repeat (first | (with_reducible first | exact HB.out | apply below_alloc | apply pw_below_drewN | apply below_drew1) | exact HB.out)) hb); clear HB; have HB := n0_; clear n0_; (try clear hb); (try clear hb2); (try clear hk); (try clear hi)))
        repeat (go_quiet (first | (go_at_call 21; (with_reducible refine (fastilaw22_right.calls k a0 _ _ l1 false _ ?side1 ?side2 A8.out).mono ?_); (case side1 => repeat (first | exact (Kd.C_below HR1.out HB.out) | (with_reducible refine Kd.C_alloc ?_ _) | (with_reducible refine Kd.C_drewN ?_ _) | (with_reducible refine Kd.C_drew ?_))); (case side2 => exact HC1.out); rintro e w11 ⟨rfl, hb⟩; have n0_ := Aside0.mk (below_step (by repeat (first | (with_reducible first | exact HB.out | apply below_alloc | apply pw_below_drewN | apply below_drew1) | exact HB.out)) hb); clear HB; have HB := n0_; clear n0_; (try clear hb); (try clear hb2); (try clear hk); (try clear hi))); try go_wp2_with (first | (go_at_call 21; (with_reducible refine (fastilaw22_right.calls k a0 _ _ l1 false _ ?side1 ?side2 A8.out).mono ?_); (case side1 => repeat (first | exact (Kd.C_below HR1.out HB.out) | (with_reducible refine Kd.C_alloc ?_ _) | (with_reducible refine Kd.C_drewN ?_ _) | (with_reducible refine Kd.C_drew ?_))); (case side2 => exact HC1.out); rintro e w11 ⟨rfl, hb⟩; have n0_ := Aside0.mk (below_step (by repeat (first | (with_reducible first | exact HB.out | apply below_alloc | apply pw_below_drewN | apply below_drew1) | exact HB.out)) hb); clear HB; have HB := n0_; clear n0_; (try clear hb); (try clear hb2); (try clear hk); (try clear hi))))
        go_meet
        case rel => exact ⟨_, (true), (by first | rfl | (simp; done) | (simp [*]; done)), H', ⟨by first | omega | exact Nat.le_refl _⟩, ⟨by repeat (first | (with_reducible first | exact HB.out | apply below_alloc | apply pw_below_drewN | apply below_drew1) | exact HB.out)⟩⟩
    case rest =>
      clear HC6
      try clear c1
      try clear p2
      try clear c5
      try clear c7
      try clear c9
      obtain ⟨kq, x35_5, rfl, HA, HJ5, HB⟩ := hcut
      cases kq with
      | zero => exact absurd HA.out (by simp [fastilaw22_CarryTurned.j0])
      | succ kj5 =>
        have H := HA.out
        clear HA
        simp only [fastilaw22_CarryTurned.j0] at H
        by_cases c12 : x35_5 = true
        · subst c12
          have H1 : (some true) = some r := by rw [if_pos rfl] at H; exact H
          clear H
          have H := H1
          clear H1
          obtain rfl := Option.some.inj H
          go_wp2
          repeat (go_quiet (fail); try go_wp2)
          go_ret
          exact ⟨by first | rfl | (simp [errW_none, errW_some] <;> rfl) | (simp [*, errW_none, errW_some] <;> rfl), by repeat (first | (with_reducible first | exact HB.out | apply below_alloc | apply pw_below_drewN | apply below_drew1) | exact HB.out)⟩
        · replace c12 := Bool.eq_false_iff.mpr c12
          subst c12
          have H1 : ((fastiref22_Rounds.f kj5 l1).bind fun t326 => (if 0 ≤ t326 then (if (t326 : Int).toNat ≤ 281474976710656 then (fastilaw22_CarryTurned.l0 kj5 a0 l1 a2 t326 (List.replicate (t326 : Int).toNat false) ([] : List (S45)) ([] : List (S45)) l1 (l1.length : Int) 0) else (none)) else (none))) = some r := by rw [if_neg (show ¬ (false = true) by decide)] at H; exact H
          clear H
          have H := H1
          clear H1
          replace H := Option.bind_eq_some_iff.mp H
          obtain ⟨t326, A130, H⟩ := H
          replace H : (if 0 ≤ t326 then (if (t326 : Int).toNat ≤ 281474976710656 then (fastilaw22_CarryTurned.l0 kj5 a0 l1 a2 t326 (List.replicate (t326 : Int).toNat false) ([] : List (S45)) ([] : List (S45)) l1 (l1.length : Int) 0) else (none)) else (none)) = some r := H
          have A13 := Aside0.mk A130
          clear A130
          by_cases c14 : 0 ≤ t326
          · rw [if_pos c14] at H
            have c14b0 := eq_true c14
            have c14b1 : decide (0 ≤ t326) = true := decide_eq_true c14
            clear c14
            by_cases c15 : (t326 : Int).toNat ≤ 281474976710656
            · rw [if_pos c15] at H
              have c15b0 := eq_true c15
              have c15b1 : decide ((t326 : Int).toNat ≤ 281474976710656) = true := decide_eq_true c15
              clear c15
              obtain ⟨y327, hy327⟩ : ∃ y_ : List Bool, y_ = (List.replicate (t326 : Int).toNat false) := ⟨_, rfl⟩
              replace H : (fastilaw22_CarryTurned.l0 kj5 a0 l1 a2 t326 y327 ([] : List (S45)) ([] : List (S45)) l1 (l1.length : Int) 0) = some r := by first | (rw [hy327]; with_reducible exact H) | (have H2_ := (Option.bind_some _ _).symm.trans H; rw [hy327]; with_reducible exact H2_) | (have H2_ := (Option.bind_some _ _).symm.trans H; with_reducible exact H2_) | with_reducible exact H | (rw [hy327]; exact H) | exact H
              have Ny327 := Aside0.mk hy327
              clear hy327
              have H' := Aside0.mk H
              clear H
              go_wp2_with (first | (go_at_call 25; (with_reducible refine (fastiref22_Rounds.calls kj5 _ _ l1 t326 _ ?side1 ?side2 A13.out).mono ?_); (case side1 => repeat (first | exact (Kd.C_below HR1.out HB.out) | (with_reducible refine Kd.C_alloc ?_ _) | (with_reducible refine Kd.C_drewN ?_ _) | (with_reducible refine Kd.C_drew ?_))); (case side2 => exact HC1.out); rintro e w16 ⟨rfl, hb⟩; have n0_ := Aside0.mk (below_step (by repeat (first | (with_reducible first | exact HB.out | apply below_alloc | apply pw_below_drewN | apply below_drew1) | exact HB.out)) hb); clear HB; have HB := n0_; clear n0_; (try clear hb); (try clear hb2); (try clear hk); (try clear hi)) | ((with_reducible refine gate_dst (N := 39) rfl ?_); (try (refine gate_guard (by rfl) ?_; dsimp only)); refine Kd.R_make Kd.bool _ 4 rfl (N := 39) rfl 41 _ _ rfl t326 rfl rfl Try.underlying41 (.bool false) 1 info4 rfl (by decide) (by omega) false (ok := fun _ => True) (okp := fun _ => True) rfl (fun _ hk => hk) trivial (of_decide_eq_true (by first | (with_reducible assumption) | assumption)) (Nat.le_trans (Nat.mul_le_mul_right _ (of_decide_eq_true (by first | (with_reducible assumption) | assumption) : t326.toNat ≤ 281474976710656)) (by omega)) (Below.refl _ _) (Nat.le_refl _) ?_; intro v328 w17 ho18 hb hg_ hnew_; clear hg_ hnew_; (first | rw [← Ny327.out] at ho18 | (simp only [Int.reduceToNat] at ho18; rw [← Ny327.out] at ho18)); have n0_ := Aside0.mk (Kd.R_lower ho18 (below_size (by repeat (first | (with_reducible first | exact HB.out | apply below_alloc | apply pw_below_drewN | apply below_drew1) | exact HB.out)))); have n1_ := Aside0.mk (below_step (by repeat (first | (with_reducible first | exact HB.out | apply below_alloc | apply pw_below_drewN | apply below_drew1) | exact HB.out)) hb); clear HB; have HO329 := n0_; have HB := n1_; clear n0_ n1_; clear hb ho18))
              repeat (go_quiet (first | (go_at_call 25; (with_reducible refine (fastiref22_Rounds.calls kj5 _ _ l1 t326 _ ?side1 ?side2 A13.out).mono ?_); (case side1 => repeat (first | exact (Kd.C_below HR1.out HB.out) | (with_reducible refine Kd.C_alloc ?_ _) | (with_reducible refine Kd.C_drewN ?_ _) | (with_reducible refine Kd.C_drew ?_))); (case side2 => exact HC1.out); rintro e w16 ⟨rfl, hb⟩; have n0_ := Aside0.mk (below_step (by repeat (first | (with_reducible first | exact HB.out | apply below_alloc | apply pw_below_drewN | apply below_drew1) | exact HB.out)) hb); clear HB; have HB := n0_; clear n0_; (try clear hb); (try clear hb2); (try clear hk); (try clear hi)) | ((with_reducible refine gate_dst (N := 39) rfl ?_); (try (refine gate_guard (by rfl) ?_; dsimp only)); refine Kd.R_make Kd.bool _ 4 rfl (N := 39) rfl 41 _ _ rfl t326 rfl rfl Try.underlying41 (.bool false) 1 info4 rfl (by decide) (by omega) false (ok := fun _ => True) (okp := fun _ => True) rfl (fun _ hk => hk) trivial (of_decide_eq_true (by first | (with_reducible assumption) | assumption)) (Nat.le_trans (Nat.mul_le_mul_right _ (of_decide_eq_true (by first | (with_reducible assumption) | assumption) : t326.toNat ≤ 281474976710656)) (by omega)) (Below.refl _ _) (Nat.le_refl _) ?_; intro v328 w17 ho18 hb hg_ hnew_; clear hg_ hnew_; (first | rw [← Ny327.out] at ho18 | (simp only [Int.reduceToNat] at ho18; rw [← Ny327.out] at ho18)); have n0_ := Aside0.mk (Kd.R_lower ho18 (below_size (by repeat (first | (with_reducible first | exact HB.out | apply below_alloc | apply pw_below_drewN | apply below_drew1) | exact HB.out)))); have n1_ := Aside0.mk (below_step (by repeat (first | (with_reducible first | exact HB.out | apply below_alloc | apply pw_below_drewN | apply below_drew1) | exact HB.out)) hb); clear HB; have HO329 := n0_; have HB := n1_; clear n0_ n1_; clear hb ho18)); try go_wp2_with (first | (go_at_call 25; (with_reducible refine (fastiref22_Rounds.calls kj5 _ _ l1 t326 _ ?side1 ?side2 A13.out).mono ?_); (case side1 => repeat (first | exact (Kd.C_below HR1.out HB.out) | (with_reducible refine Kd.C_alloc ?_ _) | (with_reducible refine Kd.C_drewN ?_ _) | (with_reducible refine Kd.C_drew ?_))); (case side2 => exact HC1.out); rintro e w16 ⟨rfl, hb⟩; have n0_ := Aside0.mk (below_step (by repeat (first | (with_reducible first | exact HB.out | apply below_alloc | apply pw_below_drewN | apply below_drew1) | exact HB.out)) hb); clear HB; have HB := n0_; clear n0_; (try clear hb); (try clear hb2); (try clear hk); (try clear hi)) | ((with_reducible refine gate_dst (N := 39) rfl ?_); (try (refine gate_guard (by rfl) ?_; dsimp only)); refine Kd.R_make Kd.bool _ 4 rfl (N := 39) rfl 41 _ _ rfl t326 rfl rfl Try.underlying41 (.bool false) 1 info4 rfl (by decide) (by omega) false (ok := fun _ => True) (okp := fun _ => True) rfl (fun _ hk => hk) trivial (of_decide_eq_true (by first | (with_reducible assumption) | assumption)) (Nat.le_trans (Nat.mul_le_mul_right _ (of_decide_eq_true (by first | (with_reducible assumption) | assumption) : t326.toNat ≤ 281474976710656)) (by omega)) (Below.refl _ _) (Nat.le_refl _) ?_; intro v328 w17 ho18 hb hg_ hnew_; clear hg_ hnew_; (first | rw [← Ny327.out] at ho18 | (simp only [Int.reduceToNat] at ho18; rw [← Ny327.out] at ho18)); have n0_ := Aside0.mk (Kd.R_lower ho18 (below_size (by repeat (first | (with_reducible first | exact HB.out | apply below_alloc | apply pw_below_drewN | apply below_drew1) | exact HB.out)))); have n1_ := Aside0.mk (below_step (by repeat (first | (with_reducible first | exact HB.out | apply below_alloc | apply pw_below_drewN | apply below_drew1) | exact HB.out)) hb); clear HB; have HO329 := n0_; have HB := n1_; clear n0_ n1_; clear hb ho18)))
              go_loopg [9, 10, 42] kj5 (fun kq v9 v10 v42 w' => ∃ (x8_2 : List Bool) (x9_2 : List (S45)) (x10_2 : List (S45)) (x42_2 : Int), v42 = .int .i64 x42_2 ∧ Aside0 (fastilaw22_CarryTurned.l0 kq a0 l1 a2 t326 x8_2 x9_2 x10_2 l1 (l1.length : Int) x42_2 = some r) ∧ Aside0 (kq ≤ kj5) ∧ Aside0 (Kd.R Kd.bool 4 w' w.heap.size (fun _ => True) v328 x8_2) ∧ Aside0 (Kd.R k45 45 w' w.heap.size (fun k_ => some k_ ≠ (v10 : Value).ownBlock) v9 x9_2) ∧ Aside0 (Kd.R k45 45 w' w.heap.size (fun k_ => some k_ ≠ (v9 : Value).ownBlock) v10 x10_2) ∧ Aside0 (Below w.heap.size w w'))
              case atStart => exact ⟨(y327), (([] : List (S45))), (([] : List (S45))), (0), (by first | rfl | (simp; done) | (simp [*]; done)), H', ⟨Nat.le_refl _⟩, ⟨by (with_reducible repeat (first | apply Kd.R_alloc | apply Kd.R_drewN | apply Kd.R_drew)); exact HO329.out⟩, ⟨by first | exact Kd.R_nil _ _ _ _ _ | exact Kd.N_nil _ _ _ _ _ | exact Kd.V_nil _ _ _ _ _ | exact Kd.Q_nil _ _ _ _ _ | exact Kd.S_nil _ _ _ _ _⟩, ⟨by first | exact Kd.R_nil _ _ _ _ _ | exact Kd.N_nil _ _ _ _ _ | exact Kd.V_nil _ _ _ _ _ | exact Kd.Q_nil _ _ _ _ _ | exact Kd.S_nil _ _ _ _ _⟩, ⟨by repeat (first | (with_reducible first | exact HB.out | apply below_alloc | apply pw_below_drewN | apply below_drew1) | exact HB.out)⟩⟩
              case round =>
                clear H'
                try clear c1
                try clear p2
                try clear c5
                try clear c7
                try clear c9
                try clear c12
                try clear c14
                try clear c14b0
                try clear c14b1
                try clear c15
                try clear c15b0
                try clear c15b1
                try clear p2
                obtain ⟨x8_2, x9_2, x10_2, x42_2, rfl, HA, HK2, HO_8, HO_9, HO_10, HB⟩ := hrel
                cases gk with
                | zero => exact absurd HA.out (by simp [fastilaw22_CarryTurned.l0])
                | succ k2 =>
                  have H := HA.out
                  clear HA
                  simp only [fastilaw22_CarryTurned.l0] at H
                  by_cases c19 : x42_2 < (l1.length : Int)
                  · rw [if_pos c19] at H
                    have c19b0 : decide (x42_2 < (l1.length : Int)) = true := decide_eq_true c19
                    clear c19
                    by_cases c20 : 0 ≤ x42_2
                    · rw [if_pos c20] at H
                      have c20b0 : decide (0 ≤ x42_2) = true := decide_eq_true c20
                      clear c20
                      by_cases c21 : x42_2 < (l1.length : Int)
                      · rw [if_pos c21] at H
                        have c21b0 : decide (x42_2 < (l1.length : Int)) = true := decide_eq_true c21
                        clear c21
                        by_cases c22 : 0 ≤ ((rd_T45 l1 x42_2).f0)
                        · rw [if_pos c22] at H
                          have c22b0 : decide (0 ≤ ((rd_T45 l1 x42_2).f0)) = true := decide_eq_true c22
                          clear c22
                          by_cases c23 : ((rd_T45 l1 x42_2).f0) < (x8_2.length : Int)
                          · rw [if_pos c23] at H
                            have c23b0 : decide (((rd_T45 l1 x42_2).f0) < (x8_2.length : Int)) = true := decide_eq_true c23
                            clear c23
                            obtain ⟨y332, hy332⟩ : ∃ y_ : List Bool, y_ = (x8_2.set (((rd_T45 l1 x42_2).f0) : Int).toNat true) := ⟨_, rfl⟩
                            replace H : (if t326 = 0 then (none) else (if x9_2.length < 5864062014805 then (if x10_2.length < 5864062014805 then (fastilaw22_CarryTurned.l0 k2 a0 l1 a2 t326 y332 (x9_2 ++ [(⟨Int.tmod (wrap64 (((rd_T45 l1 x42_2).f0) + (wrap64 (a2)))) t326, (rd_T45 l1 x42_2).f1, (rd_T45 l1 x42_2).f2⟩ : S45)]) (x10_2 ++ [(⟨wrap64 ((wrap64 (t326 - 1)) - ((rd_T45 l1 x42_2).f0)), (rd_T45 l1 x42_2).f1, (rd_T45 l1 x42_2).f2⟩ : S45)]) l1 (l1.length : Int) (wrap64 (x42_2 + 1))) else (none)) else (none))) = some r := by first | (rw [hy332]; with_reducible exact H) | (have H2_ := (Option.bind_some _ _).symm.trans H; rw [hy332]; with_reducible exact H2_) | (have H2_ := (Option.bind_some _ _).symm.trans H; with_reducible exact H2_) | with_reducible exact H | (rw [hy332]; exact H) | exact H
                            have Ny332 := Aside0.mk hy332
                            clear hy332
                            by_cases c25 : t326 = 0
                            · rw [if_pos c25] at H
                              exact absurd H (by simp)
                            · rw [if_neg c25] at H
                              have c25b0 : (t326 == 0) = false := beq_eq_false_iff_ne.mpr c25
                              have c25b1 : (t326 != 0) = true := bne_iff_ne.mpr c25
                              by_cases c26 : x9_2.length < 5864062014805
                              · rw [if_pos c26] at H
                                have LMc26 := Aside0.mk c26
                                clear c26
                                obtain ⟨y334, hy334⟩ : ∃ y_ : List (S45), y_ = (x9_2 ++ [(⟨Int.tmod (wrap64 (((rd_T45 l1 x42_2).f0) + (wrap64 (a2)))) t326, (rd_T45 l1 x42_2).f1, (rd_T45 l1 x42_2).f2⟩ : S45)]) := ⟨_, rfl⟩
                                replace H : (if x10_2.length < 5864062014805 then (fastilaw22_CarryTurned.l0 k2 a0 l1 a2 t326 y332 y334 (x10_2 ++ [(⟨wrap64 ((wrap64 (t326 - 1)) - ((rd_T45 l1 x42_2).f0)), (rd_T45 l1 x42_2).f1, (rd_T45 l1 x42_2).f2⟩ : S45)]) l1 (l1.length : Int) (wrap64 (x42_2 + 1))) else (none)) = some r := by first | (rw [hy334]; with_reducible exact H) | (have H2_ := (Option.bind_some _ _).symm.trans H; rw [hy334]; with_reducible exact H2_) | (have H2_ := (Option.bind_some _ _).symm.trans H; with_reducible exact H2_) | with_reducible exact H | (rw [hy334]; exact H) | exact H
                                have Ny334 := Aside0.mk hy334
                                clear hy334
                                by_cases c27 : x10_2.length < 5864062014805
                                · rw [if_pos c27] at H
                                  have LMc27 := Aside0.mk c27
                                  clear c27
                                  obtain ⟨y337, hy337⟩ : ∃ y_ : List (S45), y_ = (x10_2 ++ [(⟨wrap64 ((wrap64 (t326 - 1)) - ((rd_T45 l1 x42_2).f0)), (rd_T45 l1 x42_2).f1, (rd_T45 l1 x42_2).f2⟩ : S45)]) := ⟨_, rfl⟩
                                  replace H : (fastilaw22_CarryTurned.l0 k2 a0 l1 a2 t326 y332 y334 y337 l1 (l1.length : Int) (wrap64 (x42_2 + 1))) = some r := by first | (rw [hy337]; with_reducible exact H) | (have H2_ := (Option.bind_some _ _).symm.trans H; rw [hy337]; with_reducible exact H2_) | (have H2_ := (Option.bind_some _ _).symm.trans H; with_reducible exact H2_) | with_reducible exact H | (rw [hy337]; exact H) | exact H
                                  have Ny337 := Aside0.mk hy337
                                  clear hy337
                                  have H' := Aside0.mk H
                                  clear H
                                  have p330 : 0 ≤ (x42_2 : Int) := of_decide_eq_true (by first | (with_reducible assumption) | assumption)
                                  have q330 : x42_2 < (l1.length : Int) := of_decide_eq_true (by first | (with_reducible assumption) | assumption)
                                  obtain ⟨ad330, e330, hx330_0, hx330_1, hx330_2⟩ := at_T45 HR1.out x42_2 p330 q330
                                  cases e330
                                  replace hx330_0 := (HB.out.cell (World.block_lt_of_cell? w _ hx330_0)).trans hx330_0
                                  replace hx330_1 := (HB.out.cell (World.block_lt_of_cell? w _ hx330_1)).trans hx330_1
                                  replace hx330_2 := (HB.out.cell (World.block_lt_of_cell? w _ hx330_2)).trans hx330_2
                                  replace p330 := eq_true p330
                                  replace q330 := eq_true q330
                                  go_wp2_with (first | ((with_reducible refine gate_dst (N := 12) rfl ?_); (try (refine gate_guard (by rfl) ?_; dsimp only)); refine box_event ?hg (N := 12) ?hd (cs := #[.int .i64 0, .int .i64 0, .int .i64 0]) (t := 45) ?hr ?_; (case hd => rfl); (case hg => rfl); (case hr => first | (go_simp; done) | (go_simp; rfl)); intro gb331 hg w28 hbox hb; have n0_ := Aside0.mk (Kd.R_below (by (with_reducible repeat (first | apply Kd.R_alloc | apply Kd.R_drewN | apply Kd.R_drew)); exact HO_8.out) hb); have n1_ := Aside0.mk (Kd.R_below (Kd.R_elderB (by (with_reducible repeat (first | apply Kd.R_alloc | apply Kd.R_drewN | apply Kd.R_drew)); exact HO_9.out) gb331 (Nat.le_of_eq hg.symm)) hb); have n2_ := Aside0.mk (Kd.R_below (Kd.R_elderB (by (with_reducible repeat (first | apply Kd.R_alloc | apply Kd.R_drewN | apply Kd.R_drew)); exact HO_10.out) gb331 (Nat.le_of_eq hg.symm)) hb); have n3_ := Aside0.mk (below_step (by repeat (first | (with_reducible first | exact HB.out | apply below_alloc | apply pw_below_drewN | apply below_drew1) | exact HB.out)) hb); have n4_ := Aside0.mk (hbox); have n5_ := Aside0.mk ((by rw [hg]; exact (below_size (by repeat (first | (with_reducible first | exact HB.out | apply below_alloc | apply pw_below_drewN | apply below_drew1) | exact HB.out))) : w.heap.size ≤ gb331)); have n6_ := Aside0.mk ((by rw [hg]; exact (below_size (by repeat (first | (with_reducible first | exact HB.out | apply below_alloc | apply pw_below_drewN | apply below_drew1) | exact HB.out))) : w.heap.size ≤ gb331)); clear HO_8; clear HO_9; clear HO_10; clear HB; have HO_8 := n0_; have HO_9 := n1_; have HO_10 := n2_; have HB := n3_; have BK331 := n4_; have GW331 := n5_; have GE331 := n6_; clear n0_ n1_ n2_ n3_ n4_ n5_ n6_; clear hb hbox hg; have hcz29_0 : w28.cell? ⟨gb331, 0, none⟩ = some (.int .i64 0) := (blk_cell BK331.out 0).trans rfl; have hcz29_1 : w28.cell? ⟨gb331, 1, none⟩ = some (.int .i64 0) := (blk_cell BK331.out 1).trans rfl; have hcz29_2 : w28.cell? ⟨gb331, 2, none⟩ = some (.int .i64 0) := (blk_cell BK331.out 2).trans rfl; have hfz29_0 := blk_frozen BK331.out 0; have hfz29_1 := blk_frozen BK331.out 1; have hfz29_2 := blk_frozen BK331.out 2) | ((with_reducible refine gate_store (t := 45) (p := 12) rfl ?_); (try (rw [drewN_self w28]; generalize hq_ : World.drewN w28 _ = w28; have n0_ := Aside0.mk (Kd.R_at hq_ HO_8.out); have n1_ := Aside0.mk (Kd.R_at hq_ HO_9.out); have n2_ := Aside0.mk (Kd.R_at hq_ HO_10.out); have n3_ := Aside0.mk (blk_at hq_ BK331.out); have n4_ := Aside0.mk (below_at hq_ HB.out); clear hq_ HO_8 HO_9 HO_10 BK331 HB; have HO_8 := n0_; have HO_9 := n1_; have HO_10 := n2_; have BK331 := n3_; have HB := n4_; clear n0_ n1_ n2_ n3_ n4_)); refine store_event (t := 45) (p := 12) (v := ?vo_w30) (w1 := (((w28.setCell ⟨gb331, 0, none⟩ (.int .i64 ((rd_T45 l1 x42_2).f0))).setCell ⟨gb331, 1, none⟩ (.int .i64 ((rd_T45 l1 x42_2).f1))).setCell ⟨gb331, 2, none⟩ (.int .i64 ((rd_T45 l1 x42_2).f2)))) ?hg ?ho ?hn ?hr ?_; (case ho => rfl); (case hg => rfl); (case hn => rfl); (case hr => first | (go_simp; done) | (go_simp; rfl)); intro w30 hw; have n0_ : Aside0 (Kd.R Kd.bool 4 w30 w.heap.size (fun _ => True) v328 x8_2) := ⟨(by rw [hw]; exact (by (with_reducible repeat (first | apply Kd.R_alloc | apply Kd.R_drewN | apply Kd.R_drew)); exact Kd.R_mono (Kd.R_far (p := ⟨gb331, 2, none⟩) (Kd.R_far (p := ⟨gb331, 1, none⟩) (Kd.R_far (p := ⟨gb331, 0, none⟩) (Kd.R_types HO_8.out BK331.out (by decide)) (fun _ hk => hk.2) (.int .i64 ((rd_T45 l1 x42_2).f0))) (fun _ hk => hk.2) (.int .i64 ((rd_T45 l1 x42_2).f1))) (fun _ hk => hk.2) (.int .i64 ((rd_T45 l1 x42_2).f2))) (fun _ hk => trivial)))⟩; have n1_ : Aside0 (Kd.R k45 45 w30 w.heap.size (fun k_ => some k_ ≠ (u10 : Value).ownBlock ∧ k_ ≠ gb331) u9 x9_2) := ⟨(by rw [hw]; exact (by (with_reducible repeat (first | apply Kd.R_alloc | apply Kd.R_drewN | apply Kd.R_drew)); exact Kd.R_mono (Kd.R_far (p := ⟨gb331, 2, none⟩) (Kd.R_far (p := ⟨gb331, 1, none⟩) (Kd.R_far (p := ⟨gb331, 0, none⟩) (Kd.R_mono HO_9.out (fun k_ hk => (⟨hk, hk.2⟩ : _ ∧ k_ ≠ gb331))) (fun _ hk => hk.2) (.int .i64 ((rd_T45 l1 x42_2).f0))) (fun _ hk => hk.2) (.int .i64 ((rd_T45 l1 x42_2).f1))) (fun _ hk => hk.2) (.int .i64 ((rd_T45 l1 x42_2).f2))) (fun _ hk => ⟨hk.1.1, hk.1.2⟩)))⟩; have n2_ : Aside0 (Kd.R k45 45 w30 w.heap.size (fun k_ => some k_ ≠ (u9 : Value).ownBlock ∧ k_ ≠ gb331) u10 x10_2) := ⟨(by rw [hw]; exact (by (with_reducible repeat (first | apply Kd.R_alloc | apply Kd.R_drewN | apply Kd.R_drew)); exact Kd.R_mono (Kd.R_far (p := ⟨gb331, 2, none⟩) (Kd.R_far (p := ⟨gb331, 1, none⟩) (Kd.R_far (p := ⟨gb331, 0, none⟩) (Kd.R_mono HO_10.out (fun k_ hk => (⟨hk, hk.2⟩ : _ ∧ k_ ≠ gb331))) (fun _ hk => hk.2) (.int .i64 ((rd_T45 l1 x42_2).f0))) (fun _ hk => hk.2) (.int .i64 ((rd_T45 l1 x42_2).f1))) (fun _ hk => hk.2) (.int .i64 ((rd_T45 l1 x42_2).f2))) (fun _ hk => ⟨hk.1.1, hk.1.2⟩)))⟩; have n3_ : Aside0 (w30.heap[gb331]? = some (.cells #[.int .i64 ((rd_T45 l1 x42_2).f0), .int .i64 ((rd_T45 l1 x42_2).f1), .int .i64 ((rd_T45 l1 x42_2).f2)] 45 (0, 0))) := ⟨(by rw [hw]; exact (by (with_reducible repeat (first | refine blk_drewN ?_ _ | refine blk_drew ?_ | refine blk_alloc ?_ _)); refine blk_put (cs := #[.int .i64 ((rd_T45 l1 x42_2).f0), .int .i64 ((rd_T45 l1 x42_2).f1), .int .i64 0]) ?_ 2 _ rfl; (with_reducible repeat (first | refine blk_drewN ?_ _ | refine blk_drew ?_ | refine blk_alloc ?_ _)); refine blk_put (cs := #[.int .i64 ((rd_T45 l1 x42_2).f0), .int .i64 0, .int .i64 0]) ?_ 1 _ rfl; (with_reducible repeat (first | refine blk_drewN ?_ _ | refine blk_drew ?_ | refine blk_alloc ?_ _)); refine blk_put (cs := #[.int .i64 0, .int .i64 0, .int .i64 0]) ?_ 0 _ rfl; (with_reducible repeat (first | refine blk_drewN ?_ _ | refine blk_drew ?_ | refine blk_alloc ?_ _)); exact BK331.out))⟩; have n4_ : Aside0 (Below w.heap.size w w30) := ⟨(by rw [hw]; exact (by repeat (first | (with_reducible first | exact HB.out | apply below_alloc | apply pw_below_drewN | apply below_drew1 | refine below_set ?_ GE331.out) | exact HB.out)))⟩; clear hw; clear HO_8; clear HO_9; clear HO_10; clear BK331; clear HB; have HO_8 := n0_; have HO_9 := n1_; have HO_10 := n2_; have BK331 := n3_; have HB := n4_; clear n0_ n1_ n2_ n3_ n4_; have hcz31_0 : w30.cell? ⟨gb331, 0, none⟩ = some (.int .i64 ((rd_T45 l1 x42_2).f0)) := (blk_cell BK331.out 0).trans rfl; have hcz31_1 : w30.cell? ⟨gb331, 1, none⟩ = some (.int .i64 ((rd_T45 l1 x42_2).f1)) := (blk_cell BK331.out 1).trans rfl; have hcz31_2 : w30.cell? ⟨gb331, 2, none⟩ = some (.int .i64 ((rd_T45 l1 x42_2).f2)) := (blk_cell BK331.out 2).trans rfl; have hfz31_0 := blk_frozen BK331.out 0; have hfz31_1 := blk_frozen BK331.out 1; have hfz31_2 := blk_frozen BK331.out 2; have p24 : 0 ≤ (((rd_T45 l1 x42_2).f0) : Int) := of_decide_eq_true (by first | (with_reducible assumption) | assumption); have q24 : (((rd_T45 l1 x42_2).f0) : Int) < ((x8_2.length : Int) : Int) := of_decide_eq_true (by first | (with_reducible assumption) | assumption); obtain ⟨go24, co24, eo24, gb24, gl24, cl24, HG24⟩ := Kd.R_form HO_8.out (by omega); (first | cases eo24 | (injection eo24 with ea_ en_ ec_; (first | subst ea_ | (injection ea_ with ea_; subst ea_)); subst ec_; clear en_)); have GB24 := Aside0.mk gb24; have GG24 := Aside0.mk HG24; clear gb24 gl24 HG24; obtain ⟨hx24_0, hf24_0⟩ := Kd.R_celln false HO_8.out (((rd_T45 l1 x42_2).f0) : Int) p24 q24; replace p24 := eq_true p24; replace q24 := eq_true q24; obtain ⟨hy32_, hz32_⟩ := Kd.R_celln false HO_8.out (((rd_T45 l1 x42_2).f0) : Int) (of_decide_eq_true (by first | (with_reducible assumption) | assumption)) (of_decide_eq_true (by first | (with_reducible assumption) | assumption)); have HP32 := Kd.R_putg HO_8.out (((rd_T45 l1 x42_2).f0) : Int) true) | ((with_reducible refine gate_store (t := 4) (p := 49) rfl ?_); (try (rw [drewN_self w30]; generalize hq_ : World.drewN w30 _ = w30; have n0_ := Aside0.mk (Kd.R_at hq_ HO_8.out); have n1_ := Aside0.mk (Kd.R_at hq_ HO_9.out); have n2_ := Aside0.mk (Kd.R_at hq_ HO_10.out); have n3_ := Aside0.mk (blk_at hq_ BK331.out); have n4_ := Aside0.mk (below_at hq_ HB.out); clear hq_ HO_8 HO_9 HO_10 BK331 HB; have HO_8 := n0_; have HO_9 := n1_; have HO_10 := n2_; have BK331 := n3_; have HB := n4_; clear n0_ n1_ n2_ n3_ n4_; (try (obtain ⟨hy32_, hz32_⟩ := Kd.R_celln false HO_8.out (((rd_T45 l1 x42_2).f0) : Int) (of_decide_eq_true (by first | (with_reducible assumption) | assumption)) (of_decide_eq_true (by first | (with_reducible assumption) | assumption)))); (try (have HP32 := Kd.R_putg HO_8.out (((rd_T45 l1 x42_2).f0) : Int) true)))); refine store_event (t := 4) (p := 49) (v := ?vo_w33) (w1 := (w30.setCell ⟨go24, (((rd_T45 l1 x42_2).f0) : Int).toNat, none⟩ (.bool true))) ?hg ?ho ?hn ?hr ?_; (case ho => rfl); (case hg => rfl); (case hn => rfl); (case hr => first | (go_simp; done) | (go_simp; rfl)); intro w33 hw; have hg : w30.grownBy w33 (some go24) := (by rw [hw]; exact HP32.2); have hp_ : Kd.R Kd.bool 4 w33 w.heap.size (fun _ => True) (.slice (some ⟨go24, 0, none⟩) x8_2.length co24) y332 := (by rw [hw, Ny332.out]; exact HP32.1); clear HP32; have n0_ := Aside0.mk (hp_); have n1_ := Aside0.mk (Kd.R_over' (v := (.slice (some ⟨go24, 0, none⟩) x8_2.length co24)) (by (with_reducible repeat (first | apply Kd.R_alloc | apply Kd.R_drewN | apply Kd.R_drew)); exact HO_9.out) (Kd.R_typed HO_8.out) (by decide) hg); have n2_ := Aside0.mk (Kd.R_over' (v := (.slice (some ⟨go24, 0, none⟩) x8_2.length co24)) (by (with_reducible repeat (first | apply Kd.R_alloc | apply Kd.R_drewN | apply Kd.R_drew)); exact HO_10.out) (Kd.R_typed HO_8.out) (by decide) hg); have n3_ := Aside0.mk (blk_grown (g := gb331) (o := .cells #[.int .i64 ((rd_T45 l1 x42_2).f0), .int .i64 ((rd_T45 l1 x42_2).f1), .int .i64 ((rd_T45 l1 x42_2).f2)] 45 (0, 0)) (by (with_reducible repeat (first | refine blk_drewN ?_ _ | refine blk_drew ?_ | refine blk_alloc ?_ _)); exact BK331.out) hg (Kd.R_ne HO_8.out BK331.out (by decide))); have n4_ := Aside0.mk ((by rw [hw]; exact below_set (HB.out) GB24.out : Below w.heap.size w w33)); clear HO_8; clear HO_9; clear HO_10; clear BK331; clear HB; have HO_8 := n0_; have HO_9 := n1_; have HO_10 := n2_; have BK331 := n3_; have HB := n4_; clear n0_ n1_ n2_ n3_ n4_; clear hg hw hp_; have hcz34_0 : w33.cell? ⟨gb331, 0, none⟩ = some (.int .i64 ((rd_T45 l1 x42_2).f0)) := (blk_cell BK331.out 0).trans rfl; have hcz34_1 : w33.cell? ⟨gb331, 1, none⟩ = some (.int .i64 ((rd_T45 l1 x42_2).f1)) := (blk_cell BK331.out 1).trans rfl; have hcz34_2 : w33.cell? ⟨gb331, 2, none⟩ = some (.int .i64 ((rd_T45 l1 x42_2).f2)) := (blk_cell BK331.out 2).trans rfl; have hfz34_0 := blk_frozen BK331.out 0; have hfz34_1 := blk_frozen BK331.out 1; have hfz34_2 := blk_frozen BK331.out 2) | ((with_reducible refine gate_dst (N := 13) rfl ?_); (try (refine gate_guard (by rfl) ?_; dsimp only)); refine box_event ?hg (N := 13) ?hd (cs := #[.int .i64 0, .int .i64 0, .int .i64 0]) (t := 45) ?hr ?_; (case hd => rfl); (case hg => rfl); (case hr => first | (go_simp; done) | (go_simp; rfl)); intro gb333 hg w35 hbox hb; have n0_ := Aside0.mk (Kd.R_below (by (with_reducible repeat (first | apply Kd.R_alloc | apply Kd.R_drewN | apply Kd.R_drew)); exact HO_8.out) hb); have n1_ := Aside0.mk (Kd.R_below (Kd.R_elderB (by (with_reducible repeat (first | apply Kd.R_alloc | apply Kd.R_drewN | apply Kd.R_drew)); exact HO_9.out) gb333 (Nat.le_of_eq hg.symm)) hb); have n2_ := Aside0.mk (Kd.R_below (Kd.R_elderB (by (with_reducible repeat (first | apply Kd.R_alloc | apply Kd.R_drewN | apply Kd.R_drew)); exact HO_10.out) gb333 (Nat.le_of_eq hg.symm)) hb); have n3_ := Aside0.mk (blk_below (g := gb331) (o := .cells #[.int .i64 ((rd_T45 l1 x42_2).f0), .int .i64 ((rd_T45 l1 x42_2).f1), .int .i64 ((rd_T45 l1 x42_2).f2)] 45 (0, 0)) (by (with_reducible repeat (first | refine blk_drewN ?_ _ | refine blk_drew ?_ | refine blk_alloc ?_ _)); exact BK331.out) hb); have n4_ := Aside0.mk (below_step (by repeat (first | (with_reducible first | exact HB.out | apply below_alloc | apply pw_below_drewN | apply below_drew1 | refine below_set ?_ GE331.out) | exact HB.out)) hb); have n5_ := Aside0.mk (hbox); have n6_ := Aside0.mk ((by rw [hg]; exact (below_size (by repeat (first | (with_reducible first | exact HB.out | apply below_alloc | apply pw_below_drewN | apply below_drew1 | refine below_set ?_ GE331.out) | exact HB.out))) : w.heap.size ≤ gb333)); have n7_ := Aside0.mk ((by rw [hg]; exact (below_size (by repeat (first | (with_reducible first | exact HB.out | apply below_alloc | apply pw_below_drewN | apply below_drew1 | refine below_set ?_ GE331.out) | exact HB.out))) : w.heap.size ≤ gb333)); have n8_ := Aside0.mk ((by rw [hg]; exact Nat.ne_of_lt (blk_lt (g := gb331) (o := .cells #[.int .i64 ((rd_T45 l1 x42_2).f0), .int .i64 ((rd_T45 l1 x42_2).f1), .int .i64 ((rd_T45 l1 x42_2).f2)] 45 (0, 0)) (by (with_reducible repeat (first | refine blk_drewN ?_ _ | refine blk_drew ?_ | refine blk_alloc ?_ _)); exact BK331.out)) : gb331 ≠ gb333)); have n9_ := Aside0.mk ((by rw [hg]; exact Nat.ne_of_gt (blk_lt (g := gb331) (o := .cells #[.int .i64 ((rd_T45 l1 x42_2).f0), .int .i64 ((rd_T45 l1 x42_2).f1), .int .i64 ((rd_T45 l1 x42_2).f2)] 45 (0, 0)) (by (with_reducible repeat (first | refine blk_drewN ?_ _ | refine blk_drew ?_ | refine blk_alloc ?_ _)); exact BK331.out)) : gb333 ≠ gb331)); clear HO_8; clear HO_9; clear HO_10; clear BK331; clear HB; have HO_8 := n0_; have HO_9 := n1_; have HO_10 := n2_; have BK331 := n3_; have HB := n4_; have BK333 := n5_; have GW333 := n6_; have GE333 := n7_; have NB331_333 := n8_; have NB333_331 := n9_; clear n0_ n1_ n2_ n3_ n4_ n5_ n6_ n7_ n8_ n9_; clear hb hbox hg; have hnb36 := NB333_331.out; have hnc36 := NB331_333.out; have hcz37_0 : w35.cell? ⟨gb333, 0, none⟩ = some (.int .i64 0) := (blk_cell BK333.out 0).trans rfl; have hcz37_1 : w35.cell? ⟨gb333, 1, none⟩ = some (.int .i64 0) := (blk_cell BK333.out 1).trans rfl; have hcz37_2 : w35.cell? ⟨gb333, 2, none⟩ = some (.int .i64 0) := (blk_cell BK333.out 2).trans rfl; have hfz37_0 := blk_frozen BK333.out 0; have hfz37_1 := blk_frozen BK333.out 1; have hfz37_2 := blk_frozen BK333.out 2; have hcz38_0 : w35.cell? ⟨gb331, 0, none⟩ = some (.int .i64 ((rd_T45 l1 x42_2).f0)) := (blk_cell BK331.out 0).trans rfl; have hcz38_1 : w35.cell? ⟨gb331, 1, none⟩ = some (.int .i64 ((rd_T45 l1 x42_2).f1)) := (blk_cell BK331.out 1).trans rfl; have hcz38_2 : w35.cell? ⟨gb331, 2, none⟩ = some (.int .i64 ((rd_T45 l1 x42_2).f2)) := (blk_cell BK331.out 2).trans rfl; have hfz38_0 := blk_frozen BK331.out 0; have hfz38_1 := blk_frozen BK331.out 1; have hfz38_2 := blk_frozen BK331.out 2) | ((with_reducible refine gate_builtin (b := .append) (xs := #[.tmp 59, .tmp 61]) rfl ?_); (try (refine gate_guard (by rfl) ?_; dsimp only)); at_builtin; refine Kd.R_append k45 (w0 := w) w.heap.size rfl (.tmp 59) (.tmp 61) 22 45 (.agg #[(.int .i64 0), (.int .i64 0), (.int .i64 0)]) 24 rfl Try.underlying22 info45 rfl (by decide) (by omega) u9 x9_2 (⟨Int.tmod (wrap64 (((rd_T45 l1 x42_2).f0) + (wrap64 (a2)))) t326, (rd_T45 l1 x42_2).f1, (rd_T45 l1 x42_2).f2⟩ : S45) [.int .i64 (Int.tmod (wrap64 (((rd_T45 l1 x42_2).f0) + (wrap64 (a2)))) t326), .int .i64 ((rd_T45 l1 x42_2).f1), .int .i64 ((rd_T45 l1 x42_2).f2)] (fun k_ => some k_ ≠ (u10 : Value).ownBlock ∧ k_ ≠ gb331 ∧ k_ ≠ gb333) (fun _ => False) rfl (by first | (go_simp; done) | (go_simp; rfl)) ?aP (fun _ hk => hk.elim) ?aF ?aO ?aB ?aS ?aL ?_; (case aP => exact k45_mkM _ _ _ (⟨Int.tmod (wrap64 (((rd_T45 l1 x42_2).f0) + (wrap64 (a2)))) t326, (rd_T45 l1 x42_2).f1, (rd_T45 l1 x42_2).f2⟩ : S45)); (case aB => exact (by repeat (first | (with_reducible first | exact HB.out | apply below_alloc | apply pw_below_drewN | apply below_drew1 | refine below_set ?_ GE331.out | refine below_set ?_ GE333.out) | exact HB.out))); (case aF => exact (fun k_ hk => ⟨Kd.fresh' (Kd.R_lt (by (with_reducible repeat (first | apply Kd.R_alloc | apply Kd.R_drewN | apply Kd.R_drew)); exact (Kd.R_mono (Kd.R_far (p := ⟨gb333, 0, none⟩) (Kd.R_far (p := ⟨gb333, 2, none⟩) (Kd.R_far (p := ⟨gb333, 1, none⟩) (Kd.R_far (p := ⟨gb333, 0, none⟩) (Kd.R_mono HO_10.out (fun k_ hk => (⟨hk, hk.2⟩ : _ ∧ k_ ≠ gb333))) (fun _ hk => hk.2) (.int .i64 ((rd_T45 l1 x42_2).f0))) (fun _ hk => hk.2) (.int .i64 ((rd_T45 l1 x42_2).f1))) (fun _ hk => hk.2) (.int .i64 ((rd_T45 l1 x42_2).f2))) (fun _ hk => hk.2) (.int .i64 (Int.tmod (wrap64 (((rd_T45 l1 x42_2).f0) + (wrap64 (a2)))) t326))) (fun _ h_ => h_.1)))) k_ hk, Kd.freshB (g := gb331) (o := .cells #[.int .i64 ((rd_T45 l1 x42_2).f0), .int .i64 ((rd_T45 l1 x42_2).f1), .int .i64 ((rd_T45 l1 x42_2).f2)] 45 (0, 0)) (by (with_reducible repeat (first | refine blk_drewN ?_ _ | refine blk_drew ?_ | refine blk_alloc ?_ _)); refine blk_far ?_ NB331_333.out _; (with_reducible repeat (first | refine blk_drewN ?_ _ | refine blk_drew ?_ | refine blk_alloc ?_ _)); refine blk_far ?_ NB331_333.out _; (with_reducible repeat (first | refine blk_drewN ?_ _ | refine blk_drew ?_ | refine blk_alloc ?_ _)); refine blk_far ?_ NB331_333.out _; (with_reducible repeat (first | refine blk_drewN ?_ _ | refine blk_drew ?_ | refine blk_alloc ?_ _)); refine blk_far ?_ NB331_333.out _; (with_reducible repeat (first | refine blk_drewN ?_ _ | refine blk_drew ?_ | refine blk_alloc ?_ _)); exact BK331.out) k_ hk, Kd.freshB (g := gb333) (o := .cells #[.int .i64 (Int.tmod (wrap64 (((rd_T45 l1 x42_2).f0) + (wrap64 (a2)))) t326), .int .i64 ((rd_T45 l1 x42_2).f1), .int .i64 ((rd_T45 l1 x42_2).f2)] 45 (0, 0)) (by (with_reducible repeat (first | refine blk_drewN ?_ _ | refine blk_drew ?_ | refine blk_alloc ?_ _)); refine blk_put (cs := #[.int .i64 ((rd_T45 l1 x42_2).f0), .int .i64 ((rd_T45 l1 x42_2).f1), .int .i64 ((rd_T45 l1 x42_2).f2)]) ?_ 0 _ rfl; (with_reducible repeat (first | refine blk_drewN ?_ _ | refine blk_drew ?_ | refine blk_alloc ?_ _)); refine blk_put (cs := #[.int .i64 ((rd_T45 l1 x42_2).f0), .int .i64 ((rd_T45 l1 x42_2).f1), .int .i64 0]) ?_ 2 _ rfl; (with_reducible repeat (first | refine blk_drewN ?_ _ | refine blk_drew ?_ | refine blk_alloc ?_ _)); refine blk_put (cs := #[.int .i64 ((rd_T45 l1 x42_2).f0), .int .i64 0, .int .i64 0]) ?_ 1 _ rfl; (with_reducible repeat (first | refine blk_drewN ?_ _ | refine blk_drew ?_ | refine blk_alloc ?_ _)); refine blk_put (cs := #[.int .i64 0, .int .i64 0, .int .i64 0]) ?_ 0 _ rfl; (with_reducible repeat (first | refine blk_drewN ?_ _ | refine blk_drew ?_ | refine blk_alloc ?_ _)); exact BK333.out) k_ hk⟩)); (case aO => exact (by (with_reducible repeat (first | apply Kd.R_alloc | apply Kd.R_drewN | apply Kd.R_drew)); exact Kd.R_mono (Kd.R_far (p := ⟨gb333, 0, none⟩) (Kd.R_far (p := ⟨gb333, 2, none⟩) (Kd.R_far (p := ⟨gb333, 1, none⟩) (Kd.R_far (p := ⟨gb333, 0, none⟩) (Kd.R_mono HO_9.out (fun k_ hk => (⟨hk, hk.2⟩ : _ ∧ k_ ≠ gb333))) (fun _ hk => hk.2) (.int .i64 ((rd_T45 l1 x42_2).f0))) (fun _ hk => hk.2) (.int .i64 ((rd_T45 l1 x42_2).f1))) (fun _ hk => hk.2) (.int .i64 ((rd_T45 l1 x42_2).f2))) (fun _ hk => hk.2) (.int .i64 (Int.tmod (wrap64 (((rd_T45 l1 x42_2).f0) + (wrap64 (a2)))) t326))) (fun _ hk => ⟨hk.1.1.1, ⟨hk.1.1.2, hk.1.2⟩⟩))); (case aS => exact (below_size (by repeat (first | (with_reducible first | exact HB.out | apply below_alloc | apply pw_below_drewN | apply below_drew1 | refine below_set ?_ GE331.out | refine below_set ?_ GE333.out) | exact HB.out)))); (case aL => have := LMc26.out; omega); intro v335 w39 ho hb hg hat; rw [← Ny334.out] at ho; have n0_ := Aside0.mk (Kd.R_over' (by (with_reducible repeat (first | apply Kd.R_alloc | apply Kd.R_drewN | apply Kd.R_drew)); exact (Kd.R_mono (Kd.R_far (p := ⟨gb333, 0, none⟩) (Kd.R_far (p := ⟨gb333, 2, none⟩) (Kd.R_far (p := ⟨gb333, 1, none⟩) (Kd.R_far (p := ⟨gb333, 0, none⟩) (Kd.R_types HO_8.out BK333.out (by decide)) (fun _ hk => hk.2) (.int .i64 ((rd_T45 l1 x42_2).f0))) (fun _ hk => hk.2) (.int .i64 ((rd_T45 l1 x42_2).f1))) (fun _ hk => hk.2) (.int .i64 ((rd_T45 l1 x42_2).f2))) (fun _ hk => hk.2) (.int .i64 (Int.tmod (wrap64 (((rd_T45 l1 x42_2).f0) + (wrap64 (a2)))) t326))) (fun _ h_ => h_.1))) (Kd.R_typed (by (with_reducible repeat (first | apply Kd.R_alloc | apply Kd.R_drewN | apply Kd.R_drew)); exact (Kd.R_mono (Kd.R_far (p := ⟨gb333, 0, none⟩) (Kd.R_far (p := ⟨gb333, 2, none⟩) (Kd.R_far (p := ⟨gb333, 1, none⟩) (Kd.R_far (p := ⟨gb333, 0, none⟩) (Kd.R_mono HO_9.out (fun k_ hk => (⟨hk, hk.2⟩ : _ ∧ k_ ≠ gb333))) (fun _ hk => hk.2) (.int .i64 ((rd_T45 l1 x42_2).f0))) (fun _ hk => hk.2) (.int .i64 ((rd_T45 l1 x42_2).f1))) (fun _ hk => hk.2) (.int .i64 ((rd_T45 l1 x42_2).f2))) (fun _ hk => hk.2) (.int .i64 (Int.tmod (wrap64 (((rd_T45 l1 x42_2).f0) + (wrap64 (a2)))) t326))) (fun _ h_ => h_.1)))) (by decide) hg); have n1_ := Aside0.mk (Kd.R_after (ok := (fun k_ => k_ ≠ gb331 ∧ k_ ≠ gb333)) (by (with_reducible repeat (first | apply Kd.R_alloc | apply Kd.R_drewN | apply Kd.R_drew)); exact Kd.R_mono (Kd.R_far (p := ⟨gb333, 0, none⟩) (Kd.R_far (p := ⟨gb333, 2, none⟩) (Kd.R_far (p := ⟨gb333, 1, none⟩) (Kd.R_far (p := ⟨gb333, 0, none⟩) (Kd.R_mono HO_10.out (fun k_ hk => (⟨hk, hk.2⟩ : _ ∧ k_ ≠ gb333))) (fun _ hk => hk.2) (.int .i64 ((rd_T45 l1 x42_2).f0))) (fun _ hk => hk.2) (.int .i64 ((rd_T45 l1 x42_2).f1))) (fun _ hk => hk.2) (.int .i64 ((rd_T45 l1 x42_2).f2))) (fun _ hk => hk.2) (.int .i64 (Int.tmod (wrap64 (((rd_T45 l1 x42_2).f0) + (wrap64 (a2)))) t326))) (fun _ hk => ⟨⟨hk.1.1.2, hk.1.2⟩, hk.1.1.1⟩)) hg hat); have n2_ := Aside0.mk (blk_grown (g := gb331) (o := .cells #[.int .i64 ((rd_T45 l1 x42_2).f0), .int .i64 ((rd_T45 l1 x42_2).f1), .int .i64 ((rd_T45 l1 x42_2).f2)] 45 (0, 0)) (by (with_reducible repeat (first | refine blk_drewN ?_ _ | refine blk_drew ?_ | refine blk_alloc ?_ _)); refine blk_far ?_ NB331_333.out _; (with_reducible repeat (first | refine blk_drewN ?_ _ | refine blk_drew ?_ | refine blk_alloc ?_ _)); refine blk_far ?_ NB331_333.out _; (with_reducible repeat (first | refine blk_drewN ?_ _ | refine blk_drew ?_ | refine blk_alloc ?_ _)); refine blk_far ?_ NB331_333.out _; (with_reducible repeat (first | refine blk_drewN ?_ _ | refine blk_drew ?_ | refine blk_alloc ?_ _)); refine blk_far ?_ NB331_333.out _; (with_reducible repeat (first | refine blk_drewN ?_ _ | refine blk_drew ?_ | refine blk_alloc ?_ _)); exact BK331.out) hg (Kd.R_away HO_9.out (fun _ hk => hk.1.2))); have n3_ := Aside0.mk (blk_grown (g := gb333) (o := .cells #[.int .i64 (Int.tmod (wrap64 (((rd_T45 l1 x42_2).f0) + (wrap64 (a2)))) t326), .int .i64 ((rd_T45 l1 x42_2).f1), .int .i64 ((rd_T45 l1 x42_2).f2)] 45 (0, 0)) (by (with_reducible repeat (first | refine blk_drewN ?_ _ | refine blk_drew ?_ | refine blk_alloc ?_ _)); refine blk_put (cs := #[.int .i64 ((rd_T45 l1 x42_2).f0), .int .i64 ((rd_T45 l1 x42_2).f1), .int .i64 ((rd_T45 l1 x42_2).f2)]) ?_ 0 _ rfl; (with_reducible repeat (first | refine blk_drewN ?_ _ | refine blk_drew ?_ | refine blk_alloc ?_ _)); refine blk_put (cs := #[.int .i64 ((rd_T45 l1 x42_2).f0), .int .i64 ((rd_T45 l1 x42_2).f1), .int .i64 0]) ?_ 2 _ rfl; (with_reducible repeat (first | refine blk_drewN ?_ _ | refine blk_drew ?_ | refine blk_alloc ?_ _)); refine blk_put (cs := #[.int .i64 ((rd_T45 l1 x42_2).f0), .int .i64 0, .int .i64 0]) ?_ 1 _ rfl; (with_reducible repeat (first | refine blk_drewN ?_ _ | refine blk_drew ?_ | refine blk_alloc ?_ _)); refine blk_put (cs := #[.int .i64 0, .int .i64 0, .int .i64 0]) ?_ 0 _ rfl; (with_reducible repeat (first | refine blk_drewN ?_ _ | refine blk_drew ?_ | refine blk_alloc ?_ _)); exact BK333.out) hg (Kd.R_away HO_9.out (fun _ hk => hk.2))); have n4_ := Aside0.mk (hb); have n5_ := Aside0.mk (ho); clear HO_8; clear HO_10; clear BK331; clear BK333; clear HB; clear HO_9; have HO_8 := n0_; have HO_10 := n1_; have BK331 := n2_; have BK333 := n3_; have HB := n4_; have HO336 := n5_; clear n0_ n1_ n2_ n3_ n4_ n5_; clear ho hb hg hat; have hcz40_0 : w39.cell? ⟨gb331, 0, none⟩ = some (.int .i64 ((rd_T45 l1 x42_2).f0)) := (blk_cell BK331.out 0).trans rfl; have hcz40_1 : w39.cell? ⟨gb331, 1, none⟩ = some (.int .i64 ((rd_T45 l1 x42_2).f1)) := (blk_cell BK331.out 1).trans rfl; have hcz40_2 : w39.cell? ⟨gb331, 2, none⟩ = some (.int .i64 ((rd_T45 l1 x42_2).f2)) := (blk_cell BK331.out 2).trans rfl; have hfz40_0 := blk_frozen BK331.out 0; have hfz40_1 := blk_frozen BK331.out 1; have hfz40_2 := blk_frozen BK331.out 2; have hcz41_0 : w39.cell? ⟨gb333, 0, none⟩ = some (.int .i64 (Int.tmod (wrap64 (((rd_T45 l1 x42_2).f0) + (wrap64 (a2)))) t326)) := (blk_cell BK333.out 0).trans rfl; have hcz41_1 : w39.cell? ⟨gb333, 1, none⟩ = some (.int .i64 ((rd_T45 l1 x42_2).f1)) := (blk_cell BK333.out 1).trans rfl; have hcz41_2 : w39.cell? ⟨gb333, 2, none⟩ = some (.int .i64 ((rd_T45 l1 x42_2).f2)) := (blk_cell BK333.out 2).trans rfl; have hfz41_0 := blk_frozen BK333.out 0; have hfz41_1 := blk_frozen BK333.out 1; have hfz41_2 := blk_frozen BK333.out 2) | ((with_reducible refine gate_builtin (b := .append) (xs := #[.tmp 69, .tmp 71]) rfl ?_); (try (refine gate_guard (by rfl) ?_; dsimp only)); at_builtin; refine Kd.R_append k45 (w0 := w) w.heap.size rfl (.tmp 69) (.tmp 71) 22 45 (.agg #[(.int .i64 0), (.int .i64 0), (.int .i64 0)]) 24 rfl Try.underlying22 info45 rfl (by decide) (by omega) u10 x10_2 (⟨wrap64 ((wrap64 (t326 - 1)) - ((rd_T45 l1 x42_2).f0)), (rd_T45 l1 x42_2).f1, (rd_T45 l1 x42_2).f2⟩ : S45) [.int .i64 (wrap64 ((wrap64 (t326 - 1)) - ((rd_T45 l1 x42_2).f0))), .int .i64 ((rd_T45 l1 x42_2).f1), .int .i64 ((rd_T45 l1 x42_2).f2)] (fun k_ => some k_ ≠ (v335 : Value).ownBlock ∧ k_ ≠ gb331 ∧ k_ ≠ gb333) (fun _ => False) rfl (by first | (go_simp; done) | (go_simp; rfl)) ?aP (fun _ hk => hk.elim) ?aF ?aO ?aB ?aS ?aL ?_; (case aP => exact k45_mkM _ _ _ (⟨wrap64 ((wrap64 (t326 - 1)) - ((rd_T45 l1 x42_2).f0)), (rd_T45 l1 x42_2).f1, (rd_T45 l1 x42_2).f2⟩ : S45)); (case aB => exact (by repeat (first | (with_reducible first | exact HB.out | apply below_alloc | apply pw_below_drewN | apply below_drew1 | refine below_set ?_ GE331.out | refine below_set ?_ GE333.out) | exact HB.out))); (case aF => exact (fun k_ hk => ⟨Kd.fresh' (Kd.R_lt (by (with_reducible repeat (first | apply Kd.R_alloc | apply Kd.R_drewN | apply Kd.R_drew)); exact (Kd.R_mono (Kd.R_far (p := ⟨gb333, 0, none⟩) (Kd.R_mono HO336.out (fun k_ hk => (⟨hk, hk.2.2⟩ : _ ∧ k_ ≠ gb333))) (fun _ hk => hk.2) (.int .i64 (wrap64 ((wrap64 (t326 - 1)) - ((rd_T45 l1 x42_2).f0))))) (fun _ h_ => h_.1)))) k_ hk, Kd.freshB (g := gb331) (o := .cells #[.int .i64 ((rd_T45 l1 x42_2).f0), .int .i64 ((rd_T45 l1 x42_2).f1), .int .i64 ((rd_T45 l1 x42_2).f2)] 45 (0, 0)) (by (with_reducible repeat (first | refine blk_drewN ?_ _ | refine blk_drew ?_ | refine blk_alloc ?_ _)); refine blk_far ?_ NB331_333.out _; (with_reducible repeat (first | refine blk_drewN ?_ _ | refine blk_drew ?_ | refine blk_alloc ?_ _)); exact BK331.out) k_ hk, Kd.freshB (g := gb333) (o := .cells #[.int .i64 (wrap64 ((wrap64 (t326 - 1)) - ((rd_T45 l1 x42_2).f0))), .int .i64 ((rd_T45 l1 x42_2).f1), .int .i64 ((rd_T45 l1 x42_2).f2)] 45 (0, 0)) (by (with_reducible repeat (first | refine blk_drewN ?_ _ | refine blk_drew ?_ | refine blk_alloc ?_ _)); refine blk_put (cs := #[.int .i64 (Int.tmod (wrap64 (((rd_T45 l1 x42_2).f0) + (wrap64 (a2)))) t326), .int .i64 ((rd_T45 l1 x42_2).f1), .int .i64 ((rd_T45 l1 x42_2).f2)]) ?_ 0 _ rfl; (with_reducible repeat (first | refine blk_drewN ?_ _ | refine blk_drew ?_ | refine blk_alloc ?_ _)); exact BK333.out) k_ hk⟩)); (case aO => exact (by (with_reducible repeat (first | apply Kd.R_alloc | apply Kd.R_drewN | apply Kd.R_drew)); exact Kd.R_mono (Kd.R_far (p := ⟨gb333, 0, none⟩) (Kd.R_mono HO_10.out (fun k_ hk => (⟨hk, hk.1.2⟩ : _ ∧ k_ ≠ gb333))) (fun _ hk => hk.2) (.int .i64 (wrap64 ((wrap64 (t326 - 1)) - ((rd_T45 l1 x42_2).f0))))) (fun _ hk => ⟨hk.1.2, ⟨hk.1.1.1, hk.1.1.2⟩⟩))); (case aS => exact (below_size (by repeat (first | (with_reducible first | exact HB.out | apply below_alloc | apply pw_below_drewN | apply below_drew1 | refine below_set ?_ GE331.out | refine below_set ?_ GE333.out) | exact HB.out)))); (case aL => have := LMc27.out; omega); intro v338 w42 ho hb hg hat; rw [← Ny337.out] at ho; have n0_ := Aside0.mk (Kd.R_over' (by (with_reducible repeat (first | apply Kd.R_alloc | apply Kd.R_drewN | apply Kd.R_drew)); exact (Kd.R_mono (Kd.R_far (p := ⟨gb333, 0, none⟩) (Kd.R_types HO_8.out BK333.out (by decide)) (fun _ hk => hk.2) (.int .i64 (wrap64 ((wrap64 (t326 - 1)) - ((rd_T45 l1 x42_2).f0))))) (fun _ h_ => h_.1))) (Kd.R_typed (by (with_reducible repeat (first | apply Kd.R_alloc | apply Kd.R_drewN | apply Kd.R_drew)); exact (Kd.R_mono (Kd.R_far (p := ⟨gb333, 0, none⟩) (Kd.R_mono HO_10.out (fun k_ hk => (⟨hk, hk.1.2⟩ : _ ∧ k_ ≠ gb333))) (fun _ hk => hk.2) (.int .i64 (wrap64 ((wrap64 (t326 - 1)) - ((rd_T45 l1 x42_2).f0))))) (fun _ h_ => h_.1)))) (by decide) hg); have n1_ := Aside0.mk (blk_grown (g := gb331) (o := .cells #[.int .i64 ((rd_T45 l1 x42_2).f0), .int .i64 ((rd_T45 l1 x42_2).f1), .int .i64 ((rd_T45 l1 x42_2).f2)] 45 (0, 0)) (by (with_reducible repeat (first | refine blk_drewN ?_ _ | refine blk_drew ?_ | refine blk_alloc ?_ _)); refine blk_far ?_ NB331_333.out _; (with_reducible repeat (first | refine blk_drewN ?_ _ | refine blk_drew ?_ | refine blk_alloc ?_ _)); exact BK331.out) hg (Kd.R_away HO_10.out (fun _ hk => hk.1.1))); have n2_ := Aside0.mk (blk_grown (g := gb333) (o := .cells #[.int .i64 (wrap64 ((wrap64 (t326 - 1)) - ((rd_T45 l1 x42_2).f0))), .int .i64 ((rd_T45 l1 x42_2).f1), .int .i64 ((rd_T45 l1 x42_2).f2)] 45 (0, 0)) (by (with_reducible repeat (first | refine blk_drewN ?_ _ | refine blk_drew ?_ | refine blk_alloc ?_ _)); refine blk_put (cs := #[.int .i64 (Int.tmod (wrap64 (((rd_T45 l1 x42_2).f0) + (wrap64 (a2)))) t326), .int .i64 ((rd_T45 l1 x42_2).f1), .int .i64 ((rd_T45 l1 x42_2).f2)]) ?_ 0 _ rfl; (with_reducible repeat (first | refine blk_drewN ?_ _ | refine blk_drew ?_ | refine blk_alloc ?_ _)); exact BK333.out) hg (Kd.R_away HO_10.out (fun _ hk => hk.1.2))); have n3_ := Aside0.mk (Kd.R_after (ok := (fun k_ => k_ ≠ gb331 ∧ k_ ≠ gb333)) (by (with_reducible repeat (first | apply Kd.R_alloc | apply Kd.R_drewN | apply Kd.R_drew)); exact Kd.R_mono (Kd.R_far (p := ⟨gb333, 0, none⟩) (Kd.R_mono HO336.out (fun k_ hk => (⟨hk, hk.2.2⟩ : _ ∧ k_ ≠ gb333))) (fun _ hk => hk.2) (.int .i64 (wrap64 ((wrap64 (t326 - 1)) - ((rd_T45 l1 x42_2).f0))))) (fun _ hk => ⟨⟨hk.1.2.1, hk.1.2.2⟩, hk.1.1⟩)) hg hat); have n4_ := Aside0.mk (hb); have n5_ := Aside0.mk (ho); clear HO_8; clear BK331; clear BK333; clear HO336; clear HB; clear HO_10; have HO_8 := n0_; have BK331 := n1_; have BK333 := n2_; have HO336 := n3_; have HB := n4_; have HO339 := n5_; clear n0_ n1_ n2_ n3_ n4_ n5_; clear ho hb hg hat))
                                  repeat (go_quiet (first | ((with_reducible refine gate_dst (N := 12) rfl ?_); (try (refine gate_guard (by rfl) ?_; dsimp only)); refine box_event ?hg (N := 12) ?hd (cs := #[.int .i64 0, .int .i64 0, .int .i64 0]) (t := 45) ?hr ?_; (case hd => rfl); (case hg => rfl); (case hr => first | (go_simp; done) | (go_simp; rfl)); intro gb331 hg w28 hbox hb; have n0_ := Aside0.mk (Kd.R_below (by (with_reducible repeat (first | apply Kd.R_alloc | apply Kd.R_drewN | apply Kd.R_drew)); exact HO_8.out) hb); have n1_ := Aside0.mk (Kd.R_below (Kd.R_elderB (by (with_reducible repeat (first | apply Kd.R_alloc | apply Kd.R_drewN | apply Kd.R_drew)); exact HO_9.out) gb331 (Nat.le_of_eq hg.symm)) hb); have n2_ := Aside0.mk (Kd.R_below (Kd.R_elderB (by (with_reducible repeat (first | apply Kd.R_alloc | apply Kd.R_drewN | apply Kd.R_drew)); exact HO_10.out) gb331 (Nat.le_of_eq hg.symm)) hb); have n3_ := Aside0.mk (below_step (by repeat (first | (with_reducible first | exact HB.out | apply below_alloc | apply pw_below_drewN | apply below_drew1) | exact HB.out)) hb); have n4_ := Aside0.mk (hbox); have n5_ := Aside0.mk ((by rw [hg]; exact (below_size (by repeat (first | (with_reducible first | exact HB.out | apply below_alloc | apply pw_below_drewN | apply below_drew1) | exact HB.out))) : w.heap.size ≤ gb331)); have n6_ := Aside0.mk ((by rw [hg]; exact (below_size (by repeat (first | (with_reducible first | exact HB.out | apply below_alloc | apply pw_below_drewN | apply below_drew1) | exact HB.out))) : w.heap.size ≤ gb331)); clear HO_8; clear HO_9; clear HO_10; clear HB; have HO_8 := n0_; have HO_9 := n1_; have HO_10 := n2_; have HB := n3_; have BK331 := n4_; have GW331 := n5_; have GE331 := n6_; clear n0_ n1_ n2_ n3_ n4_ n5_ n6_; clear hb hbox hg; have hcz29_0 : w28.cell? ⟨gb331, 0, none⟩ = some (.int .i64 0) := (blk_cell BK331.out 0).trans rfl; have hcz29_1 : w28.cell? ⟨gb331, 1, none⟩ = some (.int .i64 0) := (blk_cell BK331.out 1).trans rfl; have hcz29_2 : w28.cell? ⟨gb331, 2, none⟩ = some (.int .i64 0) := (blk_cell BK331.out 2).trans rfl; have hfz29_0 := blk_frozen BK331.out 0; have hfz29_1 := blk_frozen BK331.out 1; have hfz29_2 := blk_frozen BK331.out 2) | ((with_reducible refine gate_store (t := 45) (p := 12) rfl ?_); (try (rw [drewN_self w28]; generalize hq_ : World.drewN w28 _ = w28; have n0_ := Aside0.mk (Kd.R_at hq_ HO_8.out); have n1_ := Aside0.mk (Kd.R_at hq_ HO_9.out); have n2_ := Aside0.mk (Kd.R_at hq_ HO_10.out); have n3_ := Aside0.mk (blk_at hq_ BK331.out); have n4_ := Aside0.mk (below_at hq_ HB.out); clear hq_ HO_8 HO_9 HO_10 BK331 HB; have HO_8 := n0_; have HO_9 := n1_; have HO_10 := n2_; have BK331 := n3_; have HB := n4_; clear n0_ n1_ n2_ n3_ n4_)); refine store_event (t := 45) (p := 12) (v := ?vo_w30) (w1 := (((w28.setCell ⟨gb331, 0, none⟩ (.int .i64 ((rd_T45 l1 x42_2).f0))).setCell ⟨gb331, 1, none⟩ (.int .i64 ((rd_T45 l1 x42_2).f1))).setCell ⟨gb331, 2, none⟩ (.int .i64 ((rd_T45 l1 x42_2).f2)))) ?hg ?ho ?hn ?hr ?_; (case ho => rfl); (case hg => rfl); (case hn => rfl); (case hr => first | (go_simp; done) | (go_simp; rfl)); intro w30 hw; have n0_ : Aside0 (Kd.R Kd.bool 4 w30 w.heap.size (fun _ => True) v328 x8_2) := ⟨(by rw [hw]; exact (by (with_reducible repeat (first | apply Kd.R_alloc | apply Kd.R_drewN | apply Kd.R_drew)); exact Kd.R_mono (Kd.R_far (p := ⟨gb331, 2, none⟩) (Kd.R_far (p := ⟨gb331, 1, none⟩) (Kd.R_far (p := ⟨gb331, 0, none⟩) (Kd.R_types HO_8.out BK331.out (by decide)) (fun _ hk => hk.2) (.int .i64 ((rd_T45 l1 x42_2).f0))) (fun _ hk => hk.2) (.int .i64 ((rd_T45 l1 x42_2).f1))) (fun _ hk => hk.2) (.int .i64 ((rd_T45 l1 x42_2).f2))) (fun _ hk => trivial)))⟩; have n1_ : Aside0 (Kd.R k45 45 w30 w.heap.size (fun k_ => some k_ ≠ (u10 : Value).ownBlock ∧ k_ ≠ gb331) u9 x9_2) := ⟨(by rw [hw]; exact (by (with_reducible repeat (first | apply Kd.R_alloc | apply Kd.R_drewN | apply Kd.R_drew)); exact Kd.R_mono (Kd.R_far (p := ⟨gb331, 2, none⟩) (Kd.R_far (p := ⟨gb331, 1, none⟩) (Kd.R_far (p := ⟨gb331, 0, none⟩) (Kd.R_mono HO_9.out (fun k_ hk => (⟨hk, hk.2⟩ : _ ∧ k_ ≠ gb331))) (fun _ hk => hk.2) (.int .i64 ((rd_T45 l1 x42_2).f0))) (fun _ hk => hk.2) (.int .i64 ((rd_T45 l1 x42_2).f1))) (fun _ hk => hk.2) (.int .i64 ((rd_T45 l1 x42_2).f2))) (fun _ hk => ⟨hk.1.1, hk.1.2⟩)))⟩; have n2_ : Aside0 (Kd.R k45 45 w30 w.heap.size (fun k_ => some k_ ≠ (u9 : Value).ownBlock ∧ k_ ≠ gb331) u10 x10_2) := ⟨(by rw [hw]; exact (by (with_reducible repeat (first | apply Kd.R_alloc | apply Kd.R_drewN | apply Kd.R_drew)); exact Kd.R_mono (Kd.R_far (p := ⟨gb331, 2, none⟩) (Kd.R_far (p := ⟨gb331, 1, none⟩) (Kd.R_far (p := ⟨gb331, 0, none⟩) (Kd.R_mono HO_10.out (fun k_ hk => (⟨hk, hk.2⟩ : _ ∧ k_ ≠ gb331))) (fun _ hk => hk.2) (.int .i64 ((rd_T45 l1 x42_2).f0))) (fun _ hk => hk.2) (.int .i64 ((rd_T45 l1 x42_2).f1))) (fun _ hk => hk.2) (.int .i64 ((rd_T45 l1 x42_2).f2))) (fun _ hk => ⟨hk.1.1, hk.1.2⟩)))⟩; have n3_ : Aside0 (w30.heap[gb331]? = some (.cells #[.int .i64 ((rd_T45 l1 x42_2).f0), .int .i64 ((rd_T45 l1 x42_2).f1), .int .i64 ((rd_T45 l1 x42_2).f2)] 45 (0, 0))) := ⟨(by rw [hw]; exact (by (with_reducible repeat (first | refine blk_drewN ?_ _ | refine blk_drew ?_ | refine blk_alloc ?_ _)); refine blk_put (cs := #[.int .i64 ((rd_T45 l1 x42_2).f0), .int .i64 ((rd_T45 l1 x42_2).f1), .int .i64 0]) ?_ 2 _ rfl; (with_reducible repeat (first | refine blk_drewN ?_ _ | refine blk_drew ?_ | refine blk_alloc ?_ _)); refine blk_put (cs := #[.int .i64 ((rd_T45 l1 x42_2).f0), .int .i64 0, .int .i64 0]) ?_ 1 _ rfl; (with_reducible repeat (first | refine blk_drewN ?_ _ | refine blk_drew ?_ | refine blk_alloc ?_ _)); refine blk_put (cs := #[.int .i64 0, .int .i64 0, .int .i64 0]) ?_ 0 _ rfl; (with_reducible repeat (first | refine blk_drewN ?_ _ | refine blk_drew ?_ | refine blk_alloc ?_ _)); exact BK331.out))⟩; have n4_ : Aside0 (Below w.heap.size w w30) := ⟨(by rw [hw]; exact (by repeat (first | (with_reducible first | exact HB.out | apply below_alloc | apply pw_below_drewN | apply below_drew1 | refine below_set ?_ GE331.out) | exact HB.out)))⟩; clear hw; clear HO_8; clear HO_9; clear HO_10; clear BK331; clear HB; have HO_8 := n0_; have HO_9 := n1_; have HO_10 := n2_; have BK331 := n3_; have HB := n4_; clear n0_ n1_ n2_ n3_ n4_; have hcz31_0 : w30.cell? ⟨gb331, 0, none⟩ = some (.int .i64 ((rd_T45 l1 x42_2).f0)) := (blk_cell BK331.out 0).trans rfl; have hcz31_1 : w30.cell? ⟨gb331, 1, none⟩ = some (.int .i64 ((rd_T45 l1 x42_2).f1)) := (blk_cell BK331.out 1).trans rfl; have hcz31_2 : w30.cell? ⟨gb331, 2, none⟩ = some (.int .i64 ((rd_T45 l1 x42_2).f2)) := (blk_cell BK331.out 2).trans rfl; have hfz31_0 := blk_frozen BK331.out 0; have hfz31_1 := blk_frozen BK331.out 1; have hfz31_2 := blk_frozen BK331.out 2; have p24 : 0 ≤ (((rd_T45 l1 x42_2).f0) : Int) := of_decide_eq_true (by first | (with_reducible assumption) | assumption); have q24 : (((rd_T45 l1 x42_2).f0) : Int) < ((x8_2.length : Int) : Int) := of_decide_eq_true (by first | (with_reducible assumption) | assumption); obtain ⟨go24, co24, eo24, gb24, gl24, cl24, HG24⟩ := Kd.R_form HO_8.out (by omega); (first | cases eo24 | (injection eo24 with ea_ en_ ec_; (first | subst ea_ | (injection ea_ with ea_; subst ea_)); subst ec_; clear en_)); have GB24 := Aside0.mk gb24; have GG24 := Aside0.mk HG24; clear gb24 gl24 HG24; obtain ⟨hx24_0, hf24_0⟩ := Kd.R_celln false HO_8.out (((rd_T45 l1 x42_2).f0) : Int) p24 q24; replace p24 := eq_true p24; replace q24 := eq_true q24; obtain ⟨hy32_, hz32_⟩ := Kd.R_celln false HO_8.out (((rd_T45 l1 x42_2).f0) : Int) (of_decide_eq_true (by first | (with_reducible assumption) | assumption)) (of_decide_eq_true (by first | (with_reducible assumption) | assumption)); have HP32 := Kd.R_putg HO_8.out (((rd_T45 l1 x42_2).f0) : Int) true) | ((with_reducible refine gate_store (t := 4) (p := 49) rfl ?_); (try (rw [drewN_self w30]; generalize hq_ : World.drewN w30 _ = w30; have n0_ := Aside0.mk (Kd.R_at hq_ HO_8.out); have n1_ := Aside0.mk (Kd.R_at hq_ HO_9.out); have n2_ := Aside0.mk (Kd.R_at hq_ HO_10.out); have n3_ := Aside0.mk (blk_at hq_ BK331.out); have n4_ := Aside0.mk (below_at hq_ HB.out); clear hq_ HO_8 HO_9 HO_10 BK331 HB; have HO_8 := n0_; have HO_9 := n1_; have HO_10 := n2_; have BK331 := n3_; have HB := n4_; clear n0_ n1_ n2_ n3_ n4_; (try (obtain ⟨hy32_, hz32_⟩ := Kd.R_celln false HO_8.out (((rd_T45 l1 x42_2).f0) : Int) (of_decide_eq_true (by first | (with_reducible assumption) | assumption)) (of_decide_eq_true (by first | (with_reducible assumption) | assumption)))); (try (have HP32 := Kd.R_putg HO_8.out (((rd_T45 l1 x42_2).f0) : Int) true)))); refine store_event (t := 4) (p := 49) (v := ?vo_w33) (w1 := (w30.setCell ⟨go24, (((rd_T45 l1 x42_2).f0) : Int).toNat, none⟩ (.bool true))) ?hg ?ho ?hn ?hr ?_; (case ho => rfl); (case hg => rfl); (case hn => rfl); (case hr => first | (go_simp; done) | (go_simp; rfl)); intro w33 hw; have hg : w30.grownBy w33 (some go24) := (by rw [hw]; exact HP32.2); have hp_ : Kd.R Kd.bool 4 w33 w.heap.size (fun _ => True) (.slice (some ⟨go24, 0, none⟩) x8_2.length co24) y332 := (by rw [hw, Ny332.out]; exact HP32.1); clear HP32; have n0_ := Aside0.mk (hp_); have n1_ := Aside0.mk (Kd.R_over' (v := (.slice (some ⟨go24, 0, none⟩) x8_2.length co24)) (by (with_reducible repeat (first | apply Kd.R_alloc | apply Kd.R_drewN | apply Kd.R_drew)); exact HO_9.out) (Kd.R_typed HO_8.out) (by decide) hg); have n2_ := Aside0.mk (Kd.R_over' (v := (.slice (some ⟨go24, 0, none⟩) x8_2.length co24)) (by (with_reducible repeat (first | apply Kd.R_alloc | apply Kd.R_drewN | apply Kd.R_drew)); exact HO_10.out) (Kd.R_typed HO_8.out) (by decide) hg); have n3_ := Aside0.mk (blk_grown (g := gb331) (o := .cells #[.int .i64 ((rd_T45 l1 x42_2).f0), .int .i64 ((rd_T45 l1 x42_2).f1), .int .i64 ((rd_T45 l1 x42_2).f2)] 45 (0, 0)) (by (with_reducible repeat (first | refine blk_drewN ?_ _ | refine blk_drew ?_ | refine blk_alloc ?_ _)); exact BK331.out) hg (Kd.R_ne HO_8.out BK331.out (by decide))); have n4_ := Aside0.mk ((by rw [hw]; exact below_set (HB.out) GB24.out : Below w.heap.size w w33)); clear HO_8; clear HO_9; clear HO_10; clear BK331; clear HB; have HO_8 := n0_; have HO_9 := n1_; have HO_10 := n2_; have BK331 := n3_; have HB := n4_; clear n0_ n1_ n2_ n3_ n4_; clear hg hw hp_; have hcz34_0 : w33.cell? ⟨gb331, 0, none⟩ = some (.int .i64 ((rd_T45 l1 x42_2).f0)) := (blk_cell BK331.out 0).trans rfl; have hcz34_1 : w33.cell? ⟨gb331, 1, none⟩ = some (.int .i64 ((rd_T45 l1 x42_2).f1)) := (blk_cell BK331.out 1).trans rfl; have hcz34_2 : w33.cell? ⟨gb331, 2, none⟩ = some (.int .i64 ((rd_T45 l1 x42_2).f2)) := (blk_cell BK331.out 2).trans rfl; have hfz34_0 := blk_frozen BK331.out 0; have hfz34_1 := blk_frozen BK331.out 1; have hfz34_2 := blk_frozen BK331.out 2) | ((with_reducible refine gate_dst (N := 13) rfl ?_); (try (refine gate_guard (by rfl) ?_; dsimp only)); refine box_event ?hg (N := 13) ?hd (cs := #[.int .i64 0, .int .i64 0, .int .i64 0]) (t := 45) ?hr ?_; (case hd => rfl); (case hg => rfl); (case hr => first | (go_simp; done) | (go_simp; rfl)); intro gb333 hg w35 hbox hb; have n0_ := Aside0.mk (Kd.R_below (by (with_reducible repeat (first | apply Kd.R_alloc | apply Kd.R_drewN | apply Kd.R_drew)); exact HO_8.out) hb); have n1_ := Aside0.mk (Kd.R_below (Kd.R_elderB (by (with_reducible repeat (first | apply Kd.R_alloc | apply Kd.R_drewN | apply Kd.R_drew)); exact HO_9.out) gb333 (Nat.le_of_eq hg.symm)) hb); have n2_ := Aside0.mk (Kd.R_below (Kd.R_elderB (by (with_reducible repeat (first | apply Kd.R_alloc | apply Kd.R_drewN | apply Kd.R_drew)); exact HO_10.out) gb333 (Nat.le_of_eq hg.symm)) hb); have n3_ := Aside0.mk (blk_below (g := gb331) (o := .cells #[.int .i64 ((rd_T45 l1 x42_2).f0), .int .i64 ((rd_T45 l1 x42_2).f1), .int .i64 ((rd_T45 l1 x42_2).f2)] 45 (0, 0)) (by (with_reducible repeat (first | refine blk_drewN ?_ _ | refine blk_drew ?_ | refine blk_alloc ?_ _)); exact BK331.out) hb); have n4_ := Aside0.mk (below_step (by repeat (first | (with_reducible first | exact HB.out | apply below_alloc | apply pw_below_drewN | apply below_drew1 | refine below_set ?_ GE331.out) | exact HB.out)) hb); have n5_ := Aside0.mk (hbox); have n6_ := Aside0.mk ((by rw [hg]; exact (below_size (by repeat (first | (with_reducible first | exact HB.out | apply below_alloc | apply pw_below_drewN | apply below_drew1 | refine below_set ?_ GE331.out) | exact HB.out))) : w.heap.size ≤ gb333)); have n7_ := Aside0.mk ((by rw [hg]; exact (below_size (by repeat (first | (with_reducible first | exact HB.out | apply below_alloc | apply pw_below_drewN | apply below_drew1 | refine below_set ?_ GE331.out) | exact HB.out))) : w.heap.size ≤ gb333)); have n8_ := Aside0.mk ((by rw [hg]; exact Nat.ne_of_lt (blk_lt (g := gb331) (o := .cells #[.int .i64 ((rd_T45 l1 x42_2).f0), .int .i64 ((rd_T45 l1 x42_2).f1), .int .i64 ((rd_T45 l1 x42_2).f2)] 45 (0, 0)) (by (with_reducible repeat (first | refine blk_drewN ?_ _ | refine blk_drew ?_ | refine blk_alloc ?_ _)); exact BK331.out)) : gb331 ≠ gb333)); have n9_ := Aside0.mk ((by rw [hg]; exact Nat.ne_of_gt (blk_lt (g := gb331) (o := .cells #[.int .i64 ((rd_T45 l1 x42_2).f0), .int .i64 ((rd_T45 l1 x42_2).f1), .int .i64 ((rd_T45 l1 x42_2).f2)] 45 (0, 0)) (by (with_reducible repeat (first | refine blk_drewN ?_ _ | refine blk_drew ?_ | refine blk_alloc ?_ _)); exact BK331.out)) : gb333 ≠ gb331)); clear HO_8; clear HO_9; clear HO_10; clear BK331; clear HB; have HO_8 := n0_; have HO_9 := n1_; have HO_10 := n2_; have BK331 := n3_; have HB := n4_; have BK333 := n5_; have GW333 := n6_; have GE333 := n7_; have NB331_333 := n8_; have NB333_331 := n9_; clear n0_ n1_ n2_ n3_ n4_ n5_ n6_ n7_ n8_ n9_; clear hb hbox hg; have hnb36 := NB333_331.out; have hnc36 := NB331_333.out; have hcz37_0 : w35.cell? ⟨gb333, 0, none⟩ = some (.int .i64 0) := (blk_cell BK333.out 0).trans rfl; have hcz37_1 : w35.cell? ⟨gb333, 1, none⟩ = some (.int .i64 0) := (blk_cell BK333.out 1).trans rfl; have hcz37_2 : w35.cell? ⟨gb333, 2, none⟩ = some (.int .i64 0) := (blk_cell BK333.out 2).trans rfl; have hfz37_0 := blk_frozen BK333.out 0; have hfz37_1 := blk_frozen BK333.out 1; have hfz37_2 := blk_frozen BK333.out 2; have hcz38_0 : w35.cell? ⟨gb331, 0, none⟩ = some (.int .i64 ((rd_T45 l1 x42_2).f0)) := (blk_cell BK331.out 0).trans rfl; have hcz38_1 : w35.cell? ⟨gb331, 1, none⟩ = some (.int .i64 ((rd_T45 l1 x42_2).f1)) := (blk_cell BK331.out 1).trans rfl; have hcz38_2 : w35.cell? ⟨gb331, 2, none⟩ = some (.int .i64 ((rd_T45 l1 x42_2).f2)) := (blk_cell BK331.out 2).trans rfl; have hfz38_0 := blk_frozen BK331.out 0; have hfz38_1 := blk_frozen BK331.out 1; have hfz38_2 := blk_frozen BK331.out 2) | ((with_reducible refine gate_builtin (b := .append) (xs := #[.tmp 59, .tmp 61]) rfl ?_); (try (refine gate_guard (by rfl) ?_; dsimp only)); at_builtin; refine Kd.R_append k45 (w0 := w) w.heap.size rfl (.tmp 59) (.tmp 61) 22 45 (.agg #[(.int .i64 0), (.int .i64 0), (.int .i64 0)]) 24 rfl Try.underlying22 info45 rfl (by decide) (by omega) u9 x9_2 (⟨Int.tmod (wrap64 (((rd_T45 l1 x42_2).f0) + (wrap64 (a2)))) t326, (rd_T45 l1 x42_2).f1, (rd_T45 l1 x42_2).f2⟩ : S45) [.int .i64 (Int.tmod (wrap64 (((rd_T45 l1 x42_2).f0) + (wrap64 (a2)))) t326), .int .i64 ((rd_T45 l1 x42_2).f1), .int .i64 ((rd_T45 l1 x42_2).f2)] (fun k_ => some k_ ≠ (u10 : Value).ownBlock ∧ k_ ≠ gb331 ∧ k_ ≠ gb333) (fun _ => False) rfl (by first | (go_simp; done) | (go_simp; rfl)) ?aP (fun _ hk => hk.elim) ?aF ?aO ?aB ?aS ?aL ?_; (case aP => exact k45_mkM _ _ _ (⟨Int.tmod (wrap64 (((rd_T45 l1 x42_2).f0) + (wrap64 (a2)))) t326, (rd_T45 l1 x42_2).f1, (rd_T45 l1 x42_2).f2⟩ : S45)); (case aB => exact (by repeat (first | (with_reducible first | exact HB.out | apply below_alloc | apply pw_below_drewN | apply below_drew1 | refine below_set ?_ GE331.out | refine below_set ?_ GE333.out) | exact HB.out))); (case aF => exact (fun k_ hk => ⟨Kd.fresh' (Kd.R_lt (by (with_reducible repeat (first | apply Kd.R_alloc | apply Kd.R_drewN | apply Kd.R_drew)); exact (Kd.R_mono (Kd.R_far (p := ⟨gb333, 0, none⟩) (Kd.R_far (p := ⟨gb333, 2, none⟩) (Kd.R_far (p := ⟨gb333, 1, none⟩) (Kd.R_far (p := ⟨gb333, 0, none⟩) (Kd.R_mono HO_10.out (fun k_ hk => (⟨hk, hk.2⟩ : _ ∧ k_ ≠ gb333))) (fun _ hk => hk.2) (.int .i64 ((rd_T45 l1 x42_2).f0))) (fun _ hk => hk.2) (.int .i64 ((rd_T45 l1 x42_2).f1))) (fun _ hk => hk.2) (.int .i64 ((rd_T45 l1 x42_2).f2))) (fun _ hk => hk.2) (.int .i64 (Int.tmod (wrap64 (((rd_T45 l1 x42_2).f0) + (wrap64 (a2)))) t326))) (fun _ h_ => h_.1)))) k_ hk, Kd.freshB (g := gb331) (o := .cells #[.int .i64 ((rd_T45 l1 x42_2).f0), .int .i64 ((rd_T45 l1 x42_2).f1), .int .i64 ((rd_T45 l1 x42_2).f2)] 45 (0, 0)) (by (with_reducible repeat (first | refine blk_drewN ?_ _ | refine blk_drew ?_ | refine blk_alloc ?_ _)); refine blk_far ?_ NB331_333.out _; (with_reducible repeat (first | refine blk_drewN ?_ _ | refine blk_drew ?_ | refine blk_alloc ?_ _)); refine blk_far ?_ NB331_333.out _; (with_reducible repeat (first | refine blk_drewN ?_ _ | refine blk_drew ?_ | refine blk_alloc ?_ _)); refine blk_far ?_ NB331_333.out _; (with_reducible repeat (first | refine blk_drewN ?_ _ | refine blk_drew ?_ | refine blk_alloc ?_ _)); refine blk_far ?_ NB331_333.out _; (with_reducible repeat (first | refine blk_drewN ?_ _ | refine blk_drew ?_ | refine blk_alloc ?_ _)); exact BK331.out) k_ hk, Kd.freshB (g := gb333) (o := .cells #[.int .i64 (Int.tmod (wrap64 (((rd_T45 l1 x42_2).f0) + (wrap64 (a2)))) t326), .int .i64 ((rd_T45 l1 x42_2).f1), .int .i64 ((rd_T45 l1 x42_2).f2)] 45 (0, 0)) (by (with_reducible repeat (first | refine blk_drewN ?_ _ | refine blk_drew ?_ | refine blk_alloc ?_ _)); refine blk_put (cs := #[.int .i64 ((rd_T45 l1 x42_2).f0), .int .i64 ((rd_T45 l1 x42_2).f1), .int .i64 ((rd_T45 l1 x42_2).f2)]) ?_ 0 _ rfl; (with_reducible repeat (first | refine blk_drewN ?_ _ | refine blk_drew ?_ | refine blk_alloc ?_ _)); refine blk_put (cs := #[.int .i64 ((rd_T45 l1 x42_2).f0), .int .i64 ((rd_T45 l1 x42_2).f1), .int .i64 0]) ?_ 2 _ rfl; (with_reducible repeat (first | refine blk_drewN ?_ _ | refine blk_drew ?_ | refine blk_alloc ?_ _)); refine blk_put (cs := #[.int .i64 ((rd_T45 l1 x42_2).f0), .int .i64 0, .int .i64 0]) ?_ 1 _ rfl; (with_reducible repeat (first | refine blk_drewN ?_ _ | refine blk_drew ?_ | refine blk_alloc ?_ _)); refine blk_put (cs := #[.int .i64 0, .int .i64 0, .int .i64 0]) ?_ 0 _ rfl; (with_reducible repeat (first | refine blk_drewN ?_ _ | refine blk_drew ?_ | refine blk_alloc ?_ _)); exact BK333.out) k_ hk⟩)); (case aO => exact (by (with_reducible repeat (first | apply Kd.R_alloc | apply Kd.R_drewN | apply Kd.R_drew)); exact Kd.R_mono (Kd.R_far (p := ⟨gb333, 0, none⟩) (Kd.R_far (p := ⟨gb333, 2, none⟩) (Kd.R_far (p := ⟨gb333, 1, none⟩) (Kd.R_far (p := ⟨gb333, 0, none⟩) (Kd.R_mono HO_9.out (fun k_ hk => (⟨hk, hk.2⟩ : _ ∧ k_ ≠ gb333))) (fun _ hk => hk.2) (.int .i64 ((rd_T45 l1 x42_2).f0))) (fun _ hk => hk.2) (.int .i64 ((rd_T45 l1 x42_2).f1))) (fun _ hk => hk.2) (.int .i64 ((rd_T45 l1 x42_2).f2))) (fun _ hk => hk.2) (.int .i64 (Int.tmod (wrap64 (((rd_T45 l1 x42_2).f0) + (wrap64 (a2)))) t326))) (fun _ hk => ⟨hk.1.1.1, ⟨hk.1.1.2, hk.1.2⟩⟩))); (case aS => exact (below_size (by repeat (first | (with_reducible first | exact HB.out | apply below_alloc | apply pw_below_drewN | apply below_drew1 | refine below_set ?_ GE331.out | refine below_set ?_ GE333.out) | exact HB.out)))); (case aL => have := LMc26.out; omega); intro v335 w39 ho hb hg hat; rw [← Ny334.out] at ho; have n0_ := Aside0.mk (Kd.R_over' (by (with_reducible repeat (first | apply Kd.R_alloc | apply Kd.R_drewN | apply Kd.R_drew)); exact (Kd.R_mono (Kd.R_far (p := ⟨gb333, 0, none⟩) (Kd.R_far (p := ⟨gb333, 2, none⟩) (Kd.R_far (p := ⟨gb333, 1, none⟩) (Kd.R_far (p := ⟨gb333, 0, none⟩) (Kd.R_types HO_8.out BK333.out (by decide)) (fun _ hk => hk.2) (.int .i64 ((rd_T45 l1 x42_2).f0))) (fun _ hk => hk.2) (.int .i64 ((rd_T45 l1 x42_2).f1))) (fun _ hk => hk.2) (.int .i64 ((rd_T45 l1 x42_2).f2))) (fun _ hk => hk.2) (.int .i64 (Int.tmod (wrap64 (((rd_T45 l1 x42_2).f0) + (wrap64 (a2)))) t326))) (fun _ h_ => h_.1))) (Kd.R_typed (by (with_reducible repeat (first | apply Kd.R_alloc | apply Kd.R_drewN | apply Kd.R_drew)); exact (Kd.R_mono (Kd.R_far (p := ⟨gb333, 0, none⟩) (Kd.R_far (p := ⟨gb333, 2, none⟩) (Kd.R_far (p := ⟨gb333, 1, none⟩) (Kd.R_far (p := ⟨gb333, 0, none⟩) (Kd.R_mono HO_9.out (fun k_ hk => (⟨hk, hk.2⟩ : _ ∧ k_ ≠ gb333))) (fun _ hk => hk.2) (.int .i64 ((rd_T45 l1 x42_2).f0))) (fun _ hk => hk.2) (.int .i64 ((rd_T45 l1 x42_2).f1))) (fun _ hk => hk.2) (.int .i64 ((rd_T45 l1 x42_2).f2))) (fun _ hk => hk.2) (.int .i64 (Int.tmod (wrap64 (((rd_T45 l1 x42_2).f0) + (wrap64 (a2)))) t326))) (fun _ h_ => h_.1)))) (by decide) hg); have n1_ := Aside0.mk (Kd.R_after (ok := (fun k_ => k_ ≠ gb331 ∧ k_ ≠ gb333)) (by (with_reducible repeat (first | apply Kd.R_alloc | apply Kd.R_drewN | apply Kd.R_drew)); exact Kd.R_mono (Kd.R_far (p := ⟨gb333, 0, none⟩) (Kd.R_far (p := ⟨gb333, 2, none⟩) (Kd.R_far (p := ⟨gb333, 1, none⟩) (Kd.R_far (p := ⟨gb333, 0, none⟩) (Kd.R_mono HO_10.out (fun k_ hk => (⟨hk, hk.2⟩ : _ ∧ k_ ≠ gb333))) (fun _ hk => hk.2) (.int .i64 ((rd_T45 l1 x42_2).f0))) (fun _ hk => hk.2) (.int .i64 ((rd_T45 l1 x42_2).f1))) (fun _ hk => hk.2) (.int .i64 ((rd_T45 l1 x42_2).f2))) (fun _ hk => hk.2) (.int .i64 (Int.tmod (wrap64 (((rd_T45 l1 x42_2).f0) + (wrap64 (a2)))) t326))) (fun _ hk => ⟨⟨hk.1.1.2, hk.1.2⟩, hk.1.1.1⟩)) hg hat); have n2_ := Aside0.mk (blk_grown (g := gb331) (o := .cells #[.int .i64 ((rd_T45 l1 x42_2).f0), .int .i64 ((rd_T45 l1 x42_2).f1), .int .i64 ((rd_T45 l1 x42_2).f2)] 45 (0, 0)) (by (with_reducible repeat (first | refine blk_drewN ?_ _ | refine blk_drew ?_ | refine blk_alloc ?_ _)); refine blk_far ?_ NB331_333.out _; (with_reducible repeat (first | refine blk_drewN ?_ _ | refine blk_drew ?_ | refine blk_alloc ?_ _)); refine blk_far ?_ NB331_333.out _; (with_reducible repeat (first | refine blk_drewN ?_ _ | refine blk_drew ?_ | refine blk_alloc ?_ _)); refine blk_far ?_ NB331_333.out _; (with_reducible repeat (first | refine blk_drewN ?_ _ | refine blk_drew ?_ | refine blk_alloc ?_ _)); refine blk_far ?_ NB331_333.out _; (with_reducible repeat (first | refine blk_drewN ?_ _ | refine blk_drew ?_ | refine blk_alloc ?_ _)); exact BK331.out) hg (Kd.R_away HO_9.out (fun _ hk => hk.1.2))); have n3_ := Aside0.mk (blk_grown (g := gb333) (o := .cells #[.int .i64 (Int.tmod (wrap64 (((rd_T45 l1 x42_2).f0) + (wrap64 (a2)))) t326), .int .i64 ((rd_T45 l1 x42_2).f1), .int .i64 ((rd_T45 l1 x42_2).f2)] 45 (0, 0)) (by (with_reducible repeat (first | refine blk_drewN ?_ _ | refine blk_drew ?_ | refine blk_alloc ?_ _)); refine blk_put (cs := #[.int .i64 ((rd_T45 l1 x42_2).f0), .int .i64 ((rd_T45 l1 x42_2).f1), .int .i64 ((rd_T45 l1 x42_2).f2)]) ?_ 0 _ rfl; (with_reducible repeat (first | refine blk_drewN ?_ _ | refine blk_drew ?_ | refine blk_alloc ?_ _)); refine blk_put (cs := #[.int .i64 ((rd_T45 l1 x42_2).f0), .int .i64 ((rd_T45 l1 x42_2).f1), .int .i64 0]) ?_ 2 _ rfl; (with_reducible repeat (first | refine blk_drewN ?_ _ | refine blk_drew ?_ | refine blk_alloc ?_ _)); refine blk_put (cs := #[.int .i64 ((rd_T45 l1 x42_2).f0), .int .i64 0, .int .i64 0]) ?_ 1 _ rfl; (with_reducible repeat (first | refine blk_drewN ?_ _ | refine blk_drew ?_ | refine blk_alloc ?_ _)); refine blk_put (cs := #[.int .i64 0, .int .i64 0, .int .i64 0]) ?_ 0 _ rfl; (with_reducible repeat (first | refine blk_drewN ?_ _ | refine blk_drew ?_ | refine blk_alloc ?_ _)); exact BK333.out) hg (Kd.R_away HO_9.out (fun _ hk => hk.2))); have n4_ := Aside0.mk (hb); have n5_ := Aside0.mk (ho); clear HO_8; clear HO_10; clear BK331; clear BK333; clear HB; clear HO_9; have HO_8 := n0_; have HO_10 := n1_; have BK331 := n2_; have BK333 := n3_; have HB := n4_; have HO336 := n5_; clear n0_ n1_ n2_ n3_ n4_ n5_; clear ho hb hg hat; have hcz40_0 : w39.cell? ⟨gb331, 0, none⟩ = some (.int .i64 ((rd_T45 l1 x42_2).f0)) := (blk_cell BK331.out 0).trans rfl; have hcz40_1 : w39.cell? ⟨gb331, 1, none⟩ = some (.int .i64 ((rd_T45 l1 x42_2).f1)) := (blk_cell BK331.out 1).trans rfl; have hcz40_2 : w39.cell? ⟨gb331, 2, none⟩ = some (.int .i64 ((rd_T45 l1 x42_2).f2)) := (blk_cell BK331.out 2).trans rfl; have hfz40_0 := blk_frozen BK331.out 0; have hfz40_1 := blk_frozen BK331.out 1; have hfz40_2 := blk_frozen BK331.out 2; have hcz41_0 : w39.cell? ⟨gb333, 0, none⟩ = some (.int .i64 (Int.tmod (wrap64 (((rd_T45 l1 x42_2).f0) + (wrap64 (a2)))) t326)) := (blk_cell BK333.out 0).trans rfl; have hcz41_1 : w39.cell? ⟨gb333, 1, none⟩ = some (.int .i64 ((rd_T45 l1 x42_2).f1)) := (blk_cell BK333.out 1).trans rfl; have hcz41_2 : w39.cell? ⟨gb333, 2, none⟩ = some (.int .i64 ((rd_T45 l1 x42_2).f2)) := (blk_cell BK333.out 2).trans rfl; have hfz41_0 := blk_frozen BK333.out 0; have hfz41_1 := blk_frozen BK333.out 1; have hfz41_2 := blk_frozen BK333.out 2) | ((with_reducible refine gate_builtin (b := .append) (xs := #[.tmp 69, .tmp 71]) rfl ?_); (try (refine gate_guard (by rfl) ?_; dsimp only)); at_builtin; refine Kd.R_append k45 (w0 := w) w.heap.size rfl (.tmp 69) (.tmp 71) 22 45 (.agg #[(.int .i64 0), (.int .i64 0), (.int .i64 0)]) 24 rfl Try.underlying22 info45 rfl (by decide) (by omega) u10 x10_2 (⟨wrap64 ((wrap64 (t326 - 1)) - ((rd_T45 l1 x42_2).f0)), (rd_T45 l1 x42_2).f1, (rd_T45 l1 x42_2).f2⟩ : S45) [.int .i64 (wrap64 ((wrap64 (t326 - 1)) - ((rd_T45 l1 x42_2).f0))), .int .i64 ((rd_T45 l1 x42_2).f1), .int .i64 ((rd_T45 l1 x42_2).f2)] (fun k_ => some k_ ≠ (v335 : Value).ownBlock ∧ k_ ≠ gb331 ∧ k_ ≠ gb333) (fun _ => False) rfl (by first | (go_simp; done) | (go_simp; rfl)) ?aP (fun _ hk => hk.elim) ?aF ?aO ?aB ?aS ?aL ?_; (case aP => exact k45_mkM _ _ _ (⟨wrap64 ((wrap64 (t326 - 1)) - ((rd_T45 l1 x42_2).f0)), (rd_T45 l1 x42_2).f1, (rd_T45 l1 x42_2).f2⟩ : S45)); (case aB => exact (by repeat (first | (with_reducible first | exact HB.out | apply below_alloc | apply pw_below_drewN | apply below_drew1 | refine below_set ?_ GE331.out | refine below_set ?_ GE333.out) | exact HB.out))); (case aF => exact (fun k_ hk => ⟨Kd.fresh' (Kd.R_lt (by (with_reducible repeat (first | apply Kd.R_alloc | apply Kd.R_drewN | apply Kd.R_drew)); exact (Kd.R_mono (Kd.R_far (p := ⟨gb333, 0, none⟩) (Kd.R_mono HO336.out (fun k_ hk => (⟨hk, hk.2.2⟩ : _ ∧ k_ ≠ gb333))) (fun _ hk => hk.2) (.int .i64 (wrap64 ((wrap64 (t326 - 1)) - ((rd_T45 l1 x42_2).f0))))) (fun _ h_ => h_.1)))) k_ hk, Kd.freshB (g := gb331) (o := .cells #[.int .i64 ((rd_T45 l1 x42_2).f0), .int .i64 ((rd_T45 l1 x42_2).f1), .int .i64 ((rd_T45 l1 x42_2).f2)] 45 (0, 0)) (by (with_reducible repeat (first | refine blk_drewN ?_ _ | refine blk_drew ?_ | refine blk_alloc ?_ _)); refine blk_far ?_ NB331_333.out _; (with_reducible repeat (first | refine blk_drewN ?_ _ | refine blk_drew ?_ | refine blk_alloc ?_ _)); exact BK331.out) k_ hk, Kd.freshB (g := gb333) (o := .cells #[.int .i64 (wrap64 ((wrap64 (t326 - 1)) - ((rd_T45 l1 x42_2).f0))), .int .i64 ((rd_T45 l1 x42_2).f1), .int .i64 ((rd_T45 l1 x42_2).f2)] 45 (0, 0)) (by (with_reducible repeat (first | refine blk_drewN ?_ _ | refine blk_drew ?_ | refine blk_alloc ?_ _)); refine blk_put (cs := #[.int .i64 (Int.tmod (wrap64 (((rd_T45 l1 x42_2).f0) + (wrap64 (a2)))) t326), .int .i64 ((rd_T45 l1 x42_2).f1), .int .i64 ((rd_T45 l1 x42_2).f2)]) ?_ 0 _ rfl; (with_reducible repeat (first | refine blk_drewN ?_ _ | refine blk_drew ?_ | refine blk_alloc ?_ _)); exact BK333.out) k_ hk⟩)); (case aO => exact (by (with_reducible repeat (first | apply Kd.R_alloc | apply Kd.R_drewN | apply Kd.R_drew)); exact Kd.R_mono (Kd.R_far (p := ⟨gb333, 0, none⟩) (Kd.R_mono HO_10.out (fun k_ hk => (⟨hk, hk.1.2⟩ : _ ∧ k_ ≠ gb333))) (fun _ hk => hk.2) (.int .i64 (wrap64 ((wrap64 (t326 - 1)) - ((rd_T45 l1 x42_2).f0))))) (fun _ hk => ⟨hk.1.2, ⟨hk.1.1.1, hk.1.1.2⟩⟩))); (case aS => exact (below_size (by repeat (first | (with_reducible first | exact HB.out | apply below_alloc | apply pw_below_drewN | apply below_drew1 | refine below_set ?_ GE331.out | refine below_set ?_ GE333.out) | exact HB.out)))); (case aL => have := LMc27.out; omega); intro v338 w42 ho hb hg hat; rw [← Ny337.out] at ho; have n0_ := Aside0.mk (Kd.R_over' (by (with_reducible repeat (first | apply Kd.R_alloc | apply Kd.R_drewN | apply Kd.R_drew)); exact (Kd.R_mono (Kd.R_far (p := ⟨gb333, 0, none⟩) (Kd.R_types HO_8.out BK333.out (by decide)) (fun _ hk => hk.2) (.int .i64 (wrap64 ((wrap64 (t326 - 1)) - ((rd_T45 l1 x42_2).f0))))) (fun _ h_ => h_.1))) (Kd.R_typed (by (with_reducible repeat (first | apply Kd.R_alloc | apply Kd.R_drewN | apply Kd.R_drew)); exact (Kd.R_mono (Kd.R_far (p := ⟨gb333, 0, none⟩) (Kd.R_mono HO_10.out (fun k_ hk => (⟨hk, hk.1.2⟩ : _ ∧ k_ ≠ gb333))) (fun _ hk => hk.2) (.int .i64 (wrap64 ((wrap64 (t326 - 1)) - ((rd_T45 l1 x42_2).f0))))) (fun _ h_ => h_.1)))) (by decide) hg); have n1_ := Aside0.mk (blk_grown (g := gb331) (o := .cells #[.int .i64 ((rd_T45 l1 x42_2).f0), .int .i64 ((rd_T45 l1 x42_2).f1), .int .i64 ((rd_T45 l1 x42_2).f2)] 45 (0, 0)) (by (with_reducible repeat (first | refine blk_drewN ?_ _ | refine blk_drew ?_ | refine blk_alloc ?_ _)); refine blk_far ?_ NB331_333.out _; (with_reducible repeat (first | refine blk_drewN ?_ _ | refine blk_drew ?_ | refine blk_alloc ?_ _)); exact BK331.out) hg (Kd.R_away HO_10.out (fun _ hk => hk.1.1))); have n2_ := Aside0.mk (blk_grown (g := gb333) (o := .cells #[.int .i64 (wrap64 ((wrap64 (t326 - 1)) - ((rd_T45 l1 x42_2).f0))), .int .i64 ((rd_T45 l1 x42_2).f1), .int .i64 ((rd_T45 l1 x42_2).f2)] 45 (0, 0)) (by (with_reducible repeat (first | refine blk_drewN ?_ _ | refine blk_drew ?_ | refine blk_alloc ?_ _)); refine blk_put (cs := #[.int .i64 (Int.tmod (wrap64 (((rd_T45 l1 x42_2).f0) + (wrap64 (a2)))) t326), .int .i64 ((rd_T45 l1 x42_2).f1), .int .i64 ((rd_T45 l1 x42_2).f2)]) ?_ 0 _ rfl; (with_reducible repeat (first | refine blk_drewN ?_ _ | refine blk_drew ?_ | refine blk_alloc ?_ _)); exact BK333.out) hg (Kd.R_away HO_10.out (fun _ hk => hk.1.2))); have n3_ := Aside0.mk (Kd.R_after (ok := (fun k_ => k_ ≠ gb331 ∧ k_ ≠ gb333)) (by (with_reducible repeat (first | apply Kd.R_alloc | apply Kd.R_drewN | apply Kd.R_drew)); exact Kd.R_mono (Kd.R_far (p := ⟨gb333, 0, none⟩) (Kd.R_mono HO336.out (fun k_ hk => (⟨hk, hk.2.2⟩ : _ ∧ k_ ≠ gb333))) (fun _ hk => hk.2) (.int .i64 (wrap64 ((wrap64 (t326 - 1)) - ((rd_T45 l1 x42_2).f0))))) (fun _ hk => ⟨⟨hk.1.2.1, hk.1.2.2⟩, hk.1.1⟩)) hg hat); have n4_ := Aside0.mk (hb); have n5_ := Aside0.mk (ho); clear HO_8; clear BK331; clear BK333; clear HO336; clear HB; clear HO_10; have HO_8 := n0_; have BK331 := n1_; have BK333 := n2_; have HO336 := n3_; have HB := n4_; have HO339 := n5_; clear n0_ n1_ n2_ n3_ n4_ n5_; clear ho hb hg hat)); try go_wp2_with (first | ((with_reducible refine gate_dst (N := 12) rfl ?_); (try (refine gate_guard (by rfl) ?_; dsimp only)); refine box_event ?hg (N := 12) ?hd (cs := #[.int .i64 0, .int .i64 0, .int .i64 0]) (t := 45) ?hr ?_; (case hd => rfl); (case hg => rfl); (case hr => first | (go_simp; done) | (go_simp; rfl)); intro gb331 hg w28 hbox hb; have n0_ := Aside0.mk (Kd.R_below (by (with_reducible repeat (first | apply Kd.R_alloc | apply Kd.R_drewN | apply Kd.R_drew)); exact HO_8.out) hb); have n1_ := Aside0.mk (Kd.R_below (Kd.R_elderB (by (with_reducible repeat (first | apply Kd.R_alloc | apply Kd.R_drewN | apply Kd.R_drew)); exact HO_9.out) gb331 (Nat.le_of_eq hg.symm)) hb); have n2_ := Aside0.mk (Kd.R_below (Kd.R_elderB (by (with_reducible repeat (first | apply Kd.R_alloc | apply Kd.R_drewN | apply Kd.R_drew)); exact HO_10.out) gb331 (Nat.le_of_eq hg.symm)) hb); have n3_ := Aside0.mk (below_step (by repeat (first | (with_reducible first | exact HB.out | apply below_alloc | apply pw_below_drewN | apply below_drew1) | exact HB.out)) hb); have n4_ := Aside0.mk (hbox); have n5_ := Aside0.mk ((by rw [hg]; exact (below_size (by repeat (first | (with_reducible first | exact HB.out | apply below_alloc | apply pw_below_drewN | apply below_drew1) | exact HB.out))) : w.heap.size ≤ gb331)); have n6_ := Aside0.mk ((by rw [hg]; exact (below_size (by repeat (first | (with_reducible first | exact HB.out | apply below_alloc | apply pw_below_drewN | apply below_drew1) | exact HB.out))) : w.heap.size ≤ gb331)); clear HO_8; clear HO_9; clear HO_10; clear HB; have HO_8 := n0_; have HO_9 := n1_; have HO_10 := n2_; have HB := n3_; have BK331 := n4_; have GW331 := n5_; have GE331 := n6_; clear n0_ n1_ n2_ n3_ n4_ n5_ n6_; clear hb hbox hg; have hcz29_0 : w28.cell? ⟨gb331, 0, none⟩ = some (.int .i64 0) := (blk_cell BK331.out 0).trans rfl; have hcz29_1 : w28.cell? ⟨gb331, 1, none⟩ = some (.int .i64 0) := (blk_cell BK331.out 1).trans rfl; have hcz29_2 : w28.cell? ⟨gb331, 2, none⟩ = some (.int .i64 0) := (blk_cell BK331.out 2).trans rfl; have hfz29_0 := blk_frozen BK331.out 0; have hfz29_1 := blk_frozen BK331.out 1; have hfz29_2 := blk_frozen BK331.out 2) | ((with_reducible refine gate_store (t := 45) (p := 12) rfl ?_); (try (rw [drewN_self w28]; generalize hq_ : World.drewN w28 _ = w28; have n0_ := Aside0.mk (Kd.R_at hq_ HO_8.out); have n1_ := Aside0.mk (Kd.R_at hq_ HO_9.out); have n2_ := Aside0.mk (Kd.R_at hq_ HO_10.out); have n3_ := Aside0.mk (blk_at hq_ BK331.out); have n4_ := Aside0.mk (below_at hq_ HB.out); clear hq_ HO_8 HO_9 HO_10 BK331 HB; have HO_8 := n0_; have HO_9 := n1_; have HO_10 := n2_; have BK331 := n3_; have HB := n4_; clear n0_ n1_ n2_ n3_ n4_)); refine store_event (t := 45) (p := 12) (v := ?vo_w30) (w1 := (((w28.setCell ⟨gb331, 0, none⟩ (.int .i64 ((rd_T45 l1 x42_2).f0))).setCell ⟨gb331, 1, none⟩ (.int .i64 ((rd_T45 l1 x42_2).f1))).setCell ⟨gb331, 2, none⟩ (.int .i64 ((rd_T45 l1 x42_2).f2)))) ?hg ?ho ?hn ?hr ?_; (case ho => rfl); (case hg => rfl); (case hn => rfl); (case hr => first | (go_simp; done) | (go_simp; rfl)); intro w30 hw; have n0_ : Aside0 (Kd.R Kd.bool 4 w30 w.heap.size (fun _ => True) v328 x8_2) := ⟨(by rw [hw]; exact (by (with_reducible repeat (first | apply Kd.R_alloc | apply Kd.R_drewN | apply Kd.R_drew)); exact Kd.R_mono (Kd.R_far (p := ⟨gb331, 2, none⟩) (Kd.R_far (p := ⟨gb331, 1, none⟩) (Kd.R_far (p := ⟨gb331, 0, none⟩) (Kd.R_types HO_8.out BK331.out (by decide)) (fun _ hk => hk.2) (.int .i64 ((rd_T45 l1 x42_2).f0))) (fun _ hk => hk.2) (.int .i64 ((rd_T45 l1 x42_2).f1))) (fun _ hk => hk.2) (.int .i64 ((rd_T45 l1 x42_2).f2))) (fun _ hk => trivial)))⟩; have n1_ : Aside0 (Kd.R k45 45 w30 w.heap.size (fun k_ => some k_ ≠ (u10 : Value).ownBlock ∧ k_ ≠ gb331) u9 x9_2) := ⟨(by rw [hw]; exact (by (with_reducible repeat (first | apply Kd.R_alloc | apply Kd.R_drewN | apply Kd.R_drew)); exact Kd.R_mono (Kd.R_far (p := ⟨gb331, 2, none⟩) (Kd.R_far (p := ⟨gb331, 1, none⟩) (Kd.R_far (p := ⟨gb331, 0, none⟩) (Kd.R_mono HO_9.out (fun k_ hk => (⟨hk, hk.2⟩ : _ ∧ k_ ≠ gb331))) (fun _ hk => hk.2) (.int .i64 ((rd_T45 l1 x42_2).f0))) (fun _ hk => hk.2) (.int .i64 ((rd_T45 l1 x42_2).f1))) (fun _ hk => hk.2) (.int .i64 ((rd_T45 l1 x42_2).f2))) (fun _ hk => ⟨hk.1.1, hk.1.2⟩)))⟩; have n2_ : Aside0 (Kd.R k45 45 w30 w.heap.size (fun k_ => some k_ ≠ (u9 : Value).ownBlock ∧ k_ ≠ gb331) u10 x10_2) := ⟨(by rw [hw]; exact (by (with_reducible repeat (first | apply Kd.R_alloc | apply Kd.R_drewN | apply Kd.R_drew)); exact Kd.R_mono (Kd.R_far (p := ⟨gb331, 2, none⟩) (Kd.R_far (p := ⟨gb331, 1, none⟩) (Kd.R_far (p := ⟨gb331, 0, none⟩) (Kd.R_mono HO_10.out (fun k_ hk => (⟨hk, hk.2⟩ : _ ∧ k_ ≠ gb331))) (fun _ hk => hk.2) (.int .i64 ((rd_T45 l1 x42_2).f0))) (fun _ hk => hk.2) (.int .i64 ((rd_T45 l1 x42_2).f1))) (fun _ hk => hk.2) (.int .i64 ((rd_T45 l1 x42_2).f2))) (fun _ hk => ⟨hk.1.1, hk.1.2⟩)))⟩; have n3_ : Aside0 (w30.heap[gb331]? = some (.cells #[.int .i64 ((rd_T45 l1 x42_2).f0), .int .i64 ((rd_T45 l1 x42_2).f1), .int .i64 ((rd_T45 l1 x42_2).f2)] 45 (0, 0))) := ⟨(by rw [hw]; exact (by (with_reducible repeat (first | refine blk_drewN ?_ _ | refine blk_drew ?_ | refine blk_alloc ?_ _)); refine blk_put (cs := #[.int .i64 ((rd_T45 l1 x42_2).f0), .int .i64 ((rd_T45 l1 x42_2).f1), .int .i64 0]) ?_ 2 _ rfl; (with_reducible repeat (first | refine blk_drewN ?_ _ | refine blk_drew ?_ | refine blk_alloc ?_ _)); refine blk_put (cs := #[.int .i64 ((rd_T45 l1 x42_2).f0), .int .i64 0, .int .i64 0]) ?_ 1 _ rfl; (with_reducible repeat (first | refine blk_drewN ?_ _ | refine blk_drew ?_ | refine blk_alloc ?_ _)); refine blk_put (cs := #[.int .i64 0, .int .i64 0, .int .i64 0]) ?_ 0 _ rfl; (with_reducible repeat (first | refine blk_drewN ?_ _ | refine blk_drew ?_ | refine blk_alloc ?_ _)); exact BK331.out))⟩; have n4_ : Aside0 (Below w.heap.size w w30) := ⟨(by rw [hw]; exact (by repeat (first | (with_reducible first | exact HB.out | apply below_alloc | apply pw_below_drewN | apply below_drew1 | refine below_set ?_ GE331.out) | exact HB.out)))⟩; clear hw; clear HO_8; clear HO_9; clear HO_10; clear BK331; clear HB; have HO_8 := n0_; have HO_9 := n1_; have HO_10 := n2_; have BK331 := n3_; have HB := n4_; clear n0_ n1_ n2_ n3_ n4_; have hcz31_0 : w30.cell? ⟨gb331, 0, none⟩ = some (.int .i64 ((rd_T45 l1 x42_2).f0)) := (blk_cell BK331.out 0).trans rfl; have hcz31_1 : w30.cell? ⟨gb331, 1, none⟩ = some (.int .i64 ((rd_T45 l1 x42_2).f1)) := (blk_cell BK331.out 1).trans rfl; have hcz31_2 : w30.cell? ⟨gb331, 2, none⟩ = some (.int .i64 ((rd_T45 l1 x42_2).f2)) := (blk_cell BK331.out 2).trans rfl; have hfz31_0 := blk_frozen BK331.out 0; have hfz31_1 := blk_frozen BK331.out 1; have hfz31_2 := blk_frozen BK331.out 2; have p24 : 0 ≤ (((rd_T45 l1 x42_2).f0) : Int) := of_decide_eq_true (by first | (with_reducible assumption) | assumption); have q24 : (((rd_T45 l1 x42_2).f0) : Int) < ((x8_2.length : Int) : Int) := of_decide_eq_true (by first | (with_reducible assumption) | assumption); obtain ⟨go24, co24, eo24, gb24, gl24, cl24, HG24⟩ := Kd.R_form HO_8.out (by omega); (first | cases eo24 | (injection eo24 with ea_ en_ ec_; (first | subst ea_ | (injection ea_ with ea_; subst ea_)); subst ec_; clear en_)); have GB24 := Aside0.mk gb24; have GG24 := Aside0.mk HG24; clear gb24 gl24 HG24; obtain ⟨hx24_0, hf24_0⟩ := Kd.R_celln false HO_8.out (((rd_T45 l1 x42_2).f0) : Int) p24 q24; replace p24 := eq_true p24; replace q24 := eq_true q24; obtain ⟨hy32_, hz32_⟩ := Kd.R_celln false HO_8.out (((rd_T45 l1 x42_2).f0) : Int) (of_decide_eq_true (by first | (with_reducible assumption) | assumption)) (of_decide_eq_true (by first | (with_reducible assumption) | assumption)); have HP32 := Kd.R_putg HO_8.out (((rd_T45 l1 x42_2).f0) : Int) true) | ((with_reducible refine gate_store (t := 4) (p := 49) rfl ?_); (try (rw [drewN_self w30]; generalize hq_ : World.drewN w30 _ = w30; have n0_ := Aside0.mk (Kd.R_at hq_ HO_8.out); have n1_ := Aside0.mk (Kd.R_at hq_ HO_9.out); have n2_ := Aside0.mk (Kd.R_at hq_ HO_10.out); have n3_ := Aside0.mk (blk_at hq_ BK331.out); have n4_ := Aside0.mk (below_at hq_ HB.out); clear hq_ HO_8 HO_9 HO_10 BK331 HB; have HO_8 := n0_; have HO_9 := n1_; have HO_10 := n2_; have BK331 := n3_; have HB := n4_; clear n0_ n1_ n2_ n3_ n4_; (try (obtain ⟨hy32_, hz32_⟩ := Kd.R_celln false HO_8.out (((rd_T45 l1 x42_2).f0) : Int) (of_decide_eq_true (by first | (with_reducible assumption) | assumption)) (of_decide_eq_true (by first | (with_reducible assumption) | assumption)))); (try (have HP32 := Kd.R_putg HO_8.out (((rd_T45 l1 x42_2).f0) : Int) true)))); refine store_event (t := 4) (p := 49) (v := ?vo_w33) (w1 := (w30.setCell ⟨go24, (((rd_T45 l1 x42_2).f0) : Int).toNat, none⟩ (.bool true))) ?hg ?ho ?hn ?hr ?_; (case ho => rfl); (case hg => rfl); (case hn => rfl); (case hr => first | (go_simp; done) | (go_simp; rfl)); intro w33 hw; have hg : w30.grownBy w33 (some go24) := (by rw [hw]; exact HP32.2); have hp_ : Kd.R Kd.bool 4 w33 w.heap.size (fun _ => True) (.slice (some ⟨go24, 0, none⟩) x8_2.length co24) y332 := (by rw [hw, Ny332.out]; exact HP32.1); clear HP32; have n0_ := Aside0.mk (hp_); have n1_ := Aside0.mk (Kd.R_over' (v := (.slice (some ⟨go24, 0, none⟩) x8_2.length co24)) (by (with_reducible repeat (first | apply Kd.R_alloc | apply Kd.R_drewN | apply Kd.R_drew)); exact HO_9.out) (Kd.R_typed HO_8.out) (by decide) hg); have n2_ := Aside0.mk (Kd.R_over' (v := (.slice (some ⟨go24, 0, none⟩) x8_2.length co24)) (by (with_reducible repeat (first | apply Kd.R_alloc | apply Kd.R_drewN | apply Kd.R_drew)); exact HO_10.out) (Kd.R_typed HO_8.out) (by decide) hg); have n3_ := Aside0.mk (blk_grown (g := gb331) (o := .cells #[.int .i64 ((rd_T45 l1 x42_2).f0), .int .i64 ((rd_T45 l1 x42_2).f1), .int .i64 ((rd_T45 l1 x42_2).f2)] 45 (0, 0)) (by (with_reducible repeat (first | refine blk_drewN ?_ _ | refine blk_drew ?_ | refine blk_alloc ?_ _)); exact BK331.out) hg (Kd.R_ne HO_8.out BK331.out (by decide))); have n4_ := Aside0.mk ((by rw [hw]; exact below_set (HB.out) GB24.out : Below w.heap.size w w33)); clear HO_8; clear HO_9; clear HO_10; clear BK331; clear HB; have HO_8 := n0_; have HO_9 := n1_; have HO_10 := n2_; have BK331 := n3_; have HB := n4_; clear n0_ n1_ n2_ n3_ n4_; clear hg hw hp_; have hcz34_0 : w33.cell? ⟨gb331, 0, none⟩ = some (.int .i64 ((rd_T45 l1 x42_2).f0)) := (blk_cell BK331.out 0).trans rfl; have hcz34_1 : w33.cell? ⟨gb331, 1, none⟩ = some (.int .i64 ((rd_T45 l1 x42_2).f1)) := (blk_cell BK331.out 1).trans rfl; have hcz34_2 : w33.cell? ⟨gb331, 2, none⟩ = some (.int .i64 ((rd_T45 l1 x42_2).f2)) := (blk_cell BK331.out 2).trans rfl; have hfz34_0 := blk_frozen BK331.out 0; have hfz34_1 := blk_frozen BK331.out 1; have hfz34_2 := blk_frozen BK331.out 2) | ((with_reducible refine gate_dst (N := 13) rfl ?_); (try (refine gate_guard (by rfl) ?_; dsimp only)); refine box_event ?hg (N := 13) ?hd (cs := #[.int .i64 0, .int .i64 0, .int .i64 0]) (t := 45) ?hr ?_; (case hd => rfl); (case hg => rfl); (case hr => first | (go_simp; done) | (go_simp; rfl)); intro gb333 hg w35 hbox hb; have n0_ := Aside0.mk (Kd.R_below (by (with_reducible repeat (first | apply Kd.R_alloc | apply Kd.R_drewN | apply Kd.R_drew)); exact HO_8.out) hb); have n1_ := Aside0.mk (Kd.R_below (Kd.R_elderB (by (with_reducible repeat (first | apply Kd.R_alloc | apply Kd.R_drewN | apply Kd.R_drew)); exact HO_9.out) gb333 (Nat.le_of_eq hg.symm)) hb); have n2_ := Aside0.mk (Kd.R_below (Kd.R_elderB (by (with_reducible repeat (first | apply Kd.R_alloc | apply Kd.R_drewN | apply Kd.R_drew)); exact HO_10.out) gb333 (Nat.le_of_eq hg.symm)) hb); have n3_ := Aside0.mk (blk_below (g := gb331) (o := .cells #[.int .i64 ((rd_T45 l1 x42_2).f0), .int .i64 ((rd_T45 l1 x42_2).f1), .int .i64 ((rd_T45 l1 x42_2).f2)] 45 (0, 0)) (by (with_reducible repeat (first | refine blk_drewN ?_ _ | refine blk_drew ?_ | refine blk_alloc ?_ _)); exact BK331.out) hb); have n4_ := Aside0.mk (below_step (by repeat (first | (with_reducible first | exact HB.out | apply below_alloc | apply pw_below_drewN | apply below_drew1 | refine below_set ?_ GE331.out) | exact HB.out)) hb); have n5_ := Aside0.mk (hbox); have n6_ := Aside0.mk ((by rw [hg]; exact (below_size (by repeat (first | (with_reducible first | exact HB.out | apply below_alloc | apply pw_below_drewN | apply below_drew1 | refine below_set ?_ GE331.out) | exact HB.out))) : w.heap.size ≤ gb333)); have n7_ := Aside0.mk ((by rw [hg]; exact (below_size (by repeat (first | (with_reducible first | exact HB.out | apply below_alloc | apply pw_below_drewN | apply below_drew1 | refine below_set ?_ GE331.out) | exact HB.out))) : w.heap.size ≤ gb333)); have n8_ := Aside0.mk ((by rw [hg]; exact Nat.ne_of_lt (blk_lt (g := gb331) (o := .cells #[.int .i64 ((rd_T45 l1 x42_2).f0), .int .i64 ((rd_T45 l1 x42_2).f1), .int .i64 ((rd_T45 l1 x42_2).f2)] 45 (0, 0)) (by (with_reducible repeat (first | refine blk_drewN ?_ _ | refine blk_drew ?_ | refine blk_alloc ?_ _)); exact BK331.out)) : gb331 ≠ gb333)); have n9_ := Aside0.mk ((by rw [hg]; exact Nat.ne_of_gt (blk_lt (g := gb331) (o := .cells #[.int .i64 ((rd_T45 l1 x42_2).f0), .int .i64 ((rd_T45 l1 x42_2).f1), .int .i64 ((rd_T45 l1 x42_2).f2)] 45 (0, 0)) (by (with_reducible repeat (first | refine blk_drewN ?_ _ | refine blk_drew ?_ | refine blk_alloc ?_ _)); exact BK331.out)) : gb333 ≠ gb331)); clear HO_8; clear HO_9; clear HO_10; clear BK331; clear HB; have HO_8 := n0_; have HO_9 := n1_; have HO_10 := n2_; have BK331 := n3_; have HB := n4_; have BK333 := n5_; have GW333 := n6_; have GE333 := n7_; have NB331_333 := n8_; have NB333_331 := n9_; clear n0_ n1_ n2_ n3_ n4_ n5_ n6_ n7_ n8_ n9_; clear hb hbox hg; have hnb36 := NB333_331.out; have hnc36 := NB331_333.out; have hcz37_0 : w35.cell? ⟨gb333, 0, none⟩ = some (.int .i64 0) := (blk_cell BK333.out 0).trans rfl; have hcz37_1 : w35.cell? ⟨gb333, 1, none⟩ = some (.int .i64 0) := (blk_cell BK333.out 1).trans rfl; have hcz37_2 : w35.cell? ⟨gb333, 2, none⟩ = some (.int .i64 0) := (blk_cell BK333.out 2).trans rfl; have hfz37_0 := blk_frozen BK333.out 0; have hfz37_1 := blk_frozen BK333.out 1; have hfz37_2 := blk_frozen BK333.out 2; have hcz38_0 : w35.cell? ⟨gb331, 0, none⟩ = some (.int .i64 ((rd_T45 l1 x42_2).f0)) := (blk_cell BK331.out 0).trans rfl; have hcz38_1 : w35.cell? ⟨gb331, 1, none⟩ = some (.int .i64 ((rd_T45 l1 x42_2).f1)) := (blk_cell BK331.out 1).trans rfl; have hcz38_2 : w35.cell? ⟨gb331, 2, none⟩ = some (.int .i64 ((rd_T45 l1 x42_2).f2)) := (blk_cell BK331.out 2).trans rfl; have hfz38_0 := blk_frozen BK331.out 0; have hfz38_1 := blk_frozen BK331.out 1; have hfz38_2 := blk_frozen BK331.out 2) | ((with_reducible refine gate_builtin (b := .append) (xs := #[.tmp 59, .tmp 61]) rfl ?_); (try (refine gate_guard (by rfl) ?_; dsimp only)); at_builtin; refine Kd.R_append k45 (w0 := w) w.heap.size rfl (.tmp 59) (.tmp 61) 22 45 (.agg #[(.int .i64 0), (.int .i64 0), (.int .i64 0)]) 24 rfl Try.underlying22 info45 rfl (by decide) (by omega) u9 x9_2 (⟨Int.tmod (wrap64 (((rd_T45 l1 x42_2).f0) + (wrap64 (a2)))) t326, (rd_T45 l1 x42_2).f1, (rd_T45 l1 x42_2).f2⟩ : S45) [.int .i64 (Int.tmod (wrap64 (((rd_T45 l1 x42_2).f0) + (wrap64 (a2)))) t326), .int .i64 ((rd_T45 l1 x42_2).f1), .int .i64 ((rd_T45 l1 x42_2).f2)] (fun k_ => some k_ ≠ (u10 : Value).ownBlock ∧ k_ ≠ gb331 ∧ k_ ≠ gb333) (fun _ => False) rfl (by first | (go_simp; done) | (go_simp; rfl)) ?aP (fun _ hk => hk.elim) ?aF ?aO ?aB ?aS ?aL ?_; (case aP => exact k45_mkM _ _ _ (⟨Int.tmod (wrap64 (((rd_T45 l1 x42_2).f0) + (wrap64 (a2)))) t326, (rd_T45 l1 x42_2).f1, (rd_T45 l1 x42_2).f2⟩ : S45)); (case aB => exact (by repeat (first | (with_reducible first | exact HB.out | apply below_alloc | apply pw_below_drewN | apply below_drew1 | refine below_set ?_ GE331.out | refine below_set ?_ GE333.out) | exact HB.out))); (case aF => exact (fun k_ hk => ⟨Kd.fresh' (Kd.R_lt (by (with_reducible repeat (first | apply Kd.R_alloc | apply Kd.R_drewN | apply Kd.R_drew)); exact (Kd.R_mono (Kd.R_far (p := ⟨gb333, 0, none⟩) (Kd.R_far (p := ⟨gb333, 2, none⟩) (Kd.R_far (p := ⟨gb333, 1, none⟩) (Kd.R_far (p := ⟨gb333, 0, none⟩) (Kd.R_mono HO_10.out (fun k_ hk => (⟨hk, hk.2⟩ : _ ∧ k_ ≠ gb333))) (fun _ hk => hk.2) (.int .i64 ((rd_T45 l1 x42_2).f0))) (fun _ hk => hk.2) (.int .i64 ((rd_T45 l1 x42_2).f1))) (fun _ hk => hk.2) (.int .i64 ((rd_T45 l1 x42_2).f2))) (fun _ hk => hk.2) (.int .i64 (Int.tmod (wrap64 (((rd_T45 l1 x42_2).f0) + (wrap64 (a2)))) t326))) (fun _ h_ => h_.1)))) k_ hk, Kd.freshB (g := gb331) (o := .cells #[.int .i64 ((rd_T45 l1 x42_2).f0), .int .i64 ((rd_T45 l1 x42_2).f1), .int .i64 ((rd_T45 l1 x42_2).f2)] 45 (0, 0)) (by (with_reducible repeat (first | refine blk_drewN ?_ _ | refine blk_drew ?_ | refine blk_alloc ?_ _)); refine blk_far ?_ NB331_333.out _; (with_reducible repeat (first | refine blk_drewN ?_ _ | refine blk_drew ?_ | refine blk_alloc ?_ _)); refine blk_far ?_ NB331_333.out _; (with_reducible repeat (first | refine blk_drewN ?_ _ | refine blk_drew ?_ | refine blk_alloc ?_ _)); refine blk_far ?_ NB331_333.out _; (with_reducible repeat (first | refine blk_drewN ?_ _ | refine blk_drew ?_ | refine blk_alloc ?_ _)); refine blk_far ?_ NB331_333.out _; (with_reducible repeat (first | refine blk_drewN ?_ _ | refine blk_drew ?_ | refine blk_alloc ?_ _)); exact BK331.out) k_ hk, Kd.freshB (g := gb333) (o := .cells #[.int .i64 (Int.tmod (wrap64 (((rd_T45 l1 x42_2).f0) + (wrap64 (a2)))) t326), .int .i64 ((rd_T45 l1 x42_2).f1), .int .i64 ((rd_T45 l1 x42_2).f2)] 45 (0, 0)) (by (with_reducible repeat (first | refine blk_drewN ?_ _ | refine blk_drew ?_ | refine blk_alloc ?_ _)); refine blk_put (cs := #[.int .i64 ((rd_T45 l1 x42_2).f0), .int .i64 ((rd_T45 l1 x42_2).f1), .int .i64 ((rd_T45 l1 x42_2).f2)]) ?_ 0 _ rfl; (with_reducible repeat (first | refine blk_drewN ?_ _ | refine blk_drew ?_ | refine blk_alloc ?_ _)); refine blk_put (cs := #[.int .i64 ((rd_T45 l1 x42_2).f0), .int .i64 ((rd_T45 l1 x42_2).f1), .int .i64 0]) ?_ 2 _ rfl; (with_reducible repeat (first | refine blk_drewN ?_ _ | refine blk_drew ?_ | refine blk_alloc ?_ _)); refine blk_put (cs := #[.int .i64 ((rd_T45 l1 x42_2).f0), .int .i64 0, .int .i64 0]) ?_ 1 _ rfl; (with_reducible repeat (first | refine blk_drewN ?_ _ | refine blk_drew ?_ | refine blk_alloc ?_ _)); refine blk_put (cs := #[.int .i64 0, .int .i64 0, .int .i64 0]) ?_ 0 _ rfl; (with_reducible repeat (first | refine blk_drewN ?_ _ | refine blk_drew ?_ | refine blk_alloc ?_ _)); exact BK333.out) k_ hk⟩)); (case aO => exact (by (with_reducible repeat (first | apply Kd.R_alloc | apply Kd.R_drewN | apply Kd.R_drew)); exact Kd.R_mono (Kd.R_far (p := ⟨gb333, 0, none⟩) (Kd.R_far (p := ⟨gb333, 2, none⟩) (Kd.R_far (p := ⟨gb333, 1, none⟩) (Kd.R_far (p := ⟨gb333, 0, none⟩) (Kd.R_mono HO_9.out (fun k_ hk => (⟨hk, hk.2⟩ : _ ∧ k_ ≠ gb333))) (fun _ hk => hk.2) (.int .i64 ((rd_T45 l1 x42_2).f0))) (fun _ hk => hk.2) (.int .i64 ((rd_T45 l1 x42_2).f1))) (fun _ hk => hk.2) (.int .i64 ((rd_T45 l1 x42_2).f2))) (fun _ hk => hk.2) (.int .i64 (Int.tmod (wrap64 (((rd_T45 l1 x42_2).f0) + (wrap64 (a2)))) t326))) (fun _ hk => ⟨hk.1.1.1, ⟨hk.1.1.2, hk.1.2⟩⟩))); (case aS => exact (below_size (by repeat (first | (with_reducible first | exact HB.out | apply below_alloc | apply pw_below_drewN | apply below_drew1 | refine below_set ?_ GE331.out | refine below_set ?_ GE333.out) | exact HB.out)))); (case aL => have := LMc26.out; omega); intro v335 w39 ho hb hg hat; rw [← Ny334.out] at ho; have n0_ := Aside0.mk (Kd.R_over' (by (with_reducible repeat (first | apply Kd.R_alloc | apply Kd.R_drewN | apply Kd.R_drew)); exact (Kd.R_mono (Kd.R_far (p := ⟨gb333, 0, none⟩) (Kd.R_far (p := ⟨gb333, 2, none⟩) (Kd.R_far (p := ⟨gb333, 1, none⟩) (Kd.R_far (p := ⟨gb333, 0, none⟩) (Kd.R_types HO_8.out BK333.out (by decide)) (fun _ hk => hk.2) (.int .i64 ((rd_T45 l1 x42_2).f0))) (fun _ hk => hk.2) (.int .i64 ((rd_T45 l1 x42_2).f1))) (fun _ hk => hk.2) (.int .i64 ((rd_T45 l1 x42_2).f2))) (fun _ hk => hk.2) (.int .i64 (Int.tmod (wrap64 (((rd_T45 l1 x42_2).f0) + (wrap64 (a2)))) t326))) (fun _ h_ => h_.1))) (Kd.R_typed (by (with_reducible repeat (first | apply Kd.R_alloc | apply Kd.R_drewN | apply Kd.R_drew)); exact (Kd.R_mono (Kd.R_far (p := ⟨gb333, 0, none⟩) (Kd.R_far (p := ⟨gb333, 2, none⟩) (Kd.R_far (p := ⟨gb333, 1, none⟩) (Kd.R_far (p := ⟨gb333, 0, none⟩) (Kd.R_mono HO_9.out (fun k_ hk => (⟨hk, hk.2⟩ : _ ∧ k_ ≠ gb333))) (fun _ hk => hk.2) (.int .i64 ((rd_T45 l1 x42_2).f0))) (fun _ hk => hk.2) (.int .i64 ((rd_T45 l1 x42_2).f1))) (fun _ hk => hk.2) (.int .i64 ((rd_T45 l1 x42_2).f2))) (fun _ hk => hk.2) (.int .i64 (Int.tmod (wrap64 (((rd_T45 l1 x42_2).f0) + (wrap64 (a2)))) t326))) (fun _ h_ => h_.1)))) (by decide) hg); have n1_ := Aside0.mk (Kd.R_after (ok := (fun k_ => k_ ≠ gb331 ∧ k_ ≠ gb333)) (by (with_reducible repeat (first | apply Kd.R_alloc | apply Kd.R_drewN | apply Kd.R_drew)); exact Kd.R_mono (Kd.R_far (p := ⟨gb333, 0, none⟩) (Kd.R_far (p := ⟨gb333, 2, none⟩) (Kd.R_far (p := ⟨gb333, 1, none⟩) (Kd.R_far (p := ⟨gb333, 0, none⟩) (Kd.R_mono HO_10.out (fun k_ hk => (⟨hk, hk.2⟩ : _ ∧ k_ ≠ gb333))) (fun _ hk => hk.2) (.int .i64 ((rd_T45 l1 x42_2).f0))) (fun _ hk => hk.2) (.int .i64 ((rd_T45 l1 x42_2).f1))) (fun _ hk => hk.2) (.int .i64 ((rd_T45 l1 x42_2).f2))) (fun _ hk => hk.2) (.int .i64 (Int.tmod (wrap64 (((rd_T45 l1 x42_2).f0) + (wrap64 (a2)))) t326))) (fun _ hk => ⟨⟨hk.1.1.2, hk.1.2⟩, hk.1.1.1⟩)) hg hat); have n2_ := Aside0.mk (blk_grown (g := gb331) (o := .cells #[.int .i64 ((rd_T45 l1 x42_2).f0), .int .i64 ((rd_T45 l1 x42_2).f1), .int .i64 ((rd_T45 l1 x42_2).f2)] 45 (0, 0)) (by (with_reducible repeat (first | refine blk_drewN ?_ _ | refine blk_drew ?_ | refine blk_alloc ?_ _)); refine blk_far ?_ NB331_333.out _; (with_reducible repeat (first | refine blk_drewN ?_ _ | refine blk_drew ?_ | refine blk_alloc ?_ _)); refine blk_far ?_ NB331_333.out _; (with_reducible repeat (first | refine blk_drewN ?_ _ | refine blk_drew ?_ | refine blk_alloc ?_ _)); refine blk_far ?_ NB331_333.out _; (with_reducible repeat (first | refine blk_drewN ?_ _ | refine blk_drew ?_ | refine blk_alloc ?_ _)); refine blk_far ?_ NB331_333.out _; (with_reducible repeat (first | refine blk_drewN ?_ _ | refine blk_drew ?_ | refine blk_alloc ?_ _)); exact BK331.out) hg (Kd.R_away HO_9.out (fun _ hk => hk.1.2))); have n3_ := Aside0.mk (blk_grown (g := gb333) (o := .cells #[.int .i64 (Int.tmod (wrap64 (((rd_T45 l1 x42_2).f0) + (wrap64 (a2)))) t326), .int .i64 ((rd_T45 l1 x42_2).f1), .int .i64 ((rd_T45 l1 x42_2).f2)] 45 (0, 0)) (by (with_reducible repeat (first | refine blk_drewN ?_ _ | refine blk_drew ?_ | refine blk_alloc ?_ _)); refine blk_put (cs := #[.int .i64 ((rd_T45 l1 x42_2).f0), .int .i64 ((rd_T45 l1 x42_2).f1), .int .i64 ((rd_T45 l1 x42_2).f2)]) ?_ 0 _ rfl; (with_reducible repeat (first | refine blk_drewN ?_ _ | refine blk_drew ?_ | refine blk_alloc ?_ _)); refine blk_put (cs := #[.int .i64 ((rd_T45 l1 x42_2).f0), .int .i64 ((rd_T45 l1 x42_2).f1), .int .i64 0]) ?_ 2 _ rfl; (with_reducible repeat (first | refine blk_drewN ?_ _ | refine blk_drew ?_ | refine blk_alloc ?_ _)); refine blk_put (cs := #[.int .i64 ((rd_T45 l1 x42_2).f0), .int .i64 0, .int .i64 0]) ?_ 1 _ rfl; (with_reducible repeat (first | refine blk_drewN ?_ _ | refine blk_drew ?_ | refine blk_alloc ?_ _)); refine blk_put (cs := #[.int .i64 0, .int .i64 0, .int .i64 0]) ?_ 0 _ rfl; (with_reducible repeat (first | refine blk_drewN ?_ _ | refine blk_drew ?_ | refine blk_alloc ?_ _)); exact BK333.out) hg (Kd.R_away HO_9.out (fun _ hk => hk.2))); have n4_ := Aside0.mk (hb); have n5_ := Aside0.mk (ho); clear HO_8; clear HO_10; clear BK331; clear BK333; clear HB; clear HO_9; have HO_8 := n0_; have HO_10 := n1_; have BK331 := n2_; have BK333 := n3_; have HB := n4_; have HO336 := n5_; clear n0_ n1_ n2_ n3_ n4_ n5_; clear ho hb hg hat; have hcz40_0 : w39.cell? ⟨gb331, 0, none⟩ = some (.int .i64 ((rd_T45 l1 x42_2).f0)) := (blk_cell BK331.out 0).trans rfl; have hcz40_1 : w39.cell? ⟨gb331, 1, none⟩ = some (.int .i64 ((rd_T45 l1 x42_2).f1)) := (blk_cell BK331.out 1).trans rfl; have hcz40_2 : w39.cell? ⟨gb331, 2, none⟩ = some (.int .i64 ((rd_T45 l1 x42_2).f2)) := (blk_cell BK331.out 2).trans rfl; have hfz40_0 := blk_frozen BK331.out 0; have hfz40_1 := blk_frozen BK331.out 1; have hfz40_2 := blk_frozen BK331.out 2; have hcz41_0 : w39.cell? ⟨gb333, 0, none⟩ = some (.int .i64 (Int.tmod (wrap64 (((rd_T45 l1 x42_2).f0) + (wrap64 (a2)))) t326)) := (blk_cell BK333.out 0).trans rfl; have hcz41_1 : w39.cell? ⟨gb333, 1, none⟩ = some (.int .i64 ((rd_T45 l1 x42_2).f1)) := (blk_cell BK333.out 1).trans rfl; have hcz41_2 : w39.cell? ⟨gb333, 2, none⟩ = some (.int .i64 ((rd_T45 l1 x42_2).f2)) := (blk_cell BK333.out 2).trans rfl; have hfz41_0 := blk_frozen BK333.out 0; have hfz41_1 := blk_frozen BK333.out 1; have hfz41_2 := blk_frozen BK333.out 2) | ((with_reducible refine gate_builtin (b := .append) (xs := #[.tmp 69, .tmp 71]) rfl ?_); (try (refine gate_guard (by rfl) ?_; dsimp only)); at_builtin; refine Kd.R_append k45 (w0 := w) w.heap.size rfl (.tmp 69) (.tmp 71) 22 45 (.agg #[(.int .i64 0), (.int .i64 0), (.int .i64 0)]) 24 rfl Try.underlying22 info45 rfl (by decide) (by omega) u10 x10_2 (⟨wrap64 ((wrap64 (t326 - 1)) - ((rd_T45 l1 x42_2).f0)), (rd_T45 l1 x42_2).f1, (rd_T45 l1 x42_2).f2⟩ : S45) [.int .i64 (wrap64 ((wrap64 (t326 - 1)) - ((rd_T45 l1 x42_2).f0))), .int .i64 ((rd_T45 l1 x42_2).f1), .int .i64 ((rd_T45 l1 x42_2).f2)] (fun k_ => some k_ ≠ (v335 : Value).ownBlock ∧ k_ ≠ gb331 ∧ k_ ≠ gb333) (fun _ => False) rfl (by first | (go_simp; done) | (go_simp; rfl)) ?aP (fun _ hk => hk.elim) ?aF ?aO ?aB ?aS ?aL ?_; (case aP => exact k45_mkM _ _ _ (⟨wrap64 ((wrap64 (t326 - 1)) - ((rd_T45 l1 x42_2).f0)), (rd_T45 l1 x42_2).f1, (rd_T45 l1 x42_2).f2⟩ : S45)); (case aB => exact (by repeat (first | (with_reducible first | exact HB.out | apply below_alloc | apply pw_below_drewN | apply below_drew1 | refine below_set ?_ GE331.out | refine below_set ?_ GE333.out) | exact HB.out))); (case aF => exact (fun k_ hk => ⟨Kd.fresh' (Kd.R_lt (by (with_reducible repeat (first | apply Kd.R_alloc | apply Kd.R_drewN | apply Kd.R_drew)); exact (Kd.R_mono (Kd.R_far (p := ⟨gb333, 0, none⟩) (Kd.R_mono HO336.out (fun k_ hk => (⟨hk, hk.2.2⟩ : _ ∧ k_ ≠ gb333))) (fun _ hk => hk.2) (.int .i64 (wrap64 ((wrap64 (t326 - 1)) - ((rd_T45 l1 x42_2).f0))))) (fun _ h_ => h_.1)))) k_ hk, Kd.freshB (g := gb331) (o := .cells #[.int .i64 ((rd_T45 l1 x42_2).f0), .int .i64 ((rd_T45 l1 x42_2).f1), .int .i64 ((rd_T45 l1 x42_2).f2)] 45 (0, 0)) (by (with_reducible repeat (first | refine blk_drewN ?_ _ | refine blk_drew ?_ | refine blk_alloc ?_ _)); refine blk_far ?_ NB331_333.out _; (with_reducible repeat (first | refine blk_drewN ?_ _ | refine blk_drew ?_ | refine blk_alloc ?_ _)); exact BK331.out) k_ hk, Kd.freshB (g := gb333) (o := .cells #[.int .i64 (wrap64 ((wrap64 (t326 - 1)) - ((rd_T45 l1 x42_2).f0))), .int .i64 ((rd_T45 l1 x42_2).f1), .int .i64 ((rd_T45 l1 x42_2).f2)] 45 (0, 0)) (by (with_reducible repeat (first | refine blk_drewN ?_ _ | refine blk_drew ?_ | refine blk_alloc ?_ _)); refine blk_put (cs := #[.int .i64 (Int.tmod (wrap64 (((rd_T45 l1 x42_2).f0) + (wrap64 (a2)))) t326), .int .i64 ((rd_T45 l1 x42_2).f1), .int .i64 ((rd_T45 l1 x42_2).f2)]) ?_ 0 _ rfl; (with_reducible repeat (first | refine blk_drewN ?_ _ | refine blk_drew ?_ | refine blk_alloc ?_ _)); exact BK333.out) k_ hk⟩)); (case aO => exact (by (with_reducible repeat (first | apply Kd.R_alloc | apply Kd.R_drewN | apply Kd.R_drew)); exact Kd.R_mono (Kd.R_far (p := ⟨gb333, 0, none⟩) (Kd.R_mono HO_10.out (fun k_ hk => (⟨hk, hk.1.2⟩ : _ ∧ k_ ≠ gb333))) (fun _ hk => hk.2) (.int .i64 (wrap64 ((wrap64 (t326 - 1)) - ((rd_T45 l1 x42_2).f0))))) (fun _ hk => ⟨hk.1.2, ⟨hk.1.1.1, hk.1.1.2⟩⟩))); (case aS => exact (below_size (by repeat (first | (with_reducible first | exact HB.out | apply below_alloc | apply pw_below_drewN | apply below_drew1 | refine below_set ?_ GE331.out | refine below_set ?_ GE333.out) | exact HB.out)))); (case aL => have := LMc27.out; omega); intro v338 w42 ho hb hg hat; rw [← Ny337.out] at ho; have n0_ := Aside0.mk (Kd.R_over' (by (with_reducible repeat (first | apply Kd.R_alloc | apply Kd.R_drewN | apply Kd.R_drew)); exact (Kd.R_mono (Kd.R_far (p := ⟨gb333, 0, none⟩) (Kd.R_types HO_8.out BK333.out (by decide)) (fun _ hk => hk.2) (.int .i64 (wrap64 ((wrap64 (t326 - 1)) - ((rd_T45 l1 x42_2).f0))))) (fun _ h_ => h_.1))) (Kd.R_typed (by (with_reducible repeat (first | apply Kd.R_alloc | apply Kd.R_drewN | apply Kd.R_drew)); exact (Kd.R_mono (Kd.R_far (p := ⟨gb333, 0, none⟩) (Kd.R_mono HO_10.out (fun k_ hk => (⟨hk, hk.1.2⟩ : _ ∧ k_ ≠ gb333))) (fun _ hk => hk.2) (.int .i64 (wrap64 ((wrap64 (t326 - 1)) - ((rd_T45 l1 x42_2).f0))))) (fun _ h_ => h_.1)))) (by decide) hg); have n1_ := Aside0.mk (blk_grown (g := gb331) (o := .cells #[.int .i64 ((rd_T45 l1 x42_2).f0), .int .i64 ((rd_T45 l1 x42_2).f1), .int .i64 ((rd_T45 l1 x42_2).f2)] 45 (0, 0)) (by (with_reducible repeat (first | refine blk_drewN ?_ _ | refine blk_drew ?_ | refine blk_alloc ?_ _)); refine blk_far ?_ NB331_333.out _; (with_reducible repeat (first | refine blk_drewN ?_ _ | refine blk_drew ?_ | refine blk_alloc ?_ _)); exact BK331.out) hg (Kd.R_away HO_10.out (fun _ hk => hk.1.1))); have n2_ := Aside0.mk (blk_grown (g := gb333) (o := .cells #[.int .i64 (wrap64 ((wrap64 (t326 - 1)) - ((rd_T45 l1 x42_2).f0))), .int .i64 ((rd_T45 l1 x42_2).f1), .int .i64 ((rd_T45 l1 x42_2).f2)] 45 (0, 0)) (by (with_reducible repeat (first | refine blk_drewN ?_ _ | refine blk_drew ?_ | refine blk_alloc ?_ _)); refine blk_put (cs := #[.int .i64 (Int.tmod (wrap64 (((rd_T45 l1 x42_2).f0) + (wrap64 (a2)))) t326), .int .i64 ((rd_T45 l1 x42_2).f1), .int .i64 ((rd_T45 l1 x42_2).f2)]) ?_ 0 _ rfl; (with_reducible repeat (first | refine blk_drewN ?_ _ | refine blk_drew ?_ | refine blk_alloc ?_ _)); exact BK333.out) hg (Kd.R_away HO_10.out (fun _ hk => hk.1.2))); have n3_ := Aside0.mk (Kd.R_after (ok := (fun k_ => k_ ≠ gb331 ∧ k_ ≠ gb333)) (by (with_reducible repeat (first | apply Kd.R_alloc | apply Kd.R_drewN | apply Kd.R_drew)); exact Kd.R_mono (Kd.R_far (p := ⟨gb333, 0, none⟩) (Kd.R_mono HO336.out (fun k_ hk => (⟨hk, hk.2.2⟩ : _ ∧ k_ ≠ gb333))) (fun _ hk => hk.2) (.int .i64 (wrap64 ((wrap64 (t326 - 1)) - ((rd_T45 l1 x42_2).f0))))) (fun _ hk => ⟨⟨hk.1.2.1, hk.1.2.2⟩, hk.1.1⟩)) hg hat); have n4_ := Aside0.mk (hb); have n5_ := Aside0.mk (ho); clear HO_8; clear BK331; clear BK333; clear HO336; clear HB; clear HO_10; have HO_8 := n0_; have BK331 := n1_; have BK333 := n2_; have HO336 := n3_; have HB := n4_; have HO339 := n5_; clear n0_ n1_ n2_ n3_ n4_ n5_; clear ho hb hg hat)))
                                  go_roundg k2
                                  case measure => have := HJ5.out; have := HK2.out; omega
                                  case rel => exact ⟨(y332), (y334), (y337), (wrap64 (x42_2 + 1)), (by first | rfl | (simp; done) | (simp [*]; done)), H', ⟨by have := HJ5.out; have := HK2.out; omega⟩, ⟨by (with_reducible repeat (first | apply Kd.R_alloc | apply Kd.R_drewN | apply Kd.R_drew)); exact HO_8.out⟩, ⟨by (with_reducible repeat (first | apply Kd.R_alloc | apply Kd.R_drewN | apply Kd.R_drew)); exact Kd.R_mono HO336.out (fun _ hk => hk.2)⟩, ⟨by (with_reducible repeat (first | apply Kd.R_alloc | apply Kd.R_drewN | apply Kd.R_drew)); exact Kd.R_mono HO339.out (fun _ hk => hk.1)⟩, ⟨by repeat (first | (with_reducible first | exact HB.out | apply below_alloc | apply pw_below_drewN | apply below_drew1 | refine below_set ?_ GE331.out | refine below_set ?_ GE333.out) | exact HB.out)⟩⟩
                                · rw [if_neg c27] at H
                                  exact absurd H (by simp)
                              · rw [if_neg c26] at H
                                exact absurd H (by simp)
                          · rw [if_neg c23] at H
                            exact absurd H (by simp)
                        · rw [if_neg c22] at H
                          exact absurd H (by simp)
                      · rw [if_neg c21] at H
                        exact absurd H (by simp)
                    · rw [if_neg c20] at H
                      exact absurd H (by simp)
                  · rw [if_neg c19] at H
                    have c19b0 : decide (x42_2 < (l1.length : Int)) = false := decide_eq_false c19
                    clear c19
                    have H' := Aside0.mk H
                    clear H
                    obtain ⟨Ao43, co43, eo43⟩ := Kd.R_slice HO_8.out
                    subst eo43
                    go_wp2
                    repeat (go_quiet (fail); try go_wp2)
                    go_loopg [76] k2 (fun kq v76 w' => ∃ (x76_3 : Int), v76 = .int .i64 x76_3 ∧ Aside0 (fastilaw22_CarryTurned.l1 kq a0 l1 x9_2 x10_2 x8_2 (x8_2.length : Int) x76_3 = some r) ∧ Aside0 (kq ≤ k2) ∧ Aside0 (Kd.R k45 45 w' w.heap.size (fun k_ => some k_ ≠ (u10 : Value).ownBlock) u9 x9_2) ∧ Aside0 (Kd.R k45 45 w' w.heap.size (fun k_ => some k_ ≠ (u9 : Value).ownBlock) u10 x10_2) ∧ Aside0 (Kd.R Kd.bool 4 w' w.heap.size (fun _ => True) (.slice Ao43 x8_2.length co43) x8_2) ∧ Aside0 (Below w.heap.size w w'))
                    case atStart => exact ⟨(0), (by first | rfl | (simp; done) | (simp [*]; done)), H', ⟨Nat.le_refl _⟩, ⟨by (with_reducible repeat (first | apply Kd.R_alloc | apply Kd.R_drewN | apply Kd.R_drew)); exact HO_9.out⟩, ⟨by (with_reducible repeat (first | apply Kd.R_alloc | apply Kd.R_drewN | apply Kd.R_drew)); exact HO_10.out⟩, ⟨by (with_reducible repeat (first | apply Kd.R_alloc | apply Kd.R_drewN | apply Kd.R_drew)); exact HO_8.out⟩, ⟨by repeat (first | (with_reducible first | exact HB.out | apply below_alloc | apply pw_below_drewN | apply below_drew1) | exact HB.out)⟩⟩
                    case round =>
                      clear H'
                      try clear c1
                      try clear c2
                      try clear p2
                      try clear q2
                      try clear hx2
                      try clear c3
                      try clear p3
                      try clear q3
                      try clear hx3
                      try clear c5
                      try clear p6
                      try clear c7
                      try clear c9
                      try clear c12
                      try clear c14
                      try clear c14b0
                      try clear c14b1
                      try clear c15
                      try clear c15b0
                      try clear c15b1
                      try clear c19
                      try clear c19b0
                      try clear c20
                      try clear c20b0
                      try clear c21
                      try clear c21b0
                      try clear c22
                      try clear c22b0
                      try clear c23
                      try clear c23b0
                      try clear p24
                      try clear q24
                      try clear hx24
                      try clear hf24
                      try clear c25
                      try clear c25b0
                      try clear c25b1
                      try clear c26
                      try clear c27
                      try clear p33
                      try clear q33
                      try clear hx33
                      try clear c36
                      try clear hcz29_0
                      try clear hcz29_1
                      try clear hcz29_2
                      try clear hcz31_0
                      try clear hcz31_1
                      try clear hcz31_2
                      try clear hcz34_0
                      try clear hcz34_1
                      try clear hcz34_2
                      try clear hcz37_0
                      try clear hcz37_1
                      try clear hcz37_2
                      try clear hcz38_0
                      try clear hcz38_1
                      try clear hcz38_2
                      try clear hcz40_0
                      try clear hcz40_1
                      try clear hcz40_2
                      try clear hcz41_0
                      try clear hcz41_1
                      try clear hcz41_2
                      try clear hfz29_0
                      try clear hfz29_1
                      try clear hfz29_2
                      try clear hfz31_0
                      try clear hfz31_1
                      try clear hfz31_2
                      try clear hfz34_0
                      try clear hfz34_1
                      try clear hfz34_2
                      try clear hfz37_0
                      try clear hfz37_1
                      try clear hfz37_2
                      try clear hfz38_0
                      try clear hfz38_1
                      try clear hfz38_2
                      try clear hfz40_0
                      try clear hfz40_1
                      try clear hfz40_2
                      try clear hfz41_0
                      try clear hfz41_1
                      try clear hfz41_2
                      try clear hx24_0
                      try clear hx330_0
                      try clear hx330_1
                      try clear hx330_2
                      try clear p2
                      try clear p24
                      try clear p330
                      try clear q24
                      try clear q330
                      obtain ⟨x76_3, rfl, HA, HK3, HO_9, HO_10, HO_74, HB⟩ := hrel
                      cases gk with
                      | zero => exact absurd HA.out (by simp [fastilaw22_CarryTurned.l1])
                      | succ k3 =>
                        have H := HA.out
                        clear HA
                        simp only [fastilaw22_CarryTurned.l1] at H
                        by_cases c44 : x76_3 < (x8_2.length : Int)
                        · rw [if_pos c44] at H
                          have c44b0 : decide (x76_3 < (x8_2.length : Int)) = true := decide_eq_true c44
                          clear c44
                          by_cases c45 : 0 ≤ x76_3
                          · rw [if_pos c45] at H
                            have c45b0 : decide (0 ≤ x76_3) = true := decide_eq_true c45
                            clear c45
                            by_cases c46 : x76_3 < (x8_2.length : Int)
                            · rw [if_pos c46] at H
                              have c46b0 : decide (x76_3 < (x8_2.length : Int)) = true := decide_eq_true c46
                              clear c46
                              obtain ⟨bq47, hbq47⟩ : ∃ b_ : Bool, b_ = (rdOf false x8_2 x76_3) := ⟨_, rfl⟩
                              replace H : (if bq47 = true then (fastilaw22_CarryTurned.l1 k3 a0 l1 x9_2 x10_2 x8_2 (x8_2.length : Int) (wrap64 (x76_3 + 1))) else (some true)) = some r := by rw [← hbq47] at H; exact H
                              have Nbq47 := Aside0.mk hbq47
                              clear hbq47
                              by_cases c48 : bq47 = true
                              · subst c48
                                have H1 : (fastilaw22_CarryTurned.l1 k3 a0 l1 x9_2 x10_2 x8_2 (x8_2.length : Int) (wrap64 (x76_3 + 1))) = some r := by rw [if_pos rfl] at H; exact H
                                clear H
                                have H := H1
                                clear H1
                                have H' := Aside0.mk H
                                clear H
                                have p340 : 0 ≤ (x76_3 : Int) := of_decide_eq_true (by first | (with_reducible assumption) | assumption)
                                have q340 : x76_3 < (x8_2.length : Int) := of_decide_eq_true (by first | (with_reducible assumption) | assumption)
                                obtain ⟨ad340, e340, hx340_0⟩ := Kd.at_bool (Kd.R_reads' HO_74.out).2.2 x76_3 p340 q340
                                (try rw [← Nbq47.out] at hx340_0)
                                cases e340
                                replace p340 := eq_true p340
                                replace q340 := eq_true q340
                                go_wp2
                                repeat (go_quiet (fail); try go_wp2)
                                go_roundg k3
                                case measure => have := HJ5.out; have := HK2.out; have := HK3.out; omega
                                case rel => exact ⟨(wrap64 (x76_3 + 1)), (by first | rfl | (simp; done) | (simp [*]; done)), H', ⟨by have := HJ5.out; have := HK2.out; have := HK3.out; omega⟩, ⟨by (with_reducible repeat (first | apply Kd.R_alloc | apply Kd.R_drewN | apply Kd.R_drew)); exact HO_9.out⟩, ⟨by (with_reducible repeat (first | apply Kd.R_alloc | apply Kd.R_drewN | apply Kd.R_drew)); exact HO_10.out⟩, ⟨by (with_reducible repeat (first | apply Kd.R_alloc | apply Kd.R_drewN | apply Kd.R_drew)); exact HO_74.out⟩, ⟨by repeat (first | (with_reducible first | exact HB.out | apply below_alloc | apply pw_below_drewN | apply below_drew1) | exact HB.out)⟩⟩
                              · replace c48 := Bool.eq_false_iff.mpr c48
                                subst c48
                                have H1 : (some true) = some r := by rw [if_neg (show ¬ (false = true) by decide)] at H; exact H
                                clear H
                                have H := H1
                                clear H1
                                obtain rfl := Option.some.inj H
                                have p340 : 0 ≤ (x76_3 : Int) := of_decide_eq_true (by first | (with_reducible assumption) | assumption)
                                have q340 : x76_3 < (x8_2.length : Int) := of_decide_eq_true (by first | (with_reducible assumption) | assumption)
                                obtain ⟨ad340, e340, hx340_0⟩ := Kd.at_bool (Kd.R_reads' HO_74.out).2.2 x76_3 p340 q340
                                (try rw [← Nbq47.out] at hx340_0)
                                cases e340
                                replace p340 := eq_true p340
                                replace q340 := eq_true q340
                                go_wp2
                                repeat (go_quiet (fail); try go_wp2)
                                go_ret
                                exact ⟨by first | rfl | (simp [errW_none, errW_some] <;> rfl) | (simp [*, errW_none, errW_some] <;> rfl), by repeat (first | (with_reducible first | exact HB.out | apply below_alloc | apply pw_below_drewN | apply below_drew1) | exact HB.out)⟩
                            · rw [if_neg c46] at H
                              exact absurd H (by simp)
                          · rw [if_neg c45] at H
                            exact absurd H (by simp)
                        · rw [if_neg c44] at H
                          have c44b0 : decide (x76_3 < (x8_2.length : Int)) = false := decide_eq_false c44
                          clear c44
                          replace H := Option.bind_eq_some_iff.mp H
                          obtain ⟨⟨t341, t342⟩, A490, H⟩ := H
                          replace H : ((carry_Matrix.f a0 x9_2).bind fun bt345 => ((carry_Matrix.f a0 x10_2).bind fun bt349 => (if t342 = 0 then (if bt345.2 = 0 then (if bt349.2 = 0 then (if (t341.length : Int) = a0 then (if (bt349.1.length : Int) = a0 then ((fastiref22_SameAll.f k3 t341 bt345.1).bind fun t353 => (fastilaw22_CarryTurned.j3 k3 a0 t341 bt349.1 (!t353))) else (fastilaw22_CarryTurned.j3 k3 a0 t341 bt349.1 true)) else (fastilaw22_CarryTurned.j3 k3 a0 t341 bt349.1 true)) else (fastilaw22_CarryTurned.j3 k3 a0 t341 bt349.1 true)) else (fastilaw22_CarryTurned.j3 k3 a0 t341 bt349.1 true)) else (fastilaw22_CarryTurned.j3 k3 a0 t341 bt349.1 true)))) = some r := H
                          have A49 := Aside0.mk A490
                          clear A490
                          replace H := Option.bind_eq_some_iff.mp H
                          obtain ⟨⟨t345, t346⟩, A500, H⟩ := H
                          replace H : ((carry_Matrix.f a0 x10_2).bind fun bt349 => (if t342 = 0 then (if t346 = 0 then (if bt349.2 = 0 then (if (t341.length : Int) = a0 then (if (bt349.1.length : Int) = a0 then ((fastiref22_SameAll.f k3 t341 t345).bind fun t353 => (fastilaw22_CarryTurned.j3 k3 a0 t341 bt349.1 (!t353))) else (fastilaw22_CarryTurned.j3 k3 a0 t341 bt349.1 true)) else (fastilaw22_CarryTurned.j3 k3 a0 t341 bt349.1 true)) else (fastilaw22_CarryTurned.j3 k3 a0 t341 bt349.1 true)) else (fastilaw22_CarryTurned.j3 k3 a0 t341 bt349.1 true)) else (fastilaw22_CarryTurned.j3 k3 a0 t341 bt349.1 true))) = some r := H
                          have A50 := Aside0.mk A500
                          clear A500
                          replace H := Option.bind_eq_some_iff.mp H
                          obtain ⟨⟨t349, t350⟩, A510, H⟩ := H
                          replace H : (if t342 = 0 then (if t346 = 0 then (if t350 = 0 then (if (t341.length : Int) = a0 then (if (t349.length : Int) = a0 then ((fastiref22_SameAll.f k3 t341 t345).bind fun t353 => (fastilaw22_CarryTurned.j3 k3 a0 t341 t349 (!t353))) else (fastilaw22_CarryTurned.j3 k3 a0 t341 t349 true)) else (fastilaw22_CarryTurned.j3 k3 a0 t341 t349 true)) else (fastilaw22_CarryTurned.j3 k3 a0 t341 t349 true)) else (fastilaw22_CarryTurned.j3 k3 a0 t341 t349 true)) else (fastilaw22_CarryTurned.j3 k3 a0 t341 t349 true)) = some r := H
                          have A51 := Aside0.mk A510
                          clear A510
                          have HC52 := Aside0.mk H
                          clear H
                          go_upto_region 27 with (first | (go_at_call 11; (with_reducible refine (carry_Matrix.calls a0 _ _ l1 t341 t342 _ ?side1 ?side2 A49.out).mono ?_); (case side1 => repeat (first | exact (Kd.C_below HR1.out HB.out) | (with_reducible refine Kd.C_alloc ?_ _) | (with_reducible refine Kd.C_drewN ?_ _) | (with_reducible refine Kd.C_drew ?_))); (case side2 => exact HC1.out); rintro e w53 ⟨v343, rfl, ho0, hb⟩; have n0_ := Aside0.mk (Kd.R_below (by (with_reducible repeat (first | apply Kd.R_alloc | apply Kd.R_drewN | apply Kd.R_drew)); exact HO_9.out) hb); have n1_ := Aside0.mk (Kd.R_below (by (with_reducible repeat (first | apply Kd.R_alloc | apply Kd.R_drewN | apply Kd.R_drew)); exact HO_10.out) hb); have n2_ := Aside0.mk (Kd.R_below (by (with_reducible repeat (first | apply Kd.R_alloc | apply Kd.R_drewN | apply Kd.R_drew)); exact HO_74.out) hb); have n3_ := Aside0.mk (Kd.S_lower ho0 (below_size (by repeat (first | (with_reducible first | exact HB.out | apply below_alloc | apply pw_below_drewN | apply below_drew1) | exact HB.out)))); have n4_ := Aside0.mk (below_step (by repeat (first | (with_reducible first | exact HB.out | apply below_alloc | apply pw_below_drewN | apply below_drew1) | exact HB.out)) hb); clear HO_9; clear HO_10; clear HO_74; clear HB; have HO_9 := n0_; have HO_10 := n1_; have HO_74 := n2_; have HO344 := n3_; have HB := n4_; clear n0_ n1_ n2_ n3_ n4_; (try clear hb); (try clear hb2); (try clear hk); (try clear hi); (try clear ho0); obtain ⟨Ao54, co54, eo54⟩ := Kd.R_slice HO_9.out; subst eo54) | (go_at_call 11; (with_reducible refine (carry_Matrix.calls a0 _ _ x9_2 t345 t346 _ ?side1 ?side2 A50.out).mono ?_); (case side1 => repeat (first | exact (Kd.R_reads' HO_9.out).2.2 | (with_reducible refine Kd.C_alloc ?_ _) | (with_reducible refine Kd.C_drewN ?_ _) | (with_reducible refine Kd.C_drew ?_))); (case side2 => exact (Kd.R_reads' HO_9.out).2.1); rintro e w55 ⟨v347, rfl, ho0, hb⟩; have n0_ := Aside0.mk (Kd.R_below (by (with_reducible repeat (first | apply Kd.R_alloc | apply Kd.R_drewN | apply Kd.R_drew)); exact HO_9.out) hb); have n1_ := Aside0.mk (Kd.R_below (by (with_reducible repeat (first | apply Kd.R_alloc | apply Kd.R_drewN | apply Kd.R_drew)); exact HO_10.out) hb); have n2_ := Aside0.mk (Kd.R_below (by (with_reducible repeat (first | apply Kd.R_alloc | apply Kd.R_drewN | apply Kd.R_drew)); exact HO_74.out) hb); have n3_ := Aside0.mk (Kd.S_elder' (by (with_reducible repeat (first | apply Kd.S_alloc | apply Kd.S_drewN | apply Kd.S_drew)); exact HO344.out) (Kd.S_base ho0) hb); have n4_ := Aside0.mk (Kd.S_lower (Kd.S_new' ho0 (Kd.S_lt (by (with_reducible repeat (first | apply Kd.S_alloc | apply Kd.S_drewN | apply Kd.S_drew)); exact HO344.out))) (below_size (by repeat (first | (with_reducible first | exact HB.out | apply below_alloc | apply pw_below_drewN | apply below_drew1) | exact HB.out)))); have n5_ := Aside0.mk (below_step (by repeat (first | (with_reducible first | exact HB.out | apply below_alloc | apply pw_below_drewN | apply below_drew1) | exact HB.out)) hb); clear HO_9; clear HO_10; clear HO_74; clear HO344; clear HB; have HO_9 := n0_; have HO_10 := n1_; have HO_74 := n2_; have HO344 := n3_; have HO348 := n4_; have HB := n5_; clear n0_ n1_ n2_ n3_ n4_ n5_; (try clear hb); (try clear hb2); (try clear hk); (try clear hi); (try clear ho0); obtain ⟨Ao56, co56, eo56⟩ := Kd.R_slice HO_10.out; subst eo56) | (go_at_call 11; (with_reducible refine (carry_Matrix.calls a0 _ _ x10_2 t349 t350 _ ?side1 ?side2 A51.out).mono ?_); (case side1 => repeat (first | exact (Kd.R_reads' HO_10.out).2.2 | (with_reducible refine Kd.C_alloc ?_ _) | (with_reducible refine Kd.C_drewN ?_ _) | (with_reducible refine Kd.C_drew ?_))); (case side2 => exact (Kd.R_reads' HO_10.out).2.1); rintro e w57 ⟨v351, rfl, ho0, hb⟩; have n0_ := Aside0.mk (Kd.R_below (by (with_reducible repeat (first | apply Kd.R_alloc | apply Kd.R_drewN | apply Kd.R_drew)); exact HO_9.out) hb); have n1_ := Aside0.mk (Kd.R_below (by (with_reducible repeat (first | apply Kd.R_alloc | apply Kd.R_drewN | apply Kd.R_drew)); exact HO_10.out) hb); have n2_ := Aside0.mk (Kd.R_below (by (with_reducible repeat (first | apply Kd.R_alloc | apply Kd.R_drewN | apply Kd.R_drew)); exact HO_74.out) hb); have n3_ := Aside0.mk (Kd.S_elder' (by (with_reducible repeat (first | apply Kd.S_alloc | apply Kd.S_drewN | apply Kd.S_drew)); exact HO344.out) (Kd.S_base ho0) hb); have n4_ := Aside0.mk (Kd.S_elder' (by (with_reducible repeat (first | apply Kd.S_alloc | apply Kd.S_drewN | apply Kd.S_drew)); exact HO348.out) (Kd.S_base ho0) hb); have n5_ := Aside0.mk (Kd.S_lower (Kd.S_new' (Kd.S_new' ho0 (Kd.S_lt (by (with_reducible repeat (first | apply Kd.S_alloc | apply Kd.S_drewN | apply Kd.S_drew)); exact HO344.out))) (Kd.S_lt (by (with_reducible repeat (first | apply Kd.S_alloc | apply Kd.S_drewN | apply Kd.S_drew)); exact HO348.out))) (below_size (by repeat (first | (with_reducible first | exact HB.out | apply below_alloc | apply pw_below_drewN | apply below_drew1) | exact HB.out)))); have n6_ := Aside0.mk (below_step (by repeat (first | (with_reducible first | exact HB.out | apply below_alloc | apply pw_below_drewN | apply below_drew1) | exact HB.out)) hb); clear HO_9; clear HO_10; clear HO_74; clear HO344; clear HO348; clear HB; have HO_9 := n0_; have HO_10 := n1_; have HO_74 := n2_; have HO344 := n3_; have HO348 := n4_; have HO352 := n5_; have HB := n6_; clear n0_ n1_ n2_ n3_ n4_ n5_ n6_; (try clear hb); (try clear hb2); (try clear hk); (try clear hi); (try clear ho0)))
                          repeat (go_quiet (first | (go_at_call 11; (with_reducible refine (carry_Matrix.calls a0 _ _ l1 t341 t342 _ ?side1 ?side2 A49.out).mono ?_); (case side1 => repeat (first | exact (Kd.C_below HR1.out HB.out) | (with_reducible refine Kd.C_alloc ?_ _) | (with_reducible refine Kd.C_drewN ?_ _) | (with_reducible refine Kd.C_drew ?_))); (case side2 => exact HC1.out); rintro e w53 ⟨v343, rfl, ho0, hb⟩; have n0_ := Aside0.mk (Kd.R_below (by (with_reducible repeat (first | apply Kd.R_alloc | apply Kd.R_drewN | apply Kd.R_drew)); exact HO_9.out) hb); have n1_ := Aside0.mk (Kd.R_below (by (with_reducible repeat (first | apply Kd.R_alloc | apply Kd.R_drewN | apply Kd.R_drew)); exact HO_10.out) hb); have n2_ := Aside0.mk (Kd.R_below (by (with_reducible repeat (first | apply Kd.R_alloc | apply Kd.R_drewN | apply Kd.R_drew)); exact HO_74.out) hb); have n3_ := Aside0.mk (Kd.S_lower ho0 (below_size (by repeat (first | (with_reducible first | exact HB.out | apply below_alloc | apply pw_below_drewN | apply below_drew1) | exact HB.out)))); have n4_ := Aside0.mk (below_step (by repeat (first | (with_reducible first | exact HB.out | apply below_alloc | apply pw_below_drewN | apply below_drew1) | exact HB.out)) hb); clear HO_9; clear HO_10; clear HO_74; clear HB; have HO_9 := n0_; have HO_10 := n1_; have HO_74 := n2_; have HO344 := n3_; have HB := n4_; clear n0_ n1_ n2_ n3_ n4_; (try clear hb); (try clear hb2); (try clear hk); (try clear hi); (try clear ho0); obtain ⟨Ao54, co54, eo54⟩ := Kd.R_slice HO_9.out; subst eo54) | (go_at_call 11; (with_reducible refine (carry_Matrix.calls a0 _ _ x9_2 t345 t346 _ ?side1 ?side2 A50.out).mono ?_); (case side1 => repeat (first | exact (Kd.R_reads' HO_9.out).2.2 | (with_reducible refine Kd.C_alloc ?_ _) | (with_reducible refine Kd.C_drewN ?_ _) | (with_reducible refine Kd.C_drew ?_))); (case side2 => exact (Kd.R_reads' HO_9.out).2.1); rintro e w55 ⟨v347, rfl, ho0, hb⟩; have n0_ := Aside0.mk (Kd.R_below (by (with_reducible repeat (first | apply Kd.R_alloc | apply Kd.R_drewN | apply Kd.R_drew)); exact HO_9.out) hb); have n1_ := Aside0.mk (Kd.R_below (by (with_reducible repeat (first | apply Kd.R_alloc | apply Kd.R_drewN | apply Kd.R_drew)); exact HO_10.out) hb); have n2_ := Aside0.mk (Kd.R_below (by (with_reducible repeat (first | apply Kd.R_alloc | apply Kd.R_drewN | apply Kd.R_drew)); exact HO_74.out) hb); have n3_ := Aside0.mk (Kd.S_elder' (by (with_reducible repeat (first | apply Kd.S_alloc | apply Kd.S_drewN | apply Kd.S_drew)); exact HO344.out) (Kd.S_base ho0) hb); have n4_ := Aside0.mk (Kd.S_lower (Kd.S_new' ho0 (Kd.S_lt (by (with_reducible repeat (first | apply Kd.S_alloc | apply Kd.S_drewN | apply Kd.S_drew)); exact HO344.out))) (below_size (by repeat (first | (with_reducible first | exact HB.out | apply below_alloc | apply pw_below_drewN | apply below_drew1) | exact HB.out)))); have n5_ := Aside0.mk (below_step (by repeat (first | (with_reducible first | exact HB.out | apply below_alloc | apply pw_below_drewN | apply below_drew1) | exact HB.out)) hb); clear HO_9; clear HO_10; clear HO_74; clear HO344; clear HB; have HO_9 := n0_; have HO_10 := n1_; have HO_74 := n2_; have HO344 := n3_; have HO348 := n4_; have HB := n5_; clear n0_ n1_ n2_ n3_ n4_ n5_; (try clear hb); (try clear hb2); (try clear hk); (try clear hi); (try clear ho0); obtain ⟨Ao56, co56, eo56⟩ := Kd.R_slice HO_10.out; subst eo56) | (go_at_call 11; (with_reducible refine (carry_Matrix.calls a0 _ _ x10_2 t349 t350 _ ?side1 ?side2 A51.out).mono ?_); (case side1 => repeat (first | exact (Kd.R_reads' HO_10.out).2.2 | (with_reducible refine Kd.C_alloc ?_ _) | (with_reducible refine Kd.C_drewN ?_ _) | (with_reducible refine Kd.C_drew ?_))); (case side2 => exact (Kd.R_reads' HO_10.out).2.1); rintro e w57 ⟨v351, rfl, ho0, hb⟩; have n0_ := Aside0.mk (Kd.R_below (by (with_reducible repeat (first | apply Kd.R_alloc | apply Kd.R_drewN | apply Kd.R_drew)); exact HO_9.out) hb); have n1_ := Aside0.mk (Kd.R_below (by (with_reducible repeat (first | apply Kd.R_alloc | apply Kd.R_drewN | apply Kd.R_drew)); exact HO_10.out) hb); have n2_ := Aside0.mk (Kd.R_below (by (with_reducible repeat (first | apply Kd.R_alloc | apply Kd.R_drewN | apply Kd.R_drew)); exact HO_74.out) hb); have n3_ := Aside0.mk (Kd.S_elder' (by (with_reducible repeat (first | apply Kd.S_alloc | apply Kd.S_drewN | apply Kd.S_drew)); exact HO344.out) (Kd.S_base ho0) hb); have n4_ := Aside0.mk (Kd.S_elder' (by (with_reducible repeat (first | apply Kd.S_alloc | apply Kd.S_drewN | apply Kd.S_drew)); exact HO348.out) (Kd.S_base ho0) hb); have n5_ := Aside0.mk (Kd.S_lower (Kd.S_new' (Kd.S_new' ho0 (Kd.S_lt (by (with_reducible repeat (first | apply Kd.S_alloc | apply Kd.S_drewN | apply Kd.S_drew)); exact HO344.out))) (Kd.S_lt (by (with_reducible repeat (first | apply Kd.S_alloc | apply Kd.S_drewN | apply Kd.S_drew)); exact HO348.out))) (below_size (by repeat (first | (with_reducible first | exact HB.out | apply below_alloc | apply pw_below_drewN | apply below_drew1) | exact HB.out)))); have n6_ := Aside0.mk (below_step (by repeat (first | (with_reducible first | exact HB.out | apply below_alloc | apply pw_below_drewN | apply below_drew1) | exact HB.out)) hb); clear HO_9; clear HO_10; clear HO_74; clear HO344; clear HO348; clear HB; have HO_9 := n0_; have HO_10 := n1_; have HO_74 := n2_; have HO344 := n3_; have HO348 := n4_; have HO352 := n5_; have HB := n6_; clear n0_ n1_ n2_ n3_ n4_ n5_ n6_; (try clear hb); (try clear hb2); (try clear hk); (try clear hi); (try clear ho0))); go_upto_region 27 with (first | (go_at_call 11; (with_reducible refine (carry_Matrix.calls a0 _ _ l1 t341 t342 _ ?side1 ?side2 A49.out).mono ?_); (case side1 => repeat (first | exact (Kd.C_below HR1.out HB.out) | (with_reducible refine Kd.C_alloc ?_ _) | (with_reducible refine Kd.C_drewN ?_ _) | (with_reducible refine Kd.C_drew ?_))); (case side2 => exact HC1.out); rintro e w53 ⟨v343, rfl, ho0, hb⟩; have n0_ := Aside0.mk (Kd.R_below (by (with_reducible repeat (first | apply Kd.R_alloc | apply Kd.R_drewN | apply Kd.R_drew)); exact HO_9.out) hb); have n1_ := Aside0.mk (Kd.R_below (by (with_reducible repeat (first | apply Kd.R_alloc | apply Kd.R_drewN | apply Kd.R_drew)); exact HO_10.out) hb); have n2_ := Aside0.mk (Kd.R_below (by (with_reducible repeat (first | apply Kd.R_alloc | apply Kd.R_drewN | apply Kd.R_drew)); exact HO_74.out) hb); have n3_ := Aside0.mk (Kd.S_lower ho0 (below_size (by repeat (first | (with_reducible first | exact HB.out | apply below_alloc | apply pw_below_drewN | apply below_drew1) | exact HB.out)))); have n4_ := Aside0.mk (below_step (by repeat (first | (with_reducible first | exact HB.out | apply below_alloc | apply pw_below_drewN | apply below_drew1) | exact HB.out)) hb); clear HO_9; clear HO_10; clear HO_74; clear HB; have HO_9 := n0_; have HO_10 := n1_; have HO_74 := n2_; have HO344 := n3_; have HB := n4_; clear n0_ n1_ n2_ n3_ n4_; (try clear hb); (try clear hb2); (try clear hk); (try clear hi); (try clear ho0); obtain ⟨Ao54, co54, eo54⟩ := Kd.R_slice HO_9.out; subst eo54) | (go_at_call 11; (with_reducible refine (carry_Matrix.calls a0 _ _ x9_2 t345 t346 _ ?side1 ?side2 A50.out).mono ?_); (case side1 => repeat (first | exact (Kd.R_reads' HO_9.out).2.2 | (with_reducible refine Kd.C_alloc ?_ _) | (with_reducible refine Kd.C_drewN ?_ _) | (with_reducible refine Kd.C_drew ?_))); (case side2 => exact (Kd.R_reads' HO_9.out).2.1); rintro e w55 ⟨v347, rfl, ho0, hb⟩; have n0_ := Aside0.mk (Kd.R_below (by (with_reducible repeat (first | apply Kd.R_alloc | apply Kd.R_drewN | apply Kd.R_drew)); exact HO_9.out) hb); have n1_ := Aside0.mk (Kd.R_below (by (with_reducible repeat (first | apply Kd.R_alloc | apply Kd.R_drewN | apply Kd.R_drew)); exact HO_10.out) hb); have n2_ := Aside0.mk (Kd.R_below (by (with_reducible repeat (first | apply Kd.R_alloc | apply Kd.R_drewN | apply Kd.R_drew)); exact HO_74.out) hb); have n3_ := Aside0.mk (Kd.S_elder' (by (with_reducible repeat (first | apply Kd.S_alloc | apply Kd.S_drewN | apply Kd.S_drew)); exact HO344.out) (Kd.S_base ho0) hb); have n4_ := Aside0.mk (Kd.S_lower (Kd.S_new' ho0 (Kd.S_lt (by (with_reducible repeat (first | apply Kd.S_alloc | apply Kd.S_drewN | apply Kd.S_drew)); exact HO344.out))) (below_size (by repeat (first | (with_reducible first | exact HB.out | apply below_alloc | apply pw_below_drewN | apply below_drew1) | exact HB.out)))); have n5_ := Aside0.mk (below_step (by repeat (first | (with_reducible first | exact HB.out | apply below_alloc | apply pw_below_drewN | apply below_drew1) | exact HB.out)) hb); clear HO_9; clear HO_10; clear HO_74; clear HO344; clear HB; have HO_9 := n0_; have HO_10 := n1_; have HO_74 := n2_; have HO344 := n3_; have HO348 := n4_; have HB := n5_; clear n0_ n1_ n2_ n3_ n4_ n5_; (try clear hb); (try clear hb2); (try clear hk); (try clear hi); (try clear ho0); obtain ⟨Ao56, co56, eo56⟩ := Kd.R_slice HO_10.out; subst eo56) | (go_at_call 11; (with_reducible refine (carry_Matrix.calls a0 _ _ x10_2 t349 t350 _ ?side1 ?side2 A51.out).mono ?_); (case side1 => repeat (first | exact (Kd.R_reads' HO_10.out).2.2 | (with_reducible refine Kd.C_alloc ?_ _) | (with_reducible refine Kd.C_drewN ?_ _) | (with_reducible refine Kd.C_drew ?_))); (case side2 => exact (Kd.R_reads' HO_10.out).2.1); rintro e w57 ⟨v351, rfl, ho0, hb⟩; have n0_ := Aside0.mk (Kd.R_below (by (with_reducible repeat (first | apply Kd.R_alloc | apply Kd.R_drewN | apply Kd.R_drew)); exact HO_9.out) hb); have n1_ := Aside0.mk (Kd.R_below (by (with_reducible repeat (first | apply Kd.R_alloc | apply Kd.R_drewN | apply Kd.R_drew)); exact HO_10.out) hb); have n2_ := Aside0.mk (Kd.R_below (by (with_reducible repeat (first | apply Kd.R_alloc | apply Kd.R_drewN | apply Kd.R_drew)); exact HO_74.out) hb); have n3_ := Aside0.mk (Kd.S_elder' (by (with_reducible repeat (first | apply Kd.S_alloc | apply Kd.S_drewN | apply Kd.S_drew)); exact HO344.out) (Kd.S_base ho0) hb); have n4_ := Aside0.mk (Kd.S_elder' (by (with_reducible repeat (first | apply Kd.S_alloc | apply Kd.S_drewN | apply Kd.S_drew)); exact HO348.out) (Kd.S_base ho0) hb); have n5_ := Aside0.mk (Kd.S_lower (Kd.S_new' (Kd.S_new' ho0 (Kd.S_lt (by (with_reducible repeat (first | apply Kd.S_alloc | apply Kd.S_drewN | apply Kd.S_drew)); exact HO344.out))) (Kd.S_lt (by (with_reducible repeat (first | apply Kd.S_alloc | apply Kd.S_drewN | apply Kd.S_drew)); exact HO348.out))) (below_size (by repeat (first | (with_reducible first | exact HB.out | apply below_alloc | apply pw_below_drewN | apply below_drew1) | exact HB.out)))); have n6_ := Aside0.mk (below_step (by repeat (first | (with_reducible first | exact HB.out | apply below_alloc | apply pw_below_drewN | apply below_drew1) | exact HB.out)) hb); clear HO_9; clear HO_10; clear HO_74; clear HO344; clear HO348; clear HB; have HO_9 := n0_; have HO_10 := n1_; have HO_74 := n2_; have HO344 := n3_; have HO348 := n4_; have HO352 := n5_; have HB := n6_; clear n0_ n1_ n2_ n3_ n4_ n5_ n6_; (try clear hb); (try clear hb2); (try clear hk); (try clear hi); (try clear ho0))))
                          (try simp only [Act.put, List.setIfInBounds_toArray, List.set_cons_zero, List.set_cons_succ])
                          go_cut [128] (fun v128 wc => ∃ (kq : Nat) (x128_51 : Bool), v128 = .bool x128_51 ∧ Aside0 (fastilaw22_CarryTurned.j3 kq a0 t341 t349 x128_51 = some r) ∧ Aside0 (kq ≤ k3) ∧ Aside0 (Kd.S (Kd.slice 3 (Kd.int .i64)) 33 wc w.heap.size (fun k_ => some k_ ≠ (v351 : Value).ownBlock) v343 t341) ∧ Aside0 (Kd.S (Kd.slice 3 (Kd.int .i64)) 33 wc w.heap.size (fun k_ => some k_ ≠ (v343 : Value).ownBlock) v351 t349) ∧ Aside0 (Below w.heap.size w wc))
                          case first =>
                            have H := HC52.out
                            clear HC52
                            by_cases c58 : t342 = 0
                            · rw [if_pos c58] at H
                              have c58b0 : (t342 == 0) = true := beq_iff_eq.mpr c58
                              have c58b1 : (t342 != 0) = false := bne_eq_false_iff_eq.mpr c58
                              clear c58
                              (first | rw [c58b0] | (simp only [i64_w, i32_w]; rw [c58b0]) | skip)
                              by_cases c59 : t346 = 0
                              · rw [if_pos c59] at H
                                have c59b0 : (t346 == 0) = true := beq_iff_eq.mpr c59
                                have c59b1 : (t346 != 0) = false := bne_eq_false_iff_eq.mpr c59
                                clear c59
                                by_cases c60 : t350 = 0
                                · rw [if_pos c60] at H
                                  have c60b0 : (t350 == 0) = true := beq_iff_eq.mpr c60
                                  have c60b1 : (t350 != 0) = false := bne_eq_false_iff_eq.mpr c60
                                  clear c60
                                  by_cases c61 : (t341.length : Int) = a0
                                  · rw [if_pos c61] at H
                                    have c61b0 : ((t341.length : Int) == a0) = true := beq_iff_eq.mpr c61
                                    have c61b1 : ((t341.length : Int) != a0) = false := bne_eq_false_iff_eq.mpr c61
                                    clear c61
                                    by_cases c62 : (t349.length : Int) = a0
                                    · rw [if_pos c62] at H
                                      have c62b0 : ((t349.length : Int) == a0) = true := beq_iff_eq.mpr c62
                                      have c62b1 : ((t349.length : Int) != a0) = false := bne_eq_false_iff_eq.mpr c62
                                      clear c62
                                      replace H := Option.bind_eq_some_iff.mp H
                                      obtain ⟨t353, A630, H⟩ := H
                                      replace H : (fastilaw22_CarryTurned.j3 k3 a0 t341 t349 (!t353)) = some r := H
                                      have A63 := Aside0.mk A630
                                      clear A630
                                      have H' := Aside0.mk H
                                      clear H
                                      obtain ⟨Ao64, co64, eo64⟩ := Kd.S_slice HO344.out
                                      subst eo64
                                      obtain ⟨Ao65, co65, eo65⟩ := Kd.S_slice HO352.out
                                      subst eo65
                                      obtain ⟨Ao66, co66, eo66⟩ := Kd.S_slice HO348.out
                                      subst eo66
                                      go_wp2_with (first | (go_at_call 15; (with_reducible refine (fastiref22_SameAll.calls k3 _ _ t341 _ _ t345 t353 _ ?side1 ?side2 ?side3 ?side4 A63.out).mono ?_); (case side1 => repeat (first | exact (Kd.S_reads' HO344.out).2.2 | (with_reducible refine Kd.C_alloc ?_ _) | (with_reducible refine Kd.C_drewN ?_ _) | (with_reducible refine Kd.C_drew ?_))); (case side2 => exact (Kd.S_reads' HO344.out).2.1); (case side3 => repeat (first | exact (Kd.S_reads' HO348.out).2.2 | (with_reducible refine Kd.C_alloc ?_ _) | (with_reducible refine Kd.C_drewN ?_ _) | (with_reducible refine Kd.C_drew ?_))); (case side4 => exact (Kd.S_reads' HO348.out).2.1); rintro e w' ⟨rfl, ⟨nd, rfl⟩⟩; (try first | exact ⟨rfl, _, World.drewN_drewN _ _ _⟩ | exact ⟨rfl, _, Eq.trans (World.drewN_drewN _ _ _) (congrArg (World.drewN _) (Nat.add_assoc _ _ _))⟩)))
                                      repeat (go_quiet (first | (go_at_call 15; (with_reducible refine (fastiref22_SameAll.calls k3 _ _ t341 _ _ t345 t353 _ ?side1 ?side2 ?side3 ?side4 A63.out).mono ?_); (case side1 => repeat (first | exact (Kd.S_reads' HO344.out).2.2 | (with_reducible refine Kd.C_alloc ?_ _) | (with_reducible refine Kd.C_drewN ?_ _) | (with_reducible refine Kd.C_drew ?_))); (case side2 => exact (Kd.S_reads' HO344.out).2.1); (case side3 => repeat (first | exact (Kd.S_reads' HO348.out).2.2 | (with_reducible refine Kd.C_alloc ?_ _) | (with_reducible refine Kd.C_drewN ?_ _) | (with_reducible refine Kd.C_drew ?_))); (case side4 => exact (Kd.S_reads' HO348.out).2.1); rintro e w' ⟨rfl, ⟨nd, rfl⟩⟩; (try first | exact ⟨rfl, _, World.drewN_drewN _ _ _⟩ | exact ⟨rfl, _, Eq.trans (World.drewN_drewN _ _ _) (congrArg (World.drewN _) (Nat.add_assoc _ _ _))⟩))); try go_wp2_with (first | (go_at_call 15; (with_reducible refine (fastiref22_SameAll.calls k3 _ _ t341 _ _ t345 t353 _ ?side1 ?side2 ?side3 ?side4 A63.out).mono ?_); (case side1 => repeat (first | exact (Kd.S_reads' HO344.out).2.2 | (with_reducible refine Kd.C_alloc ?_ _) | (with_reducible refine Kd.C_drewN ?_ _) | (with_reducible refine Kd.C_drew ?_))); (case side2 => exact (Kd.S_reads' HO344.out).2.1); (case side3 => repeat (first | exact (Kd.S_reads' HO348.out).2.2 | (with_reducible refine Kd.C_alloc ?_ _) | (with_reducible refine Kd.C_drewN ?_ _) | (with_reducible refine Kd.C_drew ?_))); (case side4 => exact (Kd.S_reads' HO348.out).2.1); rintro e w' ⟨rfl, ⟨nd, rfl⟩⟩; (try first | exact ⟨rfl, _, World.drewN_drewN _ _ _⟩ | exact ⟨rfl, _, Eq.trans (World.drewN_drewN _ _ _) (congrArg (World.drewN _) (Nat.add_assoc _ _ _))⟩))))
                                      go_meet
                                      case rel => exact ⟨_, (!t353), (by first | rfl | (simp; done) | (simp [*]; done)), H', ⟨by have := HJ5.out; have := HK2.out; have := HK3.out; first | omega | exact Nat.le_refl _⟩, ⟨by (with_reducible repeat (first | apply Kd.S_alloc | apply Kd.S_drewN | apply Kd.S_drew)); exact Kd.S_mono HO344.out (fun _ hk => hk.2)⟩, ⟨by (with_reducible repeat (first | apply Kd.S_alloc | apply Kd.S_drewN | apply Kd.S_drew)); exact Kd.S_mono HO352.out (fun _ hk => hk.1.2)⟩, ⟨by repeat (first | (with_reducible first | exact HB.out | apply below_alloc | apply pw_below_drewN | apply below_drew1) | exact HB.out)⟩⟩
                                    · rw [if_neg c62] at H
                                      have c62b0 : ((t349.length : Int) == a0) = false := beq_eq_false_iff_ne.mpr c62
                                      have c62b1 : ((t349.length : Int) != a0) = true := bne_iff_ne.mpr c62
                                      have H' := Aside0.mk H
                                      clear H
                                      obtain ⟨Ao67, co67, eo67⟩ := Kd.S_slice HO344.out
                                      subst eo67
                                      obtain ⟨Ao68, co68, eo68⟩ := Kd.S_slice HO352.out
                                      subst eo68
                                      go_wp2
                                      repeat (go_quiet (fail); try go_wp2)
                                      go_meet
                                      case rel => exact ⟨_, (true), (by first | rfl | (simp; done) | (simp [*]; done)), H', ⟨by have := HJ5.out; have := HK2.out; have := HK3.out; first | omega | exact Nat.le_refl _⟩, ⟨by (with_reducible repeat (first | apply Kd.S_alloc | apply Kd.S_drewN | apply Kd.S_drew)); exact Kd.S_mono HO344.out (fun _ hk => hk.2)⟩, ⟨by (with_reducible repeat (first | apply Kd.S_alloc | apply Kd.S_drewN | apply Kd.S_drew)); exact Kd.S_mono HO352.out (fun _ hk => hk.1.2)⟩, ⟨by repeat (first | (with_reducible first | exact HB.out | apply below_alloc | apply pw_below_drewN | apply below_drew1) | exact HB.out)⟩⟩
                                  · rw [if_neg c61] at H
                                    have c61b0 : ((t341.length : Int) == a0) = false := beq_eq_false_iff_ne.mpr c61
                                    have c61b1 : ((t341.length : Int) != a0) = true := bne_iff_ne.mpr c61
                                    have H' := Aside0.mk H
                                    clear H
                                    obtain ⟨Ao69, co69, eo69⟩ := Kd.S_slice HO344.out
                                    subst eo69
                                    go_wp2
                                    repeat (go_quiet (fail); try go_wp2)
                                    go_meet
                                    case rel => exact ⟨_, (true), (by first | rfl | (simp; done) | (simp [*]; done)), H', ⟨by have := HJ5.out; have := HK2.out; have := HK3.out; first | omega | exact Nat.le_refl _⟩, ⟨by (with_reducible repeat (first | apply Kd.S_alloc | apply Kd.S_drewN | apply Kd.S_drew)); exact Kd.S_mono HO344.out (fun _ hk => hk.2)⟩, ⟨by (with_reducible repeat (first | apply Kd.S_alloc | apply Kd.S_drewN | apply Kd.S_drew)); exact Kd.S_mono HO352.out (fun _ hk => hk.1.2)⟩, ⟨by repeat (first | (with_reducible first | exact HB.out | apply below_alloc | apply pw_below_drewN | apply below_drew1) | exact HB.out)⟩⟩
                                · rw [if_neg c60] at H
                                  have c60b0 : (t350 == 0) = false := beq_eq_false_iff_ne.mpr c60
                                  have c60b1 : (t350 != 0) = true := bne_iff_ne.mpr c60
                                  have H' := Aside0.mk H
                                  clear H
                                  go_wp2
                                  repeat (go_quiet (fail); try go_wp2)
                                  go_meet
                                  case rel => exact ⟨_, (true), (by first | rfl | (simp; done) | (simp [*]; done)), H', ⟨by have := HJ5.out; have := HK2.out; have := HK3.out; first | omega | exact Nat.le_refl _⟩, ⟨by (with_reducible repeat (first | apply Kd.S_alloc | apply Kd.S_drewN | apply Kd.S_drew)); exact Kd.S_mono HO344.out (fun _ hk => hk.2)⟩, ⟨by (with_reducible repeat (first | apply Kd.S_alloc | apply Kd.S_drewN | apply Kd.S_drew)); exact Kd.S_mono HO352.out (fun _ hk => hk.1.2)⟩, ⟨by repeat (first | (with_reducible first | exact HB.out | apply below_alloc | apply pw_below_drewN | apply below_drew1) | exact HB.out)⟩⟩
                              · rw [if_neg c59] at H
                                have c59b0 : (t346 == 0) = false := beq_eq_false_iff_ne.mpr c59
                                have c59b1 : (t346 != 0) = true := bne_iff_ne.mpr c59
                                have H' := Aside0.mk H
                                clear H
                                go_wp2
                                repeat (go_quiet (fail); try go_wp2)
                                go_meet
                                case rel => exact ⟨_, (true), (by first | rfl | (simp; done) | (simp [*]; done)), H', ⟨by have := HJ5.out; have := HK2.out; have := HK3.out; first | omega | exact Nat.le_refl _⟩, ⟨by (with_reducible repeat (first | apply Kd.S_alloc | apply Kd.S_drewN | apply Kd.S_drew)); exact Kd.S_mono HO344.out (fun _ hk => hk.2)⟩, ⟨by (with_reducible repeat (first | apply Kd.S_alloc | apply Kd.S_drewN | apply Kd.S_drew)); exact Kd.S_mono HO352.out (fun _ hk => hk.1.2)⟩, ⟨by repeat (first | (with_reducible first | exact HB.out | apply below_alloc | apply pw_below_drewN | apply below_drew1) | exact HB.out)⟩⟩
                            · rw [if_neg c58] at H
                              have c58b0 : (t342 == 0) = false := beq_eq_false_iff_ne.mpr c58
                              have c58b1 : (t342 != 0) = true := bne_iff_ne.mpr c58
                              (first | rw [c58b0] | (simp only [i64_w, i32_w]; rw [c58b0]) | skip)
                              have H' := Aside0.mk H
                              clear H
                              go_wp2
                              repeat (go_quiet (fail); try go_wp2)
                              go_meet
                              case rel => exact ⟨_, (true), (by first | rfl | (simp; done) | (simp [*]; done)), H', ⟨by have := HJ5.out; have := HK2.out; have := HK3.out; first | omega | exact Nat.le_refl _⟩, ⟨by (with_reducible repeat (first | apply Kd.S_alloc | apply Kd.S_drewN | apply Kd.S_drew)); exact Kd.S_mono HO344.out (fun _ hk => hk.2)⟩, ⟨by (with_reducible repeat (first | apply Kd.S_alloc | apply Kd.S_drewN | apply Kd.S_drew)); exact Kd.S_mono HO352.out (fun _ hk => hk.1.2)⟩, ⟨by repeat (first | (with_reducible first | exact HB.out | apply below_alloc | apply pw_below_drewN | apply below_drew1) | exact HB.out)⟩⟩
                          case rest =>
                            clear HC52
                            try clear c1
                            try clear c2
                            try clear p2
                            try clear q2
                            try clear hx2
                            try clear c3
                            try clear p3
                            try clear q3
                            try clear hx3
                            try clear c4
                            try clear q4
                            try clear c5
                            try clear c6
                            try clear p6
                            try clear c7
                            try clear c9
                            try clear c12
                            try clear c14
                            try clear c14b0
                            try clear c14b1
                            try clear c15
                            try clear c15b0
                            try clear c15b1
                            try clear c19
                            try clear c19b0
                            try clear c20
                            try clear c20b0
                            try clear c21
                            try clear c21b0
                            try clear c22
                            try clear c22b0
                            try clear c23
                            try clear c23b0
                            try clear p24
                            try clear q24
                            try clear hx24
                            try clear hf24
                            try clear c25
                            try clear c25b0
                            try clear c25b1
                            try clear c26
                            try clear c27
                            try clear p33
                            try clear q33
                            try clear hx33
                            try clear p34
                            try clear q34
                            try clear hx34
                            try clear c36
                            try clear c44
                            try clear c44b0
                            try clear c45
                            try clear c45b0
                            try clear c46
                            try clear c46b0
                            try clear q47
                            try clear c48
                            try clear c58
                            try clear c58b0
                            try clear c58b1
                            try clear c59
                            try clear c59b0
                            try clear c59b1
                            try clear c60
                            try clear c60b0
                            try clear c60b1
                            try clear c61
                            try clear c61b0
                            try clear c61b1
                            try clear c62
                            try clear c62b0
                            try clear c62b1
                            try clear p64
                            try clear hcz29_0
                            try clear hcz29_1
                            try clear hcz29_2
                            try clear hcz31_0
                            try clear hcz31_1
                            try clear hcz31_2
                            try clear hcz34_0
                            try clear hcz34_1
                            try clear hcz34_2
                            try clear hcz37_0
                            try clear hcz37_1
                            try clear hcz37_2
                            try clear hcz38_0
                            try clear hcz38_1
                            try clear hcz38_2
                            try clear hcz40_0
                            try clear hcz40_1
                            try clear hcz40_2
                            try clear hcz41_0
                            try clear hcz41_1
                            try clear hcz41_2
                            try clear hfz29_0
                            try clear hfz29_1
                            try clear hfz29_2
                            try clear hfz31_0
                            try clear hfz31_1
                            try clear hfz31_2
                            try clear hfz34_0
                            try clear hfz34_1
                            try clear hfz34_2
                            try clear hfz37_0
                            try clear hfz37_1
                            try clear hfz37_2
                            try clear hfz38_0
                            try clear hfz38_1
                            try clear hfz38_2
                            try clear hfz40_0
                            try clear hfz40_1
                            try clear hfz40_2
                            try clear hfz41_0
                            try clear hfz41_1
                            try clear hfz41_2
                            try clear hx24_0
                            try clear hx330_0
                            try clear hx330_1
                            try clear hx330_2
                            try clear hx340_0
                            try clear p2
                            try clear p24
                            try clear p3
                            try clear p33
                            try clear p330
                            try clear p340
                            try clear p6
                            try clear q2
                            try clear q24
                            try clear q3
                            try clear q33
                            try clear q330
                            try clear q340
                            obtain ⟨kq, x128_51, rfl, HA, HJ51, HO_16, HO_20, HB⟩ := hcut
                            cases kq with
                            | zero => exact absurd HA.out (by simp [fastilaw22_CarryTurned.j3])
                            | succ kj51 =>
                              have H := HA.out
                              clear HA
                              simp only [fastilaw22_CarryTurned.j3] at H
                              by_cases c70 : x128_51 = true
                              · subst c70
                                have H1 : (some false) = some r := by rw [if_pos rfl] at H; exact H
                                clear H
                                have H := H1
                                clear H1
                                obtain rfl := Option.some.inj H
                                go_wp2
                                repeat (go_quiet (fail); try go_wp2)
                                go_ret
                                exact ⟨by first | rfl | (simp [errW_none, errW_some] <;> rfl) | (simp [*, errW_none, errW_some] <;> rfl), by repeat (first | (with_reducible first | exact HB.out | apply below_alloc | apply pw_below_drewN | apply below_drew1) | exact HB.out)⟩
                              · replace c70 := Bool.eq_false_iff.mpr c70
                                subst c70
                                have H1 : (fastilaw22_CarryTurned.l2 kj51 a0 t341 t349 a0 0) = some r := by rw [if_neg (show ¬ (false = true) by decide)] at H; exact H
                                clear H
                                have H := H1
                                clear H1
                                have H' := Aside0.mk H
                                clear H
                                go_wp2
                                repeat (go_quiet (fail); try go_wp2)
                                go_loopg [130] kj51 (fun kq v130 w' => ∃ (x130_5 : Int), v130 = .int .i64 x130_5 ∧ Aside0 (fastilaw22_CarryTurned.l2 kq a0 t341 t349 a0 x130_5 = some r) ∧ Aside0 (kq ≤ kj51) ∧ Aside0 (Kd.S (Kd.slice 3 (Kd.int .i64)) 33 w' w.heap.size (fun k_ => some k_ ≠ (v351 : Value).ownBlock) v343 t341) ∧ Aside0 (Kd.S (Kd.slice 3 (Kd.int .i64)) 33 w' w.heap.size (fun k_ => some k_ ≠ (v343 : Value).ownBlock) v351 t349) ∧ Aside0 (Below w.heap.size w w'))
                                case atStart => exact ⟨(0), (by first | rfl | (simp; done) | (simp [*]; done)), H', ⟨Nat.le_refl _⟩, ⟨by (with_reducible repeat (first | apply Kd.S_alloc | apply Kd.S_drewN | apply Kd.S_drew)); exact HO_16.out⟩, ⟨by (with_reducible repeat (first | apply Kd.S_alloc | apply Kd.S_drewN | apply Kd.S_drew)); exact HO_20.out⟩, ⟨by repeat (first | (with_reducible first | exact HB.out | apply below_alloc | apply pw_below_drewN | apply below_drew1) | exact HB.out)⟩⟩
                                case round =>
                                  clear H'
                                  try clear c1
                                  try clear c2
                                  try clear p2
                                  try clear q2
                                  try clear hx2
                                  try clear c3
                                  try clear p3
                                  try clear q3
                                  try clear hx3
                                  try clear c4
                                  try clear q4
                                  try clear c5
                                  try clear c6
                                  try clear p6
                                  try clear c7
                                  try clear c9
                                  try clear c12
                                  try clear c14
                                  try clear c14b0
                                  try clear c14b1
                                  try clear c15
                                  try clear c15b0
                                  try clear c15b1
                                  try clear c19
                                  try clear c19b0
                                  try clear c20
                                  try clear c20b0
                                  try clear c21
                                  try clear c21b0
                                  try clear c22
                                  try clear c22b0
                                  try clear c23
                                  try clear c23b0
                                  try clear p24
                                  try clear q24
                                  try clear hx24
                                  try clear hf24
                                  try clear c25
                                  try clear c25b0
                                  try clear c25b1
                                  try clear c26
                                  try clear c27
                                  try clear p33
                                  try clear q33
                                  try clear hx33
                                  try clear p34
                                  try clear q34
                                  try clear hx34
                                  try clear c36
                                  try clear c44
                                  try clear c44b0
                                  try clear c45
                                  try clear c45b0
                                  try clear c46
                                  try clear c46b0
                                  try clear q47
                                  try clear c48
                                  try clear c58
                                  try clear c58b0
                                  try clear c58b1
                                  try clear c59
                                  try clear c59b0
                                  try clear c59b1
                                  try clear c60
                                  try clear c60b0
                                  try clear c60b1
                                  try clear c61
                                  try clear c61b0
                                  try clear c61b1
                                  try clear c62
                                  try clear c62b0
                                  try clear c62b1
                                  try clear p64
                                  try clear c70
                                  try clear hcz29_0
                                  try clear hcz29_1
                                  try clear hcz29_2
                                  try clear hcz31_0
                                  try clear hcz31_1
                                  try clear hcz31_2
                                  try clear hcz34_0
                                  try clear hcz34_1
                                  try clear hcz34_2
                                  try clear hcz37_0
                                  try clear hcz37_1
                                  try clear hcz37_2
                                  try clear hcz38_0
                                  try clear hcz38_1
                                  try clear hcz38_2
                                  try clear hcz40_0
                                  try clear hcz40_1
                                  try clear hcz40_2
                                  try clear hcz41_0
                                  try clear hcz41_1
                                  try clear hcz41_2
                                  try clear hfz29_0
                                  try clear hfz29_1
                                  try clear hfz29_2
                                  try clear hfz31_0
                                  try clear hfz31_1
                                  try clear hfz31_2
                                  try clear hfz34_0
                                  try clear hfz34_1
                                  try clear hfz34_2
                                  try clear hfz37_0
                                  try clear hfz37_1
                                  try clear hfz37_2
                                  try clear hfz38_0
                                  try clear hfz38_1
                                  try clear hfz38_2
                                  try clear hfz40_0
                                  try clear hfz40_1
                                  try clear hfz40_2
                                  try clear hfz41_0
                                  try clear hfz41_1
                                  try clear hfz41_2
                                  try clear hx24_0
                                  try clear hx330_0
                                  try clear hx330_1
                                  try clear hx330_2
                                  try clear hx340_0
                                  try clear p2
                                  try clear p24
                                  try clear p3
                                  try clear p33
                                  try clear p330
                                  try clear p34
                                  try clear p340
                                  try clear p6
                                  try clear p64
                                  try clear q2
                                  try clear q24
                                  try clear q3
                                  try clear q33
                                  try clear q330
                                  try clear q34
                                  try clear q340
                                  try clear q4
                                  try clear q47
                                  obtain ⟨x130_5, rfl, HA, HK5, HO_16, HO_20, HB⟩ := hrel
                                  cases gk with
                                  | zero => exact absurd HA.out (by simp [fastilaw22_CarryTurned.l2])
                                  | succ k5 =>
                                    have H := HA.out
                                    clear HA
                                    simp only [fastilaw22_CarryTurned.l2] at H
                                    by_cases c71 : x130_5 < a0
                                    · rw [if_pos c71] at H
                                      have c71b0 : decide (x130_5 < a0) = true := decide_eq_true c71
                                      clear c71
                                      by_cases c72 : 0 ≤ x130_5
                                      · rw [if_pos c72] at H
                                        have c72b0 : decide (0 ≤ x130_5) = true := decide_eq_true c72
                                        clear c72
                                        by_cases c73 : x130_5 < (t341.length : Int)
                                        · rw [if_pos c73] at H
                                          have c73b0 : decide (x130_5 < (t341.length : Int)) = true := decide_eq_true c73
                                          clear c73
                                          by_cases c74 : ((rd_L3 t341 x130_5).length : Int) = a0
                                          · rw [if_pos c74] at H
                                            have c74b0 : (((rd_L3 t341 x130_5).length : Int) == a0) = true := beq_iff_eq.mpr c74
                                            have c74b1 : (((rd_L3 t341 x130_5).length : Int) != a0) = false := bne_eq_false_iff_eq.mpr c74
                                            clear c74
                                            by_cases c75 : x130_5 < (t349.length : Int)
                                            · rw [if_pos c75] at H
                                              have c75b0 : decide (x130_5 < (t349.length : Int)) = true := decide_eq_true c75
                                              clear c75
                                              by_cases c76 : ((rd_L3 t349 x130_5).length : Int) = a0
                                              · rw [if_pos c76] at H
                                                have c76b0 : (((rd_L3 t349 x130_5).length : Int) == a0) = true := beq_iff_eq.mpr c76
                                                have c76b1 : (((rd_L3 t349 x130_5).length : Int) != a0) = false := bne_eq_false_iff_eq.mpr c76
                                                clear c76
                                                have H' := Aside0.mk H
                                                clear H
                                                obtain ⟨Ao77, co77, eo77⟩ := Kd.S_slice HO_16.out
                                                subst eo77
                                                have p354 : 0 ≤ (x130_5 : Int) := of_decide_eq_true (by first | (with_reducible assumption) | assumption)
                                                have q354 : x130_5 < (t341.length : Int) := of_decide_eq_true (by first | (with_reducible assumption) | assumption)
                                                obtain ⟨ad354, A354_0, c354_0, e354, hx354_0, hl354_0, hi354_0⟩ := at_L3 (Kd.S_reads' HO_16.out).2.2 x130_5 p354 q354
                                                cases e354
                                                obtain ⟨ce354, hce354, hMe354, hcc354⟩ := Kd.S_get HO_16.out [] x130_5 p354 (by first | exact q354 | exact of_decide_eq_true (by first | (with_reducible assumption) | assumption) | (have e_ := (Kd.S_reads' HO_16.out).1; omega))
                                                obtain ⟨ve354_0, rfl, ge354_0⟩ := hMe354
                                                have hv354_0 := hcc354 0 _ rfl
                                                rw [Nat.add_zero, show ((Kd.slice 3 (Kd.int .i64))).sz = 1 from rfl, Nat.mul_one] at hv354_0
                                                replace hv354_0 := Option.some.inj (hv354_0.symm.trans hx354_0)
                                                rw [hv354_0] at ge354_0
                                                have HL354_0 := Aside0.mk (show Kd.R (Kd.int .i64) 3 _ _ _ _ (rd_L3 t341 x130_5) from ge354_0)
                                                clear hv354_0 ge354_0
                                                clear hcc354 hce354
                                                have HR354_0 := Aside0.mk hi354_0
                                                have HC354_0 := Aside0.mk hl354_0
                                                clear hi354_0 hl354_0
                                                replace p354 := eq_true p354
                                                replace q354 := eq_true q354
                                                obtain ⟨Ao78, co78, eo78⟩ := Kd.S_slice HO_20.out
                                                subst eo78
                                                have p355 : 0 ≤ (x130_5 : Int) := of_decide_eq_true (by first | (with_reducible assumption) | assumption)
                                                have q355 : x130_5 < (t349.length : Int) := of_decide_eq_true (by first | (with_reducible assumption) | assumption)
                                                obtain ⟨ad355, A355_0, c355_0, e355, hx355_0, hl355_0, hi355_0⟩ := at_L3 (Kd.S_reads' HO_20.out).2.2 x130_5 p355 q355
                                                cases e355
                                                obtain ⟨ce355, hce355, hMe355, hcc355⟩ := Kd.S_get HO_20.out [] x130_5 p355 (by first | exact q355 | exact of_decide_eq_true (by first | (with_reducible assumption) | assumption) | (have e_ := (Kd.S_reads' HO_20.out).1; omega))
                                                obtain ⟨ve355_0, rfl, ge355_0⟩ := hMe355
                                                have hv355_0 := hcc355 0 _ rfl
                                                rw [Nat.add_zero, show ((Kd.slice 3 (Kd.int .i64))).sz = 1 from rfl, Nat.mul_one] at hv355_0
                                                replace hv355_0 := Option.some.inj (hv355_0.symm.trans hx355_0)
                                                rw [hv355_0] at ge355_0
                                                have HL355_0 := Aside0.mk (show Kd.R (Kd.int .i64) 3 _ _ _ _ (rd_L3 t349 x130_5) from ge355_0)
                                                clear hv355_0 ge355_0
                                                clear hcc355 hce355
                                                have HR355_0 := Aside0.mk hi355_0
                                                have HC355_0 := Aside0.mk hl355_0
                                                clear hi355_0 hl355_0
                                                replace p355 := eq_true p355
                                                replace q355 := eq_true q355
                                                go_wp2
                                                repeat (go_quiet (fail); try go_wp2)
                                                go_roundg k5
                                                case measure => have := HJ5.out; have := HK2.out; have := HK3.out; have := HJ51.out; have := HK5.out; omega
                                                case rel => exact ⟨(wrap64 (x130_5 + 1)), (by first | rfl | (simp; done) | (simp [*]; done)), H', ⟨by have := HJ5.out; have := HK2.out; have := HK3.out; have := HJ51.out; have := HK5.out; omega⟩, ⟨by (with_reducible repeat (first | apply Kd.S_alloc | apply Kd.S_drewN | apply Kd.S_drew)); exact HO_16.out⟩, ⟨by (with_reducible repeat (first | apply Kd.S_alloc | apply Kd.S_drewN | apply Kd.S_drew)); exact HO_20.out⟩, ⟨by repeat (first | (with_reducible first | exact HB.out | apply below_alloc | apply pw_below_drewN | apply below_drew1) | exact HB.out)⟩⟩
                                              · rw [if_neg c76] at H
                                                have c76b0 : (((rd_L3 t349 x130_5).length : Int) == a0) = false := beq_eq_false_iff_ne.mpr c76
                                                have c76b1 : (((rd_L3 t349 x130_5).length : Int) != a0) = true := bne_iff_ne.mpr c76
                                                obtain rfl := Option.some.inj H
                                                obtain ⟨Ao79, co79, eo79⟩ := Kd.S_slice HO_16.out
                                                subst eo79
                                                have p354 : 0 ≤ (x130_5 : Int) := of_decide_eq_true (by first | (with_reducible assumption) | assumption)
                                                have q354 : x130_5 < (t341.length : Int) := of_decide_eq_true (by first | (with_reducible assumption) | assumption)
                                                obtain ⟨ad354, A354_0, c354_0, e354, hx354_0, hl354_0, hi354_0⟩ := at_L3 (Kd.S_reads' HO_16.out).2.2 x130_5 p354 q354
                                                cases e354
                                                obtain ⟨ce354, hce354, hMe354, hcc354⟩ := Kd.S_get HO_16.out [] x130_5 p354 (by first | exact q354 | exact of_decide_eq_true (by first | (with_reducible assumption) | assumption) | (have e_ := (Kd.S_reads' HO_16.out).1; omega))
                                                obtain ⟨ve354_0, rfl, ge354_0⟩ := hMe354
                                                have hv354_0 := hcc354 0 _ rfl
                                                rw [Nat.add_zero, show ((Kd.slice 3 (Kd.int .i64))).sz = 1 from rfl, Nat.mul_one] at hv354_0
                                                replace hv354_0 := Option.some.inj (hv354_0.symm.trans hx354_0)
                                                rw [hv354_0] at ge354_0
                                                have HL354_0 := Aside0.mk (show Kd.R (Kd.int .i64) 3 _ _ _ _ (rd_L3 t341 x130_5) from ge354_0)
                                                clear hv354_0 ge354_0
                                                clear hcc354 hce354
                                                have HR354_0 := Aside0.mk hi354_0
                                                have HC354_0 := Aside0.mk hl354_0
                                                clear hi354_0 hl354_0
                                                replace p354 := eq_true p354
                                                replace q354 := eq_true q354
                                                obtain ⟨Ao80, co80, eo80⟩ := Kd.S_slice HO_20.out
                                                subst eo80
                                                have p355 : 0 ≤ (x130_5 : Int) := of_decide_eq_true (by first | (with_reducible assumption) | assumption)
                                                have q355 : x130_5 < (t349.length : Int) := of_decide_eq_true (by first | (with_reducible assumption) | assumption)
                                                obtain ⟨ad355, A355_0, c355_0, e355, hx355_0, hl355_0, hi355_0⟩ := at_L3 (Kd.S_reads' HO_20.out).2.2 x130_5 p355 q355
                                                cases e355
                                                obtain ⟨ce355, hce355, hMe355, hcc355⟩ := Kd.S_get HO_20.out [] x130_5 p355 (by first | exact q355 | exact of_decide_eq_true (by first | (with_reducible assumption) | assumption) | (have e_ := (Kd.S_reads' HO_20.out).1; omega))
                                                obtain ⟨ve355_0, rfl, ge355_0⟩ := hMe355
                                                have hv355_0 := hcc355 0 _ rfl
                                                rw [Nat.add_zero, show ((Kd.slice 3 (Kd.int .i64))).sz = 1 from rfl, Nat.mul_one] at hv355_0
                                                replace hv355_0 := Option.some.inj (hv355_0.symm.trans hx355_0)
                                                rw [hv355_0] at ge355_0
                                                have HL355_0 := Aside0.mk (show Kd.R (Kd.int .i64) 3 _ _ _ _ (rd_L3 t349 x130_5) from ge355_0)
                                                clear hv355_0 ge355_0
                                                clear hcc355 hce355
                                                have HR355_0 := Aside0.mk hi355_0
                                                have HC355_0 := Aside0.mk hl355_0
                                                clear hi355_0 hl355_0
                                                replace p355 := eq_true p355
                                                replace q355 := eq_true q355
                                                go_wp2
                                                repeat (go_quiet (fail); try go_wp2)
                                                go_ret
                                                exact ⟨by first | rfl | (simp [errW_none, errW_some] <;> rfl) | (simp [*, errW_none, errW_some] <;> rfl), by repeat (first | (with_reducible first | exact HB.out | apply below_alloc | apply pw_below_drewN | apply below_drew1) | exact HB.out)⟩
                                            · rw [if_neg c75] at H
                                              exact absurd H (by simp)
                                          · rw [if_neg c74] at H
                                            have c74b0 : (((rd_L3 t341 x130_5).length : Int) == a0) = false := beq_eq_false_iff_ne.mpr c74
                                            have c74b1 : (((rd_L3 t341 x130_5).length : Int) != a0) = true := bne_iff_ne.mpr c74
                                            obtain rfl := Option.some.inj H
                                            obtain ⟨Ao81, co81, eo81⟩ := Kd.S_slice HO_16.out
                                            subst eo81
                                            have p354 : 0 ≤ (x130_5 : Int) := of_decide_eq_true (by first | (with_reducible assumption) | assumption)
                                            have q354 : x130_5 < (t341.length : Int) := of_decide_eq_true (by first | (with_reducible assumption) | assumption)
                                            obtain ⟨ad354, A354_0, c354_0, e354, hx354_0, hl354_0, hi354_0⟩ := at_L3 (Kd.S_reads' HO_16.out).2.2 x130_5 p354 q354
                                            cases e354
                                            obtain ⟨ce354, hce354, hMe354, hcc354⟩ := Kd.S_get HO_16.out [] x130_5 p354 (by first | exact q354 | exact of_decide_eq_true (by first | (with_reducible assumption) | assumption) | (have e_ := (Kd.S_reads' HO_16.out).1; omega))
                                            obtain ⟨ve354_0, rfl, ge354_0⟩ := hMe354
                                            have hv354_0 := hcc354 0 _ rfl
                                            rw [Nat.add_zero, show ((Kd.slice 3 (Kd.int .i64))).sz = 1 from rfl, Nat.mul_one] at hv354_0
                                            replace hv354_0 := Option.some.inj (hv354_0.symm.trans hx354_0)
                                            rw [hv354_0] at ge354_0
                                            have HL354_0 := Aside0.mk (show Kd.R (Kd.int .i64) 3 _ _ _ _ (rd_L3 t341 x130_5) from ge354_0)
                                            clear hv354_0 ge354_0
                                            clear hcc354 hce354
                                            have HR354_0 := Aside0.mk hi354_0
                                            have HC354_0 := Aside0.mk hl354_0
                                            clear hi354_0 hl354_0
                                            replace p354 := eq_true p354
                                            replace q354 := eq_true q354
                                            go_wp2
                                            repeat (go_quiet (fail); try go_wp2)
                                            go_ret
                                            exact ⟨by first | rfl | (simp [errW_none, errW_some] <;> rfl) | (simp [*, errW_none, errW_some] <;> rfl), by repeat (first | (with_reducible first | exact HB.out | apply below_alloc | apply pw_below_drewN | apply below_drew1) | exact HB.out)⟩
                                        · rw [if_neg c73] at H
                                          exact absurd H (by simp)
                                      · rw [if_neg c72] at H
                                        exact absurd H (by simp)
                                    · rw [if_neg c71] at H
                                      have c71b0 : decide (x130_5 < a0) = false := decide_eq_false c71
                                      clear c71
                                      have H' := Aside0.mk H
                                      clear H
                                      go_wp2
                                      repeat (go_quiet (fail); try go_wp2)
                                      go_loopg [151] k5 (fun kq v151 w' => ∃ (x151_6 : Int), v151 = .int .i64 x151_6 ∧ Aside0 (fastilaw22_CarryTurned.l3 kq a0 t341 t349 a0 x151_6 = some r) ∧ Aside0 (kq ≤ k5) ∧ Aside0 (Kd.S (Kd.slice 3 (Kd.int .i64)) 33 w' w.heap.size (fun k_ => some k_ ≠ (v351 : Value).ownBlock) v343 t341) ∧ Aside0 (Kd.S (Kd.slice 3 (Kd.int .i64)) 33 w' w.heap.size (fun k_ => some k_ ≠ (v343 : Value).ownBlock) v351 t349) ∧ Aside0 (Below w.heap.size w w'))
                                      case atStart => exact ⟨(0), (by first | rfl | (simp; done) | (simp [*]; done)), H', ⟨Nat.le_refl _⟩, ⟨by (with_reducible repeat (first | apply Kd.S_alloc | apply Kd.S_drewN | apply Kd.S_drew)); exact HO_16.out⟩, ⟨by (with_reducible repeat (first | apply Kd.S_alloc | apply Kd.S_drewN | apply Kd.S_drew)); exact HO_20.out⟩, ⟨by repeat (first | (with_reducible first | exact HB.out | apply below_alloc | apply pw_below_drewN | apply below_drew1) | exact HB.out)⟩⟩
                                      case round =>
                                        clear H'
                                        try clear c1
                                        try clear c2
                                        try clear p2
                                        try clear q2
                                        try clear hx2
                                        try clear c3
                                        try clear p3
                                        try clear q3
                                        try clear hx3
                                        try clear c4
                                        try clear q4
                                        try clear c5
                                        try clear c6
                                        try clear p6
                                        try clear c7
                                        try clear c9
                                        try clear c12
                                        try clear c14
                                        try clear c14b0
                                        try clear c14b1
                                        try clear c15
                                        try clear c15b0
                                        try clear c15b1
                                        try clear c19
                                        try clear c19b0
                                        try clear c20
                                        try clear c20b0
                                        try clear c21
                                        try clear c21b0
                                        try clear c22
                                        try clear c22b0
                                        try clear c23
                                        try clear c23b0
                                        try clear p24
                                        try clear q24
                                        try clear hx24
                                        try clear hf24
                                        try clear c25
                                        try clear c25b0
                                        try clear c25b1
                                        try clear c26
                                        try clear c27
                                        try clear p33
                                        try clear q33
                                        try clear hx33
                                        try clear p34
                                        try clear q34
                                        try clear hx34
                                        try clear c35
                                        try clear p35
                                        try clear q35
                                        try clear hx35
                                        try clear c36
                                        try clear c44
                                        try clear c44b0
                                        try clear c45
                                        try clear c45b0
                                        try clear c46
                                        try clear c46b0
                                        try clear q47
                                        try clear c48
                                        try clear c58
                                        try clear c58b0
                                        try clear c58b1
                                        try clear c59
                                        try clear c59b0
                                        try clear c59b1
                                        try clear c60
                                        try clear c60b0
                                        try clear c60b1
                                        try clear c61
                                        try clear c61b0
                                        try clear c61b1
                                        try clear c62
                                        try clear c62b0
                                        try clear c62b1
                                        try clear p64
                                        try clear c70
                                        try clear c71
                                        try clear c71b0
                                        try clear c72
                                        try clear c72b0
                                        try clear c73
                                        try clear c73b0
                                        try clear c74
                                        try clear c74b0
                                        try clear c74b1
                                        try clear c75
                                        try clear c75b0
                                        try clear c76
                                        try clear c76b0
                                        try clear c76b1
                                        try clear hcz29_0
                                        try clear hcz29_1
                                        try clear hcz29_2
                                        try clear hcz31_0
                                        try clear hcz31_1
                                        try clear hcz31_2
                                        try clear hcz34_0
                                        try clear hcz34_1
                                        try clear hcz34_2
                                        try clear hcz37_0
                                        try clear hcz37_1
                                        try clear hcz37_2
                                        try clear hcz38_0
                                        try clear hcz38_1
                                        try clear hcz38_2
                                        try clear hcz40_0
                                        try clear hcz40_1
                                        try clear hcz40_2
                                        try clear hcz41_0
                                        try clear hcz41_1
                                        try clear hcz41_2
                                        try clear hfz29_0
                                        try clear hfz29_1
                                        try clear hfz29_2
                                        try clear hfz31_0
                                        try clear hfz31_1
                                        try clear hfz31_2
                                        try clear hfz34_0
                                        try clear hfz34_1
                                        try clear hfz34_2
                                        try clear hfz37_0
                                        try clear hfz37_1
                                        try clear hfz37_2
                                        try clear hfz38_0
                                        try clear hfz38_1
                                        try clear hfz38_2
                                        try clear hfz40_0
                                        try clear hfz40_1
                                        try clear hfz40_2
                                        try clear hfz41_0
                                        try clear hfz41_1
                                        try clear hfz41_2
                                        try clear hx24_0
                                        try clear hx330_0
                                        try clear hx330_1
                                        try clear hx330_2
                                        try clear hx340_0
                                        try clear hx354_0
                                        try clear hx355_0
                                        try clear p2
                                        try clear p24
                                        try clear p3
                                        try clear p33
                                        try clear p330
                                        try clear p34
                                        try clear p340
                                        try clear p354
                                        try clear p355
                                        try clear p6
                                        try clear p64
                                        try clear q2
                                        try clear q24
                                        try clear q3
                                        try clear q33
                                        try clear q330
                                        try clear q34
                                        try clear q340
                                        try clear q354
                                        try clear q355
                                        try clear q4
                                        try clear q47
                                        obtain ⟨x151_6, rfl, HA, HK6, HO_16, HO_20, HB⟩ := hrel
                                        cases gk with
                                        | zero => exact absurd HA.out (by simp [fastilaw22_CarryTurned.l3])
                                        | succ k6 =>
                                          have H := HA.out
                                          clear HA
                                          simp only [fastilaw22_CarryTurned.l3] at H
                                          by_cases c82 : x151_6 < a0
                                          · rw [if_pos c82] at H
                                            have c82b0 : decide (x151_6 < a0) = true := decide_eq_true c82
                                            clear c82
                                            have H' := Aside0.mk H
                                            clear H
                                            go_wp2
                                            repeat (go_quiet (fail); try go_wp2)
                                            go_loopg [155] k6 (fun kq v155 w' => ∃ (x155_7 : Int), v155 = .int .i64 x155_7 ∧ Aside0 (fastilaw22_CarryTurned.l4 kq a0 t341 t349 x151_6 a0 x151_6 a0 x155_7 = some r) ∧ Aside0 (kq ≤ k6) ∧ Aside0 (Kd.S (Kd.slice 3 (Kd.int .i64)) 33 w' w.heap.size (fun k_ => some k_ ≠ (v351 : Value).ownBlock) v343 t341) ∧ Aside0 (Kd.S (Kd.slice 3 (Kd.int .i64)) 33 w' w.heap.size (fun k_ => some k_ ≠ (v343 : Value).ownBlock) v351 t349) ∧ Aside0 (Below w.heap.size w w'))
                                            case atStart => exact ⟨(0), (by first | rfl | (simp; done) | (simp [*]; done)), H', ⟨Nat.le_refl _⟩, ⟨by (with_reducible repeat (first | apply Kd.S_alloc | apply Kd.S_drewN | apply Kd.S_drew)); exact HO_16.out⟩, ⟨by (with_reducible repeat (first | apply Kd.S_alloc | apply Kd.S_drewN | apply Kd.S_drew)); exact HO_20.out⟩, ⟨by repeat (first | (with_reducible first | exact HB.out | apply below_alloc | apply pw_below_drewN | apply below_drew1) | exact HB.out)⟩⟩
                                            case round =>
                                              clear H'
                                              try clear c1
                                              try clear c2
                                              try clear p2
                                              try clear q2
                                              try clear hx2
                                              try clear c3
                                              try clear p3
                                              try clear q3
                                              try clear hx3
                                              try clear c4
                                              try clear q4
                                              try clear c5
                                              try clear c6
                                              try clear p6
                                              try clear c7
                                              try clear c8
                                              try clear c9
                                              try clear c12
                                              try clear c14
                                              try clear c14b0
                                              try clear c14b1
                                              try clear c15
                                              try clear c15b0
                                              try clear c15b1
                                              try clear c19
                                              try clear c19b0
                                              try clear c20
                                              try clear c20b0
                                              try clear c21
                                              try clear c21b0
                                              try clear c22
                                              try clear c22b0
                                              try clear c23
                                              try clear c23b0
                                              try clear p24
                                              try clear q24
                                              try clear hx24
                                              try clear hf24
                                              try clear c25
                                              try clear c25b0
                                              try clear c25b1
                                              try clear c26
                                              try clear c27
                                              try clear p33
                                              try clear q33
                                              try clear hx33
                                              try clear p34
                                              try clear q34
                                              try clear hx34
                                              try clear c35
                                              try clear p35
                                              try clear q35
                                              try clear hx35
                                              try clear c36
                                              try clear c44
                                              try clear c44b0
                                              try clear c45
                                              try clear c45b0
                                              try clear c46
                                              try clear c46b0
                                              try clear q47
                                              try clear c48
                                              try clear c58
                                              try clear c58b0
                                              try clear c58b1
                                              try clear c59
                                              try clear c59b0
                                              try clear c59b1
                                              try clear c60
                                              try clear c60b0
                                              try clear c60b1
                                              try clear c61
                                              try clear c61b0
                                              try clear c61b1
                                              try clear c62
                                              try clear c62b0
                                              try clear c62b1
                                              try clear p64
                                              try clear c70
                                              try clear c71
                                              try clear c71b0
                                              try clear c72
                                              try clear c72b0
                                              try clear c73
                                              try clear c73b0
                                              try clear c74
                                              try clear c74b0
                                              try clear c74b1
                                              try clear c75
                                              try clear c75b0
                                              try clear c76
                                              try clear c76b0
                                              try clear c76b1
                                              try clear c82
                                              try clear c82b0
                                              try clear hcz29_0
                                              try clear hcz29_1
                                              try clear hcz29_2
                                              try clear hcz31_0
                                              try clear hcz31_1
                                              try clear hcz31_2
                                              try clear hcz34_0
                                              try clear hcz34_1
                                              try clear hcz34_2
                                              try clear hcz37_0
                                              try clear hcz37_1
                                              try clear hcz37_2
                                              try clear hcz38_0
                                              try clear hcz38_1
                                              try clear hcz38_2
                                              try clear hcz40_0
                                              try clear hcz40_1
                                              try clear hcz40_2
                                              try clear hcz41_0
                                              try clear hcz41_1
                                              try clear hcz41_2
                                              try clear hfz29_0
                                              try clear hfz29_1
                                              try clear hfz29_2
                                              try clear hfz31_0
                                              try clear hfz31_1
                                              try clear hfz31_2
                                              try clear hfz34_0
                                              try clear hfz34_1
                                              try clear hfz34_2
                                              try clear hfz37_0
                                              try clear hfz37_1
                                              try clear hfz37_2
                                              try clear hfz38_0
                                              try clear hfz38_1
                                              try clear hfz38_2
                                              try clear hfz40_0
                                              try clear hfz40_1
                                              try clear hfz40_2
                                              try clear hfz41_0
                                              try clear hfz41_1
                                              try clear hfz41_2
                                              try clear hx24_0
                                              try clear hx330_0
                                              try clear hx330_1
                                              try clear hx330_2
                                              try clear hx340_0
                                              try clear hx354_0
                                              try clear hx355_0
                                              try clear p2
                                              try clear p24
                                              try clear p3
                                              try clear p33
                                              try clear p330
                                              try clear p34
                                              try clear p340
                                              try clear p35
                                              try clear p354
                                              try clear p355
                                              try clear p6
                                              try clear p64
                                              try clear q2
                                              try clear q24
                                              try clear q3
                                              try clear q33
                                              try clear q330
                                              try clear q34
                                              try clear q340
                                              try clear q35
                                              try clear q354
                                              try clear q355
                                              try clear q4
                                              try clear q47
                                              obtain ⟨x155_7, rfl, HA, HK7, HO_16, HO_20, HB⟩ := hrel
                                              cases gk with
                                              | zero => exact absurd HA.out (by simp [fastilaw22_CarryTurned.l4])
                                              | succ k7 =>
                                                have H := HA.out
                                                clear HA
                                                simp only [fastilaw22_CarryTurned.l4] at H
                                                by_cases c83 : x155_7 < a0
                                                · rw [if_pos c83] at H
                                                  have c83b0 : decide (x155_7 < a0) = true := decide_eq_true c83
                                                  clear c83
                                                  by_cases c84 : 0 ≤ x151_6
                                                  · rw [if_pos c84] at H
                                                    have c84b0 : decide (0 ≤ x151_6) = true := decide_eq_true c84
                                                    clear c84
                                                    by_cases c85 : x151_6 < (t341.length : Int)
                                                    · rw [if_pos c85] at H
                                                      have c85b0 : decide (x151_6 < (t341.length : Int)) = true := decide_eq_true c85
                                                      clear c85
                                                      by_cases c86 : 0 ≤ x155_7
                                                      · rw [if_pos c86] at H
                                                        have c86b0 : decide (0 ≤ x155_7) = true := decide_eq_true c86
                                                        clear c86
                                                        by_cases c87 : x155_7 < ((rd_L3 t341 x151_6).length : Int)
                                                        · rw [if_pos c87] at H
                                                          have c87b0 : decide (x155_7 < ((rd_L3 t341 x151_6).length : Int)) = true := decide_eq_true c87
                                                          clear c87
                                                          by_cases c88 : x155_7 < (t349.length : Int)
                                                          · rw [if_pos c88] at H
                                                            have c88b0 : decide (x155_7 < (t349.length : Int)) = true := decide_eq_true c88
                                                            clear c88
                                                            by_cases c89 : x151_6 < ((rd_L3 t349 x155_7).length : Int)
                                                            · rw [if_pos c89] at H
                                                              have c89b0 : decide (x151_6 < ((rd_L3 t349 x155_7).length : Int)) = true := decide_eq_true c89
                                                              clear c89
                                                              by_cases c90 : (rd (rd_L3 t341 x151_6) x155_7) = (rd (rd_L3 t349 x155_7) x151_6)
                                                              · rw [if_pos c90] at H
                                                                have c90b0 : ((rd (rd_L3 t341 x151_6) x155_7) == (rd (rd_L3 t349 x155_7) x151_6)) = true := beq_iff_eq.mpr c90
                                                                have c90b1 : ((rd (rd_L3 t341 x151_6) x155_7) != (rd (rd_L3 t349 x155_7) x151_6)) = false := bne_eq_false_iff_eq.mpr c90
                                                                clear c90
                                                                have H' := Aside0.mk H
                                                                clear H
                                                                obtain ⟨Ao91, co91, eo91⟩ := Kd.S_slice HO_16.out
                                                                subst eo91
                                                                have p356 : 0 ≤ (x151_6 : Int) := of_decide_eq_true (by first | (with_reducible assumption) | assumption)
                                                                have q356 : x151_6 < (t341.length : Int) := of_decide_eq_true (by first | (with_reducible assumption) | assumption)
                                                                obtain ⟨ad356, A356_0, c356_0, e356, hx356_0, hl356_0, hi356_0⟩ := at_L3 (Kd.S_reads' HO_16.out).2.2 x151_6 p356 q356
                                                                cases e356
                                                                obtain ⟨ce356, hce356, hMe356, hcc356⟩ := Kd.S_get HO_16.out [] x151_6 p356 (by first | exact q356 | exact of_decide_eq_true (by first | (with_reducible assumption) | assumption) | (have e_ := (Kd.S_reads' HO_16.out).1; omega))
                                                                obtain ⟨ve356_0, rfl, ge356_0⟩ := hMe356
                                                                have hv356_0 := hcc356 0 _ rfl
                                                                rw [Nat.add_zero, show ((Kd.slice 3 (Kd.int .i64))).sz = 1 from rfl, Nat.mul_one] at hv356_0
                                                                replace hv356_0 := Option.some.inj (hv356_0.symm.trans hx356_0)
                                                                rw [hv356_0] at ge356_0
                                                                have HL356_0 := Aside0.mk (show Kd.R (Kd.int .i64) 3 _ _ _ _ (rd_L3 t341 x151_6) from ge356_0)
                                                                clear hv356_0 ge356_0
                                                                clear hcc356 hce356
                                                                have HR356_0 := Aside0.mk hi356_0
                                                                have HC356_0 := Aside0.mk hl356_0
                                                                clear hi356_0 hl356_0
                                                                replace p356 := eq_true p356
                                                                replace q356 := eq_true q356
                                                                have p357 : 0 ≤ (x155_7 : Int) := of_decide_eq_true (by first | (with_reducible assumption) | assumption)
                                                                have q357 : x155_7 < ((rd_L3 t341 x151_6).length : Int) := of_decide_eq_true (by first | (with_reducible assumption) | assumption)
                                                                obtain ⟨ad357, e357, hx357_0⟩ := Kd.at_int (by repeat (first | (with_reducible exact HR356_0.out) | (with_reducible refine Kd.C_alloc ?_ _) | (with_reducible refine Kd.C_drewN ?_ _) | (with_reducible refine Kd.C_drew ?_) | exact HR356_0.out)) x155_7 p357 q357
                                                                cases e357
                                                                replace p357 := eq_true p357
                                                                replace q357 := eq_true q357
                                                                obtain ⟨Ao92, co92, eo92⟩ := Kd.S_slice HO_20.out
                                                                subst eo92
                                                                have p358 : 0 ≤ (x155_7 : Int) := of_decide_eq_true (by first | (with_reducible assumption) | assumption)
                                                                have q358 : x155_7 < (t349.length : Int) := of_decide_eq_true (by first | (with_reducible assumption) | assumption)
                                                                obtain ⟨ad358, A358_0, c358_0, e358, hx358_0, hl358_0, hi358_0⟩ := at_L3 (Kd.S_reads' HO_20.out).2.2 x155_7 p358 q358
                                                                cases e358
                                                                obtain ⟨ce358, hce358, hMe358, hcc358⟩ := Kd.S_get HO_20.out [] x155_7 p358 (by first | exact q358 | exact of_decide_eq_true (by first | (with_reducible assumption) | assumption) | (have e_ := (Kd.S_reads' HO_20.out).1; omega))
                                                                obtain ⟨ve358_0, rfl, ge358_0⟩ := hMe358
                                                                have hv358_0 := hcc358 0 _ rfl
                                                                rw [Nat.add_zero, show ((Kd.slice 3 (Kd.int .i64))).sz = 1 from rfl, Nat.mul_one] at hv358_0
                                                                replace hv358_0 := Option.some.inj (hv358_0.symm.trans hx358_0)
                                                                rw [hv358_0] at ge358_0
                                                                have HL358_0 := Aside0.mk (show Kd.R (Kd.int .i64) 3 _ _ _ _ (rd_L3 t349 x155_7) from ge358_0)
                                                                clear hv358_0 ge358_0
                                                                clear hcc358 hce358
                                                                have HR358_0 := Aside0.mk hi358_0
                                                                have HC358_0 := Aside0.mk hl358_0
                                                                clear hi358_0 hl358_0
                                                                replace p358 := eq_true p358
                                                                replace q358 := eq_true q358
                                                                have p359 : 0 ≤ (x151_6 : Int) := of_decide_eq_true (by first | (with_reducible assumption) | assumption)
                                                                have q359 : x151_6 < ((rd_L3 t349 x155_7).length : Int) := of_decide_eq_true (by first | (with_reducible assumption) | assumption)
                                                                obtain ⟨ad359, e359, hx359_0⟩ := Kd.at_int (by repeat (first | (with_reducible exact HR358_0.out) | (with_reducible refine Kd.C_alloc ?_ _) | (with_reducible refine Kd.C_drewN ?_ _) | (with_reducible refine Kd.C_drew ?_) | exact HR358_0.out)) x151_6 p359 q359
                                                                cases e359
                                                                replace p359 := eq_true p359
                                                                replace q359 := eq_true q359
                                                                go_wp2
                                                                repeat (go_quiet (fail); try go_wp2)
                                                                go_roundg k7
                                                                case measure => have := HJ5.out; have := HK2.out; have := HK3.out; have := HJ51.out; have := HK5.out; have := HK6.out; have := HK7.out; omega
                                                                case rel => exact ⟨(wrap64 (x155_7 + 1)), (by first | rfl | (simp; done) | (simp [*]; done)), H', ⟨by have := HJ5.out; have := HK2.out; have := HK3.out; have := HJ51.out; have := HK5.out; have := HK6.out; have := HK7.out; omega⟩, ⟨by (with_reducible repeat (first | apply Kd.S_alloc | apply Kd.S_drewN | apply Kd.S_drew)); exact HO_16.out⟩, ⟨by (with_reducible repeat (first | apply Kd.S_alloc | apply Kd.S_drewN | apply Kd.S_drew)); exact HO_20.out⟩, ⟨by repeat (first | (with_reducible first | exact HB.out | apply below_alloc | apply pw_below_drewN | apply below_drew1) | exact HB.out)⟩⟩
                                                              · rw [if_neg c90] at H
                                                                have c90b0 : ((rd (rd_L3 t341 x151_6) x155_7) == (rd (rd_L3 t349 x155_7) x151_6)) = false := beq_eq_false_iff_ne.mpr c90
                                                                have c90b1 : ((rd (rd_L3 t341 x151_6) x155_7) != (rd (rd_L3 t349 x155_7) x151_6)) = true := bne_iff_ne.mpr c90
                                                                obtain rfl := Option.some.inj H
                                                                obtain ⟨Ao93, co93, eo93⟩ := Kd.S_slice HO_16.out
                                                                subst eo93
                                                                have p356 : 0 ≤ (x151_6 : Int) := of_decide_eq_true (by first | (with_reducible assumption) | assumption)
                                                                have q356 : x151_6 < (t341.length : Int) := of_decide_eq_true (by first | (with_reducible assumption) | assumption)
                                                                obtain ⟨ad356, A356_0, c356_0, e356, hx356_0, hl356_0, hi356_0⟩ := at_L3 (Kd.S_reads' HO_16.out).2.2 x151_6 p356 q356
                                                                cases e356
                                                                obtain ⟨ce356, hce356, hMe356, hcc356⟩ := Kd.S_get HO_16.out [] x151_6 p356 (by first | exact q356 | exact of_decide_eq_true (by first | (with_reducible assumption) | assumption) | (have e_ := (Kd.S_reads' HO_16.out).1; omega))
                                                                obtain ⟨ve356_0, rfl, ge356_0⟩ := hMe356
                                                                have hv356_0 := hcc356 0 _ rfl
                                                                rw [Nat.add_zero, show ((Kd.slice 3 (Kd.int .i64))).sz = 1 from rfl, Nat.mul_one] at hv356_0
                                                                replace hv356_0 := Option.some.inj (hv356_0.symm.trans hx356_0)
                                                                rw [hv356_0] at ge356_0
                                                                have HL356_0 := Aside0.mk (show Kd.R (Kd.int .i64) 3 _ _ _ _ (rd_L3 t341 x151_6) from ge356_0)
                                                                clear hv356_0 ge356_0
                                                                clear hcc356 hce356
                                                                have HR356_0 := Aside0.mk hi356_0
                                                                have HC356_0 := Aside0.mk hl356_0
                                                                clear hi356_0 hl356_0
                                                                replace p356 := eq_true p356
                                                                replace q356 := eq_true q356
                                                                have p357 : 0 ≤ (x155_7 : Int) := of_decide_eq_true (by first | (with_reducible assumption) | assumption)
                                                                have q357 : x155_7 < ((rd_L3 t341 x151_6).length : Int) := of_decide_eq_true (by first | (with_reducible assumption) | assumption)
                                                                obtain ⟨ad357, e357, hx357_0⟩ := Kd.at_int (by repeat (first | (with_reducible exact HR356_0.out) | (with_reducible refine Kd.C_alloc ?_ _) | (with_reducible refine Kd.C_drewN ?_ _) | (with_reducible refine Kd.C_drew ?_) | exact HR356_0.out)) x155_7 p357 q357
                                                                cases e357
                                                                replace p357 := eq_true p357
                                                                replace q357 := eq_true q357
                                                                obtain ⟨Ao94, co94, eo94⟩ := Kd.S_slice HO_20.out
                                                                subst eo94
                                                                have p358 : 0 ≤ (x155_7 : Int) := of_decide_eq_true (by first | (with_reducible assumption) | assumption)
                                                                have q358 : x155_7 < (t349.length : Int) := of_decide_eq_true (by first | (with_reducible assumption) | assumption)
                                                                obtain ⟨ad358, A358_0, c358_0, e358, hx358_0, hl358_0, hi358_0⟩ := at_L3 (Kd.S_reads' HO_20.out).2.2 x155_7 p358 q358
                                                                cases e358
                                                                obtain ⟨ce358, hce358, hMe358, hcc358⟩ := Kd.S_get HO_20.out [] x155_7 p358 (by first | exact q358 | exact of_decide_eq_true (by first | (with_reducible assumption) | assumption) | (have e_ := (Kd.S_reads' HO_20.out).1; omega))
                                                                obtain ⟨ve358_0, rfl, ge358_0⟩ := hMe358
                                                                have hv358_0 := hcc358 0 _ rfl
                                                                rw [Nat.add_zero, show ((Kd.slice 3 (Kd.int .i64))).sz = 1 from rfl, Nat.mul_one] at hv358_0
                                                                replace hv358_0 := Option.some.inj (hv358_0.symm.trans hx358_0)
                                                                rw [hv358_0] at ge358_0
                                                                have HL358_0 := Aside0.mk (show Kd.R (Kd.int .i64) 3 _ _ _ _ (rd_L3 t349 x155_7) from ge358_0)
                                                                clear hv358_0 ge358_0
                                                                clear hcc358 hce358
                                                                have HR358_0 := Aside0.mk hi358_0
                                                                have HC358_0 := Aside0.mk hl358_0
                                                                clear hi358_0 hl358_0
                                                                replace p358 := eq_true p358
                                                                replace q358 := eq_true q358
                                                                have p359 : 0 ≤ (x151_6 : Int) := of_decide_eq_true (by first | (with_reducible assumption) | assumption)
                                                                have q359 : x151_6 < ((rd_L3 t349 x155_7).length : Int) := of_decide_eq_true (by first | (with_reducible assumption) | assumption)
                                                                obtain ⟨ad359, e359, hx359_0⟩ := Kd.at_int (by repeat (first | (with_reducible exact HR358_0.out) | (with_reducible refine Kd.C_alloc ?_ _) | (with_reducible refine Kd.C_drewN ?_ _) | (with_reducible refine Kd.C_drew ?_) | exact HR358_0.out)) x151_6 p359 q359
                                                                cases e359
                                                                replace p359 := eq_true p359
                                                                replace q359 := eq_true q359
                                                                go_wp2
                                                                repeat (go_quiet (fail); try go_wp2)
                                                                go_ret
                                                                exact ⟨by first | rfl | (simp [errW_none, errW_some] <;> rfl) | (simp [*, errW_none, errW_some] <;> rfl), by repeat (first | (with_reducible first | exact HB.out | apply below_alloc | apply pw_below_drewN | apply below_drew1) | exact HB.out)⟩
                                                            · rw [if_neg c89] at H
                                                              exact absurd H (by simp)
                                                          · rw [if_neg c88] at H
                                                            exact absurd H (by simp)
                                                        · rw [if_neg c87] at H
                                                          exact absurd H (by simp)
                                                      · rw [if_neg c86] at H
                                                        exact absurd H (by simp)
                                                    · rw [if_neg c85] at H
                                                      exact absurd H (by simp)
                                                  · rw [if_neg c84] at H
                                                    exact absurd H (by simp)
                                                · rw [if_neg c83] at H
                                                  have c83b0 : decide (x155_7 < a0) = false := decide_eq_false c83
                                                  clear c83
                                                  have H' := Aside0.mk H
                                                  clear H
                                                  go_wp2
                                                  repeat (go_quiet (fail); try go_wp2)
                                                  go_roundg k7
                                                  case measure => have := HJ5.out; have := HK2.out; have := HK3.out; have := HJ51.out; have := HK5.out; have := HK6.out; have := HK7.out; omega
                                                  case rel => exact ⟨(wrap64 (x151_6 + 1)), (by first | rfl | (simp; done) | (simp [*]; done)), H', ⟨by have := HJ5.out; have := HK2.out; have := HK3.out; have := HJ51.out; have := HK5.out; have := HK6.out; have := HK7.out; omega⟩, ⟨by (with_reducible repeat (first | apply Kd.S_alloc | apply Kd.S_drewN | apply Kd.S_drew)); exact HO_16.out⟩, ⟨by (with_reducible repeat (first | apply Kd.S_alloc | apply Kd.S_drewN | apply Kd.S_drew)); exact HO_20.out⟩, ⟨by repeat (first | (with_reducible first | exact HB.out | apply below_alloc | apply pw_below_drewN | apply below_drew1) | exact HB.out)⟩⟩
                                          · rw [if_neg c82] at H
                                            have c82b0 : decide (x151_6 < a0) = false := decide_eq_false c82
                                            clear c82
                                            obtain rfl := Option.some.inj H
                                            go_wp2
                                            repeat (go_quiet (fail); try go_wp2)
                                            go_ret
                                            exact ⟨by first | rfl | (simp [errW_none, errW_some] <;> rfl) | (simp [*, errW_none, errW_some] <;> rfl), by repeat (first | (with_reducible first | exact HB.out | apply below_alloc | apply pw_below_drewN | apply below_drew1) | exact HB.out)⟩
            · rw [if_neg c15] at H
              exact absurd H (by simp)
          · rw [if_neg c14] at H
            exact absurd H (by simp)
  · replace c5 := Bool.eq_false_iff.mpr c5
    subst c5
    have H1 : (some false) = some r := by rw [if_neg (show ¬ (false = true) by decide)] at H; exact H
    clear H
    have H := H1
    clear H1
    obtain rfl := Option.some.inj H
    go_enter Try.func7, Try.ntmps7
    go_wp2_with (first | (go_at_call 9; (with_reducible refine (fastilaw22_sane.calls k  false _ A4.out).mono ?_); rintro e w95 ⟨rfl, hb⟩; have n0_ := Aside0.mk (below_step (by repeat (first | (with_reducible first | exact HB.out | apply below_alloc | apply pw_below_drewN | apply below_drew1) | exact HB.out)) hb); clear HB; have HB := n0_; clear n0_; (try clear hb); (try clear hb2); (try clear hk); (try clear hi)))
    repeat (go_quiet (first | (go_at_call 9; (with_reducible refine (fastilaw22_sane.calls k  false _ A4.out).mono ?_); rintro e w95 ⟨rfl, hb⟩; have n0_ := Aside0.mk (below_step (by repeat (first | (with_reducible first | exact HB.out | apply below_alloc | apply pw_below_drewN | apply below_drew1) | exact HB.out)) hb); clear HB; have HB := n0_; clear n0_; (try clear hb); (try clear hb2); (try clear hk); (try clear hi))); try go_wp2_with (first | (go_at_call 9; (with_reducible refine (fastilaw22_sane.calls k  false _ A4.out).mono ?_); rintro e w95 ⟨rfl, hb⟩; have n0_ := Aside0.mk (below_step (by repeat (first | (with_reducible first | exact HB.out | apply below_alloc | apply pw_below_drewN | apply below_drew1) | exact HB.out)) hb); clear HB; have HB := n0_; clear n0_; (try clear hb); (try clear hb2); (try clear hk); (try clear hi))))
    go_ret
    exact ⟨by first | rfl | (simp [errW_none, errW_some] <;> rfl) | (simp [*, errW_none, errW_some] <;> rfl), by repeat (first | (with_reducible first | exact HB.out | apply below_alloc | apply pw_below_drewN | apply below_drew1) | exact HB.out)⟩

end Go.Proofs.Ytcjpghiceebkfaa.P
