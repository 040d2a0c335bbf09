-- written by wip/tools/gprint.py, a driver of this session's over the kit's print, out of the translation: Lean checks it.
import Derived.Test.YtcjpghiceebkfaaP0
namespace Go.Proofs.Ytcjpghiceebkfaa.P
open Go.RowKit Go.Proofs.YtcjpghiceebkfaaW.PrintWords Go.Proofs.YtcjpghiceebkfaaW.PrintLast Go.Proofs.YtcjpghiceebkfaaW.PrintMore
attribute [local go_sem] max2_int min2_int max_two min_two max_three min_three max_four min_four   -- for this text's walks alone
set_option linter.unusedVariables false
set_option linter.unusedSimpArgs false
mutual
def fastiref22_Right.j0 : Nat → Int → List (S45) → Bool → Option (Bool)
 | 0, _, _, _ => none
 | k + 1, x0, x1, x18 => if x18 = true then (some false) else (if 0 ≤ (wrap64 (64 * x0)) then (if (wrap64 (64 * x0) : Int).toNat ≤ 281474976710656 then (fastiref22_Right.l0 k x0 x1 (List.replicate (wrap64 (64 * x0) : Int).toNat false) 0) else (none)) else (none))
def fastiref22_Right.l0 : Nat → Int → List (S45) → List Bool → Int → Option (Bool)
 | 0, _, _, _, _ => none
 | k + 1, x0, x1, x5, x6 => if x6 < (x1.length : Int) then (if 0 ≤ x6 then (if ((rd_T45 x1 x6).f0) < 0 then (fastiref22_Right.j2 k x0 x1 x5 x6 true ((rd_T45 x1 x6).f0) ((rd_T45 x1 x6).f1) ((rd_T45 x1 x6).f2)) else (if ((rd_T45 x1 x6).f0) > 63 then (fastiref22_Right.j2 k x0 x1 x5 x6 true ((rd_T45 x1 x6).f0) ((rd_T45 x1 x6).f1) ((rd_T45 x1 x6).f2)) else (if ((rd_T45 x1 x6).f1) < 0 then (fastiref22_Right.j2 k x0 x1 x5 x6 true ((rd_T45 x1 x6).f0) ((rd_T45 x1 x6).f1) ((rd_T45 x1 x6).f2)) else (if ((rd_T45 x1 x6).f1) ≥ x0 then (fastiref22_Right.j2 k x0 x1 x5 x6 true ((rd_T45 x1 x6).f0) ((rd_T45 x1 x6).f1) ((rd_T45 x1 x6).f2)) else (if ((rd_T45 x1 x6).f2) < 0 then (fastiref22_Right.j2 k x0 x1 x5 x6 true ((rd_T45 x1 x6).f0) ((rd_T45 x1 x6).f1) ((rd_T45 x1 x6).f2)) else (if ((rd_T45 x1 x6).f2) ≥ x0 then (fastiref22_Right.j2 k x0 x1 x5 x6 true ((rd_T45 x1 x6).f0) ((rd_T45 x1 x6).f1) ((rd_T45 x1 x6).f2)) else (fastiref22_Right.j2 k x0 x1 x5 x6 (((rd_T45 x1 x6).f1) == ((rd_T45 x1 x6).f2)) ((rd_T45 x1 x6).f0) ((rd_T45 x1 x6).f1) ((rd_T45 x1 x6).f2)))))))) else (none)) else (some true)
def fastiref22_Right.j2 : Nat → Int → List (S45) → List Bool → Int → Bool → Int → Int → Int → Option (Bool)
 | 0, _, _, _, _, _, _, _, _ => none
 | k + 1, x0, x1, x5, x6, x68, x179000, x179001, x179002 => if x68 = true then (some false) else (if 0 ≤ (wrap64 ((wrap64 (x179000 * x0)) + x179001)) then (if (wrap64 ((wrap64 (x179000 * x0)) + x179001)) < (x5.length : Int) then (if rdOf false x5 (wrap64 ((wrap64 (x179000 * x0)) + x179001)) = true then (some false) else (if 0 ≤ (wrap64 ((wrap64 (x179000 * x0)) + x179002)) then (if (wrap64 ((wrap64 (x179000 * x0)) + x179002)) < (x5.length : Int) then (if rdOf false x5 (wrap64 ((wrap64 (x179000 * x0)) + x179002)) = true then (some false) else (fastiref22_Right.l0 k x0 x1 ((x5.set ((wrap64 ((wrap64 (x179000 * x0)) + x179001)) : Int).toNat true).set ((wrap64 ((wrap64 (x179000 * x0)) + x179002)) : Int).toNat true) (wrap64 (x6 + 1)))) else (none)) else (none))) else (none)) else (none))
end
def fastiref22_Right.f (k : Nat) (a0 : Int) (l1 : List (S45)) : Option (Bool) := if a0 < 2 then (fastiref22_Right.j0 k a0 l1 true) else (if a0 > 20 then (fastiref22_Right.j0 k a0 l1 true) else (fastiref22_Right.j0 k a0 l1 (decide ((l1.length : Int) > 1280))))
set_option maxHeartbeats 8000000 in
set_option maxRecDepth 100000 in
theorem fastiref22_Right.calls (k : Nat) (a0 : Int) (A1 : Option Addr) (c1 : Nat) (l1 : List (S45)) (r : Bool) (w : World) (hr1 : Kd.C k45 w A1 l1.length l1) (hc1 : l1.length ≤ c1) (h : fastiref22_Right.f k a0 l1 = some r) :
  Calls Try.prog 27 #[.int .i64 a0, .slice A1 l1.length c1] w fun e w' => e = .returned (.bool r) ∧ Below w.heap.size w w' := by
 have hu45 := Try.underlying45
 have HR1 := Aside0.mk hr1
 have HC1 := Aside0.mk hc1
 clear hr1 hc1
 have HB := Aside0.mk (Below.refl w.heap.size w)
 have H : (if a0 < 2 then (fastiref22_Right.j0 k a0 l1 true) else (if a0 > 20 then (fastiref22_Right.j0 k a0 l1 true) else (fastiref22_Right.j0 k a0 l1 (decide ((l1.length : Int) > 1280))))) = some r := h
 clear h
 have HC3 := Aside0.mk H
 clear H
 go_enter Try.func27, Try.ntmps27
 go_upto_region 1 with (fail)
 go_cut [18] (fun v18 wc => ∃ (kq : Nat) (x18_2 : Bool), v18 = .bool x18_2 ∧ Aside0 (fastiref22_Right.j0 kq a0 l1 x18_2 = some r) ∧ Aside0 (kq ≤ k) ∧ Aside0 (Below w.heap.size w wc))
 case first =>
  have H := HC3.out
  clear HC3
  by_cases c4 : a0 < 2
  ·rw [if_pos c4] at H
   have c4b0 : decide (a0 < 2) = true := decide_eq_true c4
   clear c4
   (first | rw [c4b0] | (simp only [i64_w, i32_w]; rw [c4b0]) | skip)
   have H' := Aside0.mk H
   clear H
   go_wp2
   go_meet
   case rel => exact ⟨_, (true), (by first | rfl | (simp; done) | (simp [*]; done)), H', ⟨by first | omega | exact Nat.le_refl _⟩, ⟨by repeat (first | (with_reducible first | exact HB.out | apply below_alloc | apply pw_below_drewN | apply below_drew1) | exact HB.out)⟩⟩
  ·rw [if_neg c4] at H
   have c4b0 : decide (a0 < 2) = false := decide_eq_false c4
   clear c4
   (first | rw [c4b0] | (simp only [i64_w, i32_w]; rw [c4b0]) | skip)
   by_cases c5 : a0 > 20
   ·rw [if_pos c5] at H
    have c5b0 : decide (20 < a0) = true := decide_eq_true c5
    clear c5
    have H' := Aside0.mk H
    clear H
    go_wp2
    go_meet
    case rel => exact ⟨_, (true), (by first | rfl | (simp; done) | (simp [*]; done)), H', ⟨by first | omega | exact Nat.le_refl _⟩, ⟨by repeat (first | (with_reducible first | exact HB.out | apply below_alloc | apply pw_below_drewN | apply below_drew1) | exact HB.out)⟩⟩
   ·rw [if_neg c5] at H
    have c5b0 : decide (20 < a0) = false := decide_eq_false c5
    clear c5
    have H' := Aside0.mk H
    clear H
    go_wp2
    go_meet
    case rel => exact ⟨_, (decide ((l1.length : Int) > 1280)), (by first | rfl | (simp; done) | (simp [*]; done)), H', ⟨by first | omega | exact Nat.le_refl _⟩, ⟨by repeat (first | (with_reducible first | exact HB.out | apply below_alloc | apply pw_below_drewN | apply below_drew1) | exact HB.out)⟩⟩
 case rest =>
  clear HC3
  try clear c1
  try clear c2
  try clear p2
  try clear c4
  try clear c4b0
  try clear c5
  try clear c5b0
  obtain ⟨kq, x18_2, rfl, HA, HJ2, HB⟩ := hcut
  cases kq with
  | zero => exact absurd HA.out (by simp [fastiref22_Right.j0])
  | succ kj2 =>
   have H := HA.out
   clear HA
   simp only [fastiref22_Right.j0] at H
   by_cases c6 : x18_2 = true
   ·subst c6
    have H1 : (some false) = some r := by rw [if_pos rfl] at H; exact H
    clear H
    have H := H1
    clear H1
    obtain rfl := Option.some.inj H
    go_wp2
    go_ret
    exact ⟨by first | rfl | (simp [errW_none, errW_some] <;> rfl) | (simp [*, errW_none, errW_some] <;> rfl), by repeat (first | (with_reducible first | exact HB.out | apply below_alloc | apply pw_below_drewN | apply below_drew1) | exact HB.out)⟩
   ·replace c6 := Bool.eq_false_iff.mpr c6
    subst c6
    have H1 : (if 0 ≤ (wrap64 (64 * a0)) then (if (wrap64 (64 * a0) : Int).toNat ≤ 281474976710656 then (fastiref22_Right.l0 kj2 a0 l1 (List.replicate (wrap64 (64 * a0) : Int).toNat false) 0) else (none)) else (none)) = some r := by rw [if_neg (show ¬ (false = true) by decide)] at H; exact H
    clear H
    have H := H1
    clear H1
    obtain ⟨ji7, hji7⟩ : ∃ j_ : Int, (wrap64 (64 * a0)) = j_ := ⟨_, rfl⟩
    replace H : (if 0 ≤ (ji7) then (if (ji7 : Int).toNat ≤ 281474976710656 then (fastiref22_Right.l0 kj2 a0 l1 (List.replicate (ji7 : Int).toNat false) 0) else (none)) else (none)) = some r := by first | (rw [hji7] at H; exact H) | (simp only [hji7] at H ⊢; exact H)
    have hji7w : (IntKind.i64.wrap (64 * a0)) = ji7 := (i64_w _).trans hji7
    by_cases c8 : 0 ≤ (ji7)
    ·rw [if_pos c8] at H
     have c8b0 := eq_true c8
     have c8b1 : decide (0 ≤ (ji7)) = true := decide_eq_true c8
     clear c8
     by_cases c9 : (ji7 : Int).toNat ≤ 281474976710656
     ·rw [if_pos c9] at H
      have c9b0 := eq_true c9
      have c9b1 : decide ((ji7 : Int).toNat ≤ 281474976710656) = true := decide_eq_true c9
      clear c9
      obtain ⟨y174, hy174⟩ : ∃ y_ : List Bool, y_ = (List.replicate (ji7 : Int).toNat false) := ⟨_, rfl⟩
      replace H : (fastiref22_Right.l0 kj2 a0 l1 y174 0) = some r := by first | (rw [hy174]; with_reducible exact H) | (have H2_ := (Option.bind_some _ _).symm.trans H; rw [hy174]; with_reducible exact H2_) | (have H2_ := (Option.bind_some _ _).symm.trans H; with_reducible exact H2_) | with_reducible exact H | (rw [hy174]; exact H) | exact H
      have Ny174 := Aside0.mk hy174
      clear hy174
      have H' := Aside0.mk H
      clear H
      go_wp2_with (first | ((with_reducible refine gate_dst (N := 21) rfl ?_); (try (refine gate_guard (by rfl) ?_; dsimp only)); refine Kd.R_make Kd.bool _ 4 rfl (N := 21) rfl 41 _ _ rfl ji7 rfl rfl Try.underlying41 (.bool false) 1 info4 rfl (by decide) (by omega) false (ok := fun _ => True) (okp := fun _ => True) rfl (fun _ hk => hk) trivial (of_decide_eq_true (by first | (with_reducible assumption) | assumption)) (Nat.le_trans (Nat.mul_le_mul_right _ (of_decide_eq_true (by first | (with_reducible assumption) | assumption) : ji7.toNat ≤ 281474976710656)) (by omega)) (Below.refl _ _) (Nat.le_refl _) ?_; intro v175 w10 ho11 hb hg_ hnew_; clear hg_ hnew_; (first | rw [← Ny174.out] at ho11 | (simp only [Int.reduceToNat] at ho11; rw [← Ny174.out] at ho11)); have n0_ := Aside0.mk (Kd.R_lower ho11 (below_size (by repeat (first | (with_reducible first | exact HB.out | apply below_alloc | apply pw_below_drewN | apply below_drew1) | exact HB.out)))); have n1_ := Aside0.mk (below_step (by repeat (first | (with_reducible first | exact HB.out | apply below_alloc | apply pw_below_drewN | apply below_drew1) | exact HB.out)) hb); clear HB; have HO176 := n0_; have HB := n1_; clear n0_ n1_; clear hb ho11))
      go_loopg [6] kj2 (fun kq v6 w' => ∃ (x5_2 : List Bool) (x6_2 : Int), v6 = .int .i64 x6_2 ∧ Aside0 (fastiref22_Right.l0 kq a0 l1 x5_2 x6_2 = some r) ∧ Aside0 (kq ≤ kj2) ∧ Aside0 (Kd.R Kd.bool 4 w' w.heap.size (fun _ => True) v175 x5_2) ∧ Aside0 (Below w.heap.size w w'))
      case atStart => exact ⟨(y174), (0), (by first | rfl | (simp; done) | (simp [*]; done)), H', ⟨Nat.le_refl _⟩, ⟨by (with_reducible repeat (first | apply Kd.R_alloc | apply Kd.R_drewN | apply Kd.R_drew)); exact HO176.out⟩, ⟨by repeat (first | (with_reducible first | exact HB.out | apply below_alloc | apply pw_below_drewN | apply below_drew1) | exact HB.out)⟩⟩
      case round =>
       clear H'
       try clear c1
       try clear c2
       try clear p2
       try clear c4
       try clear c4b0
       try clear c5
       try clear c5b0
       try clear c6
       try clear p6
       try clear c8
       try clear c8b0
       try clear c8b1
       try clear c9
       try clear c9b0
       try clear c9b1
       try clear p2
       obtain ⟨x5_2, x6_2, rfl, HA, HK2, HO_5, HB⟩ := hrel
       cases gk with
       | zero => exact absurd HA.out (by simp [fastiref22_Right.l0])
       | succ k2 =>
        have H := HA.out
        clear HA
        simp only [fastiref22_Right.l0] at H
        by_cases c12 : x6_2 < (l1.length : Int)
        ·rw [if_pos c12] at H
         have c12b0 : decide (x6_2 < (l1.length : Int)) = true := decide_eq_true c12
         clear c12
         by_cases c13 : 0 ≤ x6_2
         ·rw [if_pos c13] at H
          have c13b0 : decide (0 ≤ x6_2) = true := decide_eq_true c13
          clear c13
          have HC14 := Aside0.mk H
          clear H
          have p177 : 0 ≤ (x6_2 : Int) := of_decide_eq_true (by first | (with_reducible assumption) | assumption)
          have q177 : x6_2 < (l1.length : Int) := of_decide_eq_true (by first | (with_reducible assumption) | assumption)
          obtain ⟨ad177, e177, hx177_0, hx177_1, hx177_2⟩ := at_T45 HR1.out x6_2 p177 q177
          cases e177
          replace hx177_0 := (HB.out.cell (World.block_lt_of_cell? w _ hx177_0)).trans hx177_0
          replace hx177_1 := (HB.out.cell (World.block_lt_of_cell? w _ hx177_1)).trans hx177_1
          replace hx177_2 := (HB.out.cell (World.block_lt_of_cell? w _ hx177_2)).trans hx177_2
          replace p177 := eq_true p177
          replace q177 := eq_true q177
          go_upto_region 8 with (first | ((with_reducible refine gate_dst (N := 7) rfl ?_); (try (refine gate_guard (by rfl) ?_; dsimp only)); refine box_event ?hg (N := 7) ?hd (cs := #[.int .i64 0, .int .i64 0, .int .i64 0]) (t := 45) ?hr ?_; (case hd => rfl); (case hg => rfl); (case hr => first | (go_simp; done) | (go_simp; rfl)); intro gb178 hg w15 hbox hb; have n0_ := Aside0.mk (Kd.R_below (by (with_reducible repeat (first | apply Kd.R_alloc | apply Kd.R_drewN | apply Kd.R_drew)); exact HO_5.out) hb); have n1_ := Aside0.mk (below_step (by repeat (first | (with_reducible first | exact HB.out | apply below_alloc | apply pw_below_drewN | apply below_drew1) | exact HB.out)) hb); have n2_ := Aside0.mk (hbox); have n3_ := Aside0.mk ((by rw [hg]; exact (below_size (by repeat (first | (with_reducible first | exact HB.out | apply below_alloc | apply pw_below_drewN | apply below_drew1) | exact HB.out))) : w.heap.size ≤ gb178)); have n4_ := Aside0.mk ((by rw [hg]; exact (below_size (by repeat (first | (with_reducible first | exact HB.out | apply below_alloc | apply pw_below_drewN | apply below_drew1) | exact HB.out))) : w.heap.size ≤ gb178)); clear HO_5; clear HB; have HO_5 := n0_; have HB := n1_; have BK178 := n2_; have GW178 := n3_; have GE178 := n4_; clear n0_ n1_ n2_ n3_ n4_; clear hb hbox hg; have hcz16_0 : w15.cell? ⟨gb178, 0, none⟩ = some (.int .i64 0) := (blk_cell BK178.out 0).trans rfl; have hcz16_1 : w15.cell? ⟨gb178, 1, none⟩ = some (.int .i64 0) := (blk_cell BK178.out 1).trans rfl; have hcz16_2 : w15.cell? ⟨gb178, 2, none⟩ = some (.int .i64 0) := (blk_cell BK178.out 2).trans rfl; have hfz16_0 := blk_frozen BK178.out 0; have hfz16_1 := blk_frozen BK178.out 1; have hfz16_2 := blk_frozen BK178.out 2))
          (try simp only [Act.put, List.setIfInBounds_toArray, List.set_cons_zero, List.set_cons_succ])
          go_cut [68] (fun v68 wc => ∃ (kq : Nat) (x68_13 : Bool), v68 = .bool x68_13 ∧ Aside0 (fastiref22_Right.j2 kq a0 l1 x5_2 x6_2 x68_13 ((rd_T45 l1 x6_2).f0) ((rd_T45 l1 x6_2).f1) ((rd_T45 l1 x6_2).f2) = some r) ∧ Aside0 (kq ≤ k2) ∧ Aside0 (Kd.R Kd.bool 4 wc w.heap.size (fun _ => True) v175 x5_2) ∧ Aside0 (wc.heap[gb178]? = some (.cells #[.int .i64 ((rd_T45 l1 x6_2).f0), .int .i64 ((rd_T45 l1 x6_2).f1), .int .i64 ((rd_T45 l1 x6_2).f2)] 45 (0, 0))) ∧ Aside0 (Below w.heap.size w wc))
          case first =>
           have H := HC14.out
           clear HC14
           by_cases c17 : ((rd_T45 l1 x6_2).f0) < 0
           ·rw [if_pos c17] at H
            have c17b0 : decide (((rd_T45 l1 x6_2).f0) < 0) = true := decide_eq_true c17
            clear c17
            (first | rw [c17b0] | (simp only [i64_w, i32_w]; rw [c17b0]) | skip)
            have H' := Aside0.mk H
            clear H
            have hcz18_0 : w15.cell? ⟨gb178, 0, none⟩ = some (.int .i64 0) := (blk_cell BK178.out 0).trans rfl
            have hcz18_1 : w15.cell? ⟨gb178, 1, none⟩ = some (.int .i64 0) := (blk_cell BK178.out 1).trans rfl
            have hcz18_2 : w15.cell? ⟨gb178, 2, none⟩ = some (.int .i64 0) := (blk_cell BK178.out 2).trans rfl
            have hfz18_0 := blk_frozen BK178.out 0
            have hfz18_1 := blk_frozen BK178.out 1
            have hfz18_2 := blk_frozen BK178.out 2
            go_wp2
            go_meet
            case rel => exact ⟨_, (true), (by first | rfl | (simp; done) | (simp [*]; done)), H', ⟨by have := HJ2.out; have := HK2.out; first | omega | exact Nat.le_refl _⟩, ⟨by (with_reducible repeat (first | apply Kd.R_alloc | apply Kd.R_drewN | apply Kd.R_drew)); exact Kd.R_mono (Kd.R_far (p := ⟨gb178, 2, none⟩) (Kd.R_far (p := ⟨gb178, 1, none⟩) (Kd.R_far (p := ⟨gb178, 0, none⟩) (Kd.R_types HO_5.out BK178.out (by decide)) (fun _ hk => hk.2) (.int .i64 ((rd_T45 l1 x6_2).f0))) (fun _ hk => hk.2) (.int .i64 ((rd_T45 l1 x6_2).f1))) (fun _ hk => hk.2) (.int .i64 ((rd_T45 l1 x6_2).f2))) (fun _ hk => trivial)⟩, ⟨by (with_reducible repeat (first | refine blk_drewN ?_ _ | refine blk_drew ?_ | refine blk_alloc ?_ _)); refine blk_put (cs := #[.int .i64 ((rd_T45 l1 x6_2).f0), .int .i64 ((rd_T45 l1 x6_2).f1), .int .i64 0]) ?_ 2 _ rfl; (with_reducible repeat (first | refine blk_drewN ?_ _ | refine blk_drew ?_ | refine blk_alloc ?_ _)); refine blk_put (cs := #[.int .i64 ((rd_T45 l1 x6_2).f0), .int .i64 0, .int .i64 0]) ?_ 1 _ rfl; (with_reducible repeat (first | refine blk_drewN ?_ _ | refine blk_drew ?_ | refine blk_alloc ?_ _)); refine blk_put (cs := #[.int .i64 0, .int .i64 0, .int .i64 0]) ?_ 0 _ rfl; (with_reducible repeat (first | refine blk_drewN ?_ _ | refine blk_drew ?_ | refine blk_alloc ?_ _)); exact BK178.out⟩, ⟨by repeat (first | (with_reducible first | exact HB.out | apply below_alloc | apply pw_below_drewN | apply below_drew1 | refine below_set ?_ GE178.out) | exact HB.out)⟩⟩
           ·rw [if_neg c17] at H
            have c17b0 : decide (((rd_T45 l1 x6_2).f0) < 0) = false := decide_eq_false c17
            clear c17
            (first | rw [c17b0] | (simp only [i64_w, i32_w]; rw [c17b0]) | skip)
            by_cases c19 : ((rd_T45 l1 x6_2).f0) > 63
            ·rw [if_pos c19] at H
             have c19b0 : decide (63 < ((rd_T45 l1 x6_2).f0)) = true := decide_eq_true c19
             clear c19
             have H' := Aside0.mk H
             clear H
             have hcz20_0 : w15.cell? ⟨gb178, 0, none⟩ = some (.int .i64 0) := (blk_cell BK178.out 0).trans rfl
             have hcz20_1 : w15.cell? ⟨gb178, 1, none⟩ = some (.int .i64 0) := (blk_cell BK178.out 1).trans rfl
             have hcz20_2 : w15.cell? ⟨gb178, 2, none⟩ = some (.int .i64 0) := (blk_cell BK178.out 2).trans rfl
             have hfz20_0 := blk_frozen BK178.out 0
             have hfz20_1 := blk_frozen BK178.out 1
             have hfz20_2 := blk_frozen BK178.out 2
             go_wp2
             go_meet
             case rel => exact ⟨_, (true), (by first | rfl | (simp; done) | (simp [*]; done)), H', ⟨by have := HJ2.out; have := HK2.out; first | omega | exact Nat.le_refl _⟩, ⟨by (with_reducible repeat (first | apply Kd.R_alloc | apply Kd.R_drewN | apply Kd.R_drew)); exact Kd.R_mono (Kd.R_far (p := ⟨gb178, 2, none⟩) (Kd.R_far (p := ⟨gb178, 1, none⟩) (Kd.R_far (p := ⟨gb178, 0, none⟩) (Kd.R_types HO_5.out BK178.out (by decide)) (fun _ hk => hk.2) (.int .i64 ((rd_T45 l1 x6_2).f0))) (fun _ hk => hk.2) (.int .i64 ((rd_T45 l1 x6_2).f1))) (fun _ hk => hk.2) (.int .i64 ((rd_T45 l1 x6_2).f2))) (fun _ hk => trivial)⟩, ⟨by (with_reducible repeat (first | refine blk_drewN ?_ _ | refine blk_drew ?_ | refine blk_alloc ?_ _)); refine blk_put (cs := #[.int .i64 ((rd_T45 l1 x6_2).f0), .int .i64 ((rd_T45 l1 x6_2).f1), .int .i64 0]) ?_ 2 _ rfl; (with_reducible repeat (first | refine blk_drewN ?_ _ | refine blk_drew ?_ | refine blk_alloc ?_ _)); refine blk_put (cs := #[.int .i64 ((rd_T45 l1 x6_2).f0), .int .i64 0, .int .i64 0]) ?_ 1 _ rfl; (with_reducible repeat (first | refine blk_drewN ?_ _ | refine blk_drew ?_ | refine blk_alloc ?_ _)); refine blk_put (cs := #[.int .i64 0, .int .i64 0, .int .i64 0]) ?_ 0 _ rfl; (with_reducible repeat (first | refine blk_drewN ?_ _ | refine blk_drew ?_ | refine blk_alloc ?_ _)); exact BK178.out⟩, ⟨by repeat (first | (with_reducible first | exact HB.out | apply below_alloc | apply pw_below_drewN | apply below_drew1 | refine below_set ?_ GE178.out) | exact HB.out)⟩⟩
            ·rw [if_neg c19] at H
             have c19b0 : decide (63 < ((rd_T45 l1 x6_2).f0)) = false := decide_eq_false c19
             clear c19
             by_cases c21 : ((rd_T45 l1 x6_2).f1) < 0
             ·rw [if_pos c21] at H
              have c21b0 : decide (((rd_T45 l1 x6_2).f1) < 0) = true := decide_eq_true c21
              clear c21
              have H' := Aside0.mk H
              clear H
              have hcz22_0 : w15.cell? ⟨gb178, 0, none⟩ = some (.int .i64 0) := (blk_cell BK178.out 0).trans rfl
              have hcz22_1 : w15.cell? ⟨gb178, 1, none⟩ = some (.int .i64 0) := (blk_cell BK178.out 1).trans rfl
              have hcz22_2 : w15.cell? ⟨gb178, 2, none⟩ = some (.int .i64 0) := (blk_cell BK178.out 2).trans rfl
              have hfz22_0 := blk_frozen BK178.out 0
              have hfz22_1 := blk_frozen BK178.out 1
              have hfz22_2 := blk_frozen BK178.out 2
              go_wp2
              go_meet
              case rel => exact ⟨_, (true), (by first | rfl | (simp; done) | (simp [*]; done)), H', ⟨by have := HJ2.out; have := HK2.out; first | omega | exact Nat.le_refl _⟩, ⟨by (with_reducible repeat (first | apply Kd.R_alloc | apply Kd.R_drewN | apply Kd.R_drew)); exact Kd.R_mono (Kd.R_far (p := ⟨gb178, 2, none⟩) (Kd.R_far (p := ⟨gb178, 1, none⟩) (Kd.R_far (p := ⟨gb178, 0, none⟩) (Kd.R_types HO_5.out BK178.out (by decide)) (fun _ hk => hk.2) (.int .i64 ((rd_T45 l1 x6_2).f0))) (fun _ hk => hk.2) (.int .i64 ((rd_T45 l1 x6_2).f1))) (fun _ hk => hk.2) (.int .i64 ((rd_T45 l1 x6_2).f2))) (fun _ hk => trivial)⟩, ⟨by (with_reducible repeat (first | refine blk_drewN ?_ _ | refine blk_drew ?_ | refine blk_alloc ?_ _)); refine blk_put (cs := #[.int .i64 ((rd_T45 l1 x6_2).f0), .int .i64 ((rd_T45 l1 x6_2).f1), .int .i64 0]) ?_ 2 _ rfl; (with_reducible repeat (first | refine blk_drewN ?_ _ | refine blk_drew ?_ | refine blk_alloc ?_ _)); refine blk_put (cs := #[.int .i64 ((rd_T45 l1 x6_2).f0), .int .i64 0, .int .i64 0]) ?_ 1 _ rfl; (with_reducible repeat (first | refine blk_drewN ?_ _ | refine blk_drew ?_ | refine blk_alloc ?_ _)); refine blk_put (cs := #[.int .i64 0, .int .i64 0, .int .i64 0]) ?_ 0 _ rfl; (with_reducible repeat (first | refine blk_drewN ?_ _ | refine blk_drew ?_ | refine blk_alloc ?_ _)); exact BK178.out⟩, ⟨by repeat (first | (with_reducible first | exact HB.out | apply below_alloc | apply pw_below_drewN | apply below_drew1 | refine below_set ?_ GE178.out) | exact HB.out)⟩⟩
             ·rw [if_neg c21] at H
              have c21b0 : decide (((rd_T45 l1 x6_2).f1) < 0) = false := decide_eq_false c21
              clear c21
              by_cases c23 : ((rd_T45 l1 x6_2).f1) ≥ a0
              ·rw [if_pos c23] at H
               have c23b0 : decide (a0 ≤ ((rd_T45 l1 x6_2).f1)) = true := decide_eq_true c23
               clear c23
               have H' := Aside0.mk H
               clear H
               have hcz24_0 : w15.cell? ⟨gb178, 0, none⟩ = some (.int .i64 0) := (blk_cell BK178.out 0).trans rfl
               have hcz24_1 : w15.cell? ⟨gb178, 1, none⟩ = some (.int .i64 0) := (blk_cell BK178.out 1).trans rfl
               have hcz24_2 : w15.cell? ⟨gb178, 2, none⟩ = some (.int .i64 0) := (blk_cell BK178.out 2).trans rfl
               have hfz24_0 := blk_frozen BK178.out 0
               have hfz24_1 := blk_frozen BK178.out 1
               have hfz24_2 := blk_frozen BK178.out 2
               go_wp2
               go_meet
               case rel => exact ⟨_, (true), (by first | rfl | (simp; done) | (simp [*]; done)), H', ⟨by have := HJ2.out; have := HK2.out; first | omega | exact Nat.le_refl _⟩, ⟨by (with_reducible repeat (first | apply Kd.R_alloc | apply Kd.R_drewN | apply Kd.R_drew)); exact Kd.R_mono (Kd.R_far (p := ⟨gb178, 2, none⟩) (Kd.R_far (p := ⟨gb178, 1, none⟩) (Kd.R_far (p := ⟨gb178, 0, none⟩) (Kd.R_types HO_5.out BK178.out (by decide)) (fun _ hk => hk.2) (.int .i64 ((rd_T45 l1 x6_2).f0))) (fun _ hk => hk.2) (.int .i64 ((rd_T45 l1 x6_2).f1))) (fun _ hk => hk.2) (.int .i64 ((rd_T45 l1 x6_2).f2))) (fun _ hk => trivial)⟩, ⟨by (with_reducible repeat (first | refine blk_drewN ?_ _ | refine blk_drew ?_ | refine blk_alloc ?_ _)); refine blk_put (cs := #[.int .i64 ((rd_T45 l1 x6_2).f0), .int .i64 ((rd_T45 l1 x6_2).f1), .int .i64 0]) ?_ 2 _ rfl; (with_reducible repeat (first | refine blk_drewN ?_ _ | refine blk_drew ?_ | refine blk_alloc ?_ _)); refine blk_put (cs := #[.int .i64 ((rd_T45 l1 x6_2).f0), .int .i64 0, .int .i64 0]) ?_ 1 _ rfl; (with_reducible repeat (first | refine blk_drewN ?_ _ | refine blk_drew ?_ | refine blk_alloc ?_ _)); refine blk_put (cs := #[.int .i64 0, .int .i64 0, .int .i64 0]) ?_ 0 _ rfl; (with_reducible repeat (first | refine blk_drewN ?_ _ | refine blk_drew ?_ | refine blk_alloc ?_ _)); exact BK178.out⟩, ⟨by repeat (first | (with_reducible first | exact HB.out | apply below_alloc | apply pw_below_drewN | apply below_drew1 | refine below_set ?_ GE178.out) | exact HB.out)⟩⟩
              ·rw [if_neg c23] at H
               have c23b0 : decide (a0 ≤ ((rd_T45 l1 x6_2).f1)) = false := decide_eq_false c23
               clear c23
               by_cases c25 : ((rd_T45 l1 x6_2).f2) < 0
               ·rw [if_pos c25] at H
                have c25b0 : decide (((rd_T45 l1 x6_2).f2) < 0) = true := decide_eq_true c25
                clear c25
                have H' := Aside0.mk H
                clear H
                have hcz26_0 : w15.cell? ⟨gb178, 0, none⟩ = some (.int .i64 0) := (blk_cell BK178.out 0).trans rfl
                have hcz26_1 : w15.cell? ⟨gb178, 1, none⟩ = some (.int .i64 0) := (blk_cell BK178.out 1).trans rfl
                have hcz26_2 : w15.cell? ⟨gb178, 2, none⟩ = some (.int .i64 0) := (blk_cell BK178.out 2).trans rfl
                have hfz26_0 := blk_frozen BK178.out 0
                have hfz26_1 := blk_frozen BK178.out 1
                have hfz26_2 := blk_frozen BK178.out 2
                go_wp2
                go_meet
                case rel => exact ⟨_, (true), (by first | rfl | (simp; done) | (simp [*]; done)), H', ⟨by have := HJ2.out; have := HK2.out; first | omega | exact Nat.le_refl _⟩, ⟨by (with_reducible repeat (first | apply Kd.R_alloc | apply Kd.R_drewN | apply Kd.R_drew)); exact Kd.R_mono (Kd.R_far (p := ⟨gb178, 2, none⟩) (Kd.R_far (p := ⟨gb178, 1, none⟩) (Kd.R_far (p := ⟨gb178, 0, none⟩) (Kd.R_types HO_5.out BK178.out (by decide)) (fun _ hk => hk.2) (.int .i64 ((rd_T45 l1 x6_2).f0))) (fun _ hk => hk.2) (.int .i64 ((rd_T45 l1 x6_2).f1))) (fun _ hk => hk.2) (.int .i64 ((rd_T45 l1 x6_2).f2))) (fun _ hk => trivial)⟩, ⟨by (with_reducible repeat (first | refine blk_drewN ?_ _ | refine blk_drew ?_ | refine blk_alloc ?_ _)); refine blk_put (cs := #[.int .i64 ((rd_T45 l1 x6_2).f0), .int .i64 ((rd_T45 l1 x6_2).f1), .int .i64 0]) ?_ 2 _ rfl; (with_reducible repeat (first | refine blk_drewN ?_ _ | refine blk_drew ?_ | refine blk_alloc ?_ _)); refine blk_put (cs := #[.int .i64 ((rd_T45 l1 x6_2).f0), .int .i64 0, .int .i64 0]) ?_ 1 _ rfl; (with_reducible repeat (first | refine blk_drewN ?_ _ | refine blk_drew ?_ | refine blk_alloc ?_ _)); refine blk_put (cs := #[.int .i64 0, .int .i64 0, .int .i64 0]) ?_ 0 _ rfl; (with_reducible repeat (first | refine blk_drewN ?_ _ | refine blk_drew ?_ | refine blk_alloc ?_ _)); exact BK178.out⟩, ⟨by repeat (first | (with_reducible first | exact HB.out | apply below_alloc | apply pw_below_drewN | apply below_drew1 | refine below_set ?_ GE178.out) | exact HB.out)⟩⟩
               ·rw [if_neg c25] at H
                have c25b0 : decide (((rd_T45 l1 x6_2).f2) < 0) = false := decide_eq_false c25
                clear c25
                by_cases c27 : ((rd_T45 l1 x6_2).f2) ≥ a0
                ·rw [if_pos c27] at H
                 have c27b0 : decide (a0 ≤ ((rd_T45 l1 x6_2).f2)) = true := decide_eq_true c27
                 clear c27
                 have H' := Aside0.mk H
                 clear H
                 have hcz28_0 : w15.cell? ⟨gb178, 0, none⟩ = some (.int .i64 0) := (blk_cell BK178.out 0).trans rfl
                 have hcz28_1 : w15.cell? ⟨gb178, 1, none⟩ = some (.int .i64 0) := (blk_cell BK178.out 1).trans rfl
                 have hcz28_2 : w15.cell? ⟨gb178, 2, none⟩ = some (.int .i64 0) := (blk_cell BK178.out 2).trans rfl
                 have hfz28_0 := blk_frozen BK178.out 0
                 have hfz28_1 := blk_frozen BK178.out 1
                 have hfz28_2 := blk_frozen BK178.out 2
                 go_wp2
                 go_meet
                 case rel => exact ⟨_, (true), (by first | rfl | (simp; done) | (simp [*]; done)), H', ⟨by have := HJ2.out; have := HK2.out; first | omega | exact Nat.le_refl _⟩, ⟨by (with_reducible repeat (first | apply Kd.R_alloc | apply Kd.R_drewN | apply Kd.R_drew)); exact Kd.R_mono (Kd.R_far (p := ⟨gb178, 2, none⟩) (Kd.R_far (p := ⟨gb178, 1, none⟩) (Kd.R_far (p := ⟨gb178, 0, none⟩) (Kd.R_types HO_5.out BK178.out (by decide)) (fun _ hk => hk.2) (.int .i64 ((rd_T45 l1 x6_2).f0))) (fun _ hk => hk.2) (.int .i64 ((rd_T45 l1 x6_2).f1))) (fun _ hk => hk.2) (.int .i64 ((rd_T45 l1 x6_2).f2))) (fun _ hk => trivial)⟩, ⟨by (with_reducible repeat (first | refine blk_drewN ?_ _ | refine blk_drew ?_ | refine blk_alloc ?_ _)); refine blk_put (cs := #[.int .i64 ((rd_T45 l1 x6_2).f0), .int .i64 ((rd_T45 l1 x6_2).f1), .int .i64 0]) ?_ 2 _ rfl; (with_reducible repeat (first | refine blk_drewN ?_ _ | refine blk_drew ?_ | refine blk_alloc ?_ _)); refine blk_put (cs := #[.int .i64 ((rd_T45 l1 x6_2).f0), .int .i64 0, .int .i64 0]) ?_ 1 _ rfl; (with_reducible repeat (first | refine blk_drewN ?_ _ | refine blk_drew ?_ | refine blk_alloc ?_ _)); refine blk_put (cs := #[.int .i64 0, .int .i64 0, .int .i64 0]) ?_ 0 _ rfl; (with_reducible repeat (first | refine blk_drewN ?_ _ | refine blk_drew ?_ | refine blk_alloc ?_ _)); exact BK178.out⟩, ⟨by repeat (first | (with_reducible first | exact HB.out | apply below_alloc | apply pw_below_drewN | apply below_drew1 | refine below_set ?_ GE178.out) | exact HB.out)⟩⟩
                ·rw [if_neg c27] at H
                 have c27b0 : decide (a0 ≤ ((rd_T45 l1 x6_2).f2)) = false := decide_eq_false c27
                 clear c27
                 have H' := Aside0.mk H
                 clear H
                 have hcz29_0 : w15.cell? ⟨gb178, 0, none⟩ = some (.int .i64 0) := (blk_cell BK178.out 0).trans rfl
                 have hcz29_1 : w15.cell? ⟨gb178, 1, none⟩ = some (.int .i64 0) := (blk_cell BK178.out 1).trans rfl
                 have hcz29_2 : w15.cell? ⟨gb178, 2, none⟩ = some (.int .i64 0) := (blk_cell BK178.out 2).trans rfl
                 have hfz29_0 := blk_frozen BK178.out 0
                 have hfz29_1 := blk_frozen BK178.out 1
                 have hfz29_2 := blk_frozen BK178.out 2
                 go_wp2
                 go_meet
                 case rel => exact ⟨_, ((((rd_T45 l1 x6_2).f1) == ((rd_T45 l1 x6_2).f2))), (by first | rfl | (simp; done) | (simp [*]; done)), H', ⟨by have := HJ2.out; have := HK2.out; first | omega | exact Nat.le_refl _⟩, ⟨by (with_reducible repeat (first | apply Kd.R_alloc | apply Kd.R_drewN | apply Kd.R_drew)); exact Kd.R_mono (Kd.R_far (p := ⟨gb178, 2, none⟩) (Kd.R_far (p := ⟨gb178, 1, none⟩) (Kd.R_far (p := ⟨gb178, 0, none⟩) (Kd.R_types HO_5.out BK178.out (by decide)) (fun _ hk => hk.2) (.int .i64 ((rd_T45 l1 x6_2).f0))) (fun _ hk => hk.2) (.int .i64 ((rd_T45 l1 x6_2).f1))) (fun _ hk => hk.2) (.int .i64 ((rd_T45 l1 x6_2).f2))) (fun _ hk => trivial)⟩, ⟨by (with_reducible repeat (first | refine blk_drewN ?_ _ | refine blk_drew ?_ | refine blk_alloc ?_ _)); refine blk_put (cs := #[.int .i64 ((rd_T45 l1 x6_2).f0), .int .i64 ((rd_T45 l1 x6_2).f1), .int .i64 0]) ?_ 2 _ rfl; (with_reducible repeat (first | refine blk_drewN ?_ _ | refine blk_drew ?_ | refine blk_alloc ?_ _)); refine blk_put (cs := #[.int .i64 ((rd_T45 l1 x6_2).f0), .int .i64 0, .int .i64 0]) ?_ 1 _ rfl; (with_reducible repeat (first | refine blk_drewN ?_ _ | refine blk_drew ?_ | refine blk_alloc ?_ _)); refine blk_put (cs := #[.int .i64 0, .int .i64 0, .int .i64 0]) ?_ 0 _ rfl; (with_reducible repeat (first | refine blk_drewN ?_ _ | refine blk_drew ?_ | refine blk_alloc ?_ _)); exact BK178.out⟩, ⟨by repeat (first | (with_reducible first | exact HB.out | apply below_alloc | apply pw_below_drewN | apply below_drew1 | refine below_set ?_ GE178.out) | exact HB.out)⟩⟩
          case rest =>
           clear HC14
           try clear c1
           try clear p1
           try clear q1
           try clear hx1
           try clear c2
           try clear p2
           try clear c4
           try clear c4b0
           try clear c5
           try clear c5b0
           try clear c6
           try clear p6
           try clear c8
           try clear c8b0
           try clear c8b1
           try clear c9
           try clear c9b0
           try clear c9b1
           try clear c12
           try clear c12b0
           try clear c13
           try clear c13b0
           try clear c17
           try clear c17b0
           try clear p17
           try clear q17
           try clear hx17
           try clear c19
           try clear c19b0
           try clear c21
           try clear c21b0
           try clear c23
           try clear c23b0
           try clear c25
           try clear c25b0
           try clear c27
           try clear c27b0
           try clear hcz16_0
           try clear hcz16_1
           try clear hcz16_2
           try clear hcz18_0
           try clear hcz18_1
           try clear hcz18_2
           try clear hcz20_0
           try clear hcz20_1
           try clear hcz20_2
           try clear hcz22_0
           try clear hcz22_1
           try clear hcz22_2
           try clear hcz24_0
           try clear hcz24_1
           try clear hcz24_2
           try clear hcz26_0
           try clear hcz26_1
           try clear hcz26_2
           try clear hcz28_0
           try clear hcz28_1
           try clear hcz28_2
           try clear hcz29_0
           try clear hcz29_1
           try clear hcz29_2
           try clear hfz16_0
           try clear hfz16_1
           try clear hfz16_2
           try clear hfz18_0
           try clear hfz18_1
           try clear hfz18_2
           try clear hfz20_0
           try clear hfz20_1
           try clear hfz20_2
           try clear hfz22_0
           try clear hfz22_1
           try clear hfz22_2
           try clear hfz24_0
           try clear hfz24_1
           try clear hfz24_2
           try clear hfz26_0
           try clear hfz26_1
           try clear hfz26_2
           try clear hfz28_0
           try clear hfz28_1
           try clear hfz28_2
           try clear hfz29_0
           try clear hfz29_1
           try clear hfz29_2
           try clear hx177_0
           try clear hx177_1
           try clear hx177_2
           try clear p177
           try clear p2
           try clear p6
           try clear q177
           obtain ⟨kq, x68_13, rfl, HA, HJ13, HO_5, BK178, HB⟩ := hcut
           cases kq with
           | zero => exact absurd HA.out (by simp [fastiref22_Right.j2])
           | succ kj13 =>
            have H := HA.out
            clear HA
            simp only [fastiref22_Right.j2] at H
            by_cases c30 : x68_13 = true
            ·subst c30
             have H1 : (some false) = some r := by rw [if_pos rfl] at H; exact H
             clear H
             have H := H1
             clear H1
             obtain rfl := Option.some.inj H
             go_wp2
             go_ret
             exact ⟨by first | rfl | (simp [errW_none, errW_some] <;> rfl) | (simp only [← hji7]; first | rfl | (simp [errW_none, errW_some] <;> rfl)) | (simp [*, errW_none, errW_some] <;> rfl), by repeat (first | (with_reducible first | exact HB.out | apply below_alloc | apply pw_below_drewN | apply below_drew1 | refine below_set ?_ GE178.out) | exact HB.out)⟩
            ·replace c30 := Bool.eq_false_iff.mpr c30
             subst c30
             have H1 : (if 0 ≤ (wrap64 ((wrap64 (((rd_T45 l1 x6_2).f0) * a0)) + ((rd_T45 l1 x6_2).f1))) then (if (wrap64 ((wrap64 (((rd_T45 l1 x6_2).f0) * a0)) + ((rd_T45 l1 x6_2).f1))) < (x5_2.length : Int) then (if rdOf false x5_2 (wrap64 ((wrap64 (((rd_T45 l1 x6_2).f0) * a0)) + ((rd_T45 l1 x6_2).f1))) = true then (some false) else (if 0 ≤ (wrap64 ((wrap64 (((rd_T45 l1 x6_2).f0) * a0)) + ((rd_T45 l1 x6_2).f2))) then (if (wrap64 ((wrap64 (((rd_T45 l1 x6_2).f0) * a0)) + ((rd_T45 l1 x6_2).f2))) < (x5_2.length : Int) then (if rdOf false x5_2 (wrap64 ((wrap64 (((rd_T45 l1 x6_2).f0) * a0)) + ((rd_T45 l1 x6_2).f2))) = true then (some false) else (fastiref22_Right.l0 kj13 a0 l1 ((x5_2.set ((wrap64 ((wrap64 (((rd_T45 l1 x6_2).f0) * a0)) + ((rd_T45 l1 x6_2).f1))) : Int).toNat true).set ((wrap64 ((wrap64 (((rd_T45 l1 x6_2).f0) * a0)) + ((rd_T45 l1 x6_2).f2))) : Int).toNat true) (wrap64 (x6_2 + 1)))) else (none)) else (none))) else (none)) else (none)) = some r := by rw [if_neg (show ¬ (false = true) by decide)] at H; exact H
             clear H
             have H := H1
             clear H1
             obtain ⟨ji31, hji31⟩ : ∃ j_ : Int, (wrap64 ((wrap64 (((rd_T45 l1 x6_2).f0) * a0)) + ((rd_T45 l1 x6_2).f1))) = j_ := ⟨_, rfl⟩
             replace H : (if 0 ≤ (ji31) then (if (ji31) < (x5_2.length : Int) then (if rdOf false x5_2 (ji31) = true then (some false) else (if 0 ≤ (wrap64 ((wrap64 (((rd_T45 l1 x6_2).f0) * a0)) + ((rd_T45 l1 x6_2).f2))) then (if (wrap64 ((wrap64 (((rd_T45 l1 x6_2).f0) * a0)) + ((rd_T45 l1 x6_2).f2))) < (x5_2.length : Int) then (if rdOf false x5_2 (wrap64 ((wrap64 (((rd_T45 l1 x6_2).f0) * a0)) + ((rd_T45 l1 x6_2).f2))) = true then (some false) else (fastiref22_Right.l0 kj13 a0 l1 ((x5_2.set ((ji31) : Int).toNat true).set ((wrap64 ((wrap64 (((rd_T45 l1 x6_2).f0) * a0)) + ((rd_T45 l1 x6_2).f2))) : Int).toNat true) (wrap64 (x6_2 + 1)))) else (none)) else (none))) else (none)) else (none)) = some r := by first | (rw [hji31] at H; exact H) | (simp only [hji31] at H ⊢; exact H)
             have hji31w : (IntKind.i64.wrap ((wrap64 (((rd_T45 l1 x6_2).f0) * a0)) + ((rd_T45 l1 x6_2).f1))) = ji31 := (i64_w _).trans hji31
             by_cases c32 : 0 ≤ (ji31)
             ·rw [if_pos c32] at H
              have c32b0 : decide (0 ≤ (ji31)) = true := decide_eq_true c32
              clear c32
              by_cases c33 : (ji31) < (x5_2.length : Int)
              ·rw [if_pos c33] at H
               have c33b0 : decide ((ji31) < (x5_2.length : Int)) = true := decide_eq_true c33
               clear c33
               obtain ⟨bq34, hbq34⟩ : ∃ b_ : Bool, b_ = (rdOf false x5_2 (ji31)) := ⟨_, rfl⟩
               replace H : (if bq34 = true then (some false) else (if 0 ≤ (wrap64 ((wrap64 (((rd_T45 l1 x6_2).f0) * a0)) + ((rd_T45 l1 x6_2).f2))) then (if (wrap64 ((wrap64 (((rd_T45 l1 x6_2).f0) * a0)) + ((rd_T45 l1 x6_2).f2))) < (x5_2.length : Int) then (if rdOf false x5_2 (wrap64 ((wrap64 (((rd_T45 l1 x6_2).f0) * a0)) + ((rd_T45 l1 x6_2).f2))) = true then (some false) else (fastiref22_Right.l0 kj13 a0 l1 ((x5_2.set ((ji31) : Int).toNat true).set ((wrap64 ((wrap64 (((rd_T45 l1 x6_2).f0) * a0)) + ((rd_T45 l1 x6_2).f2))) : Int).toNat true) (wrap64 (x6_2 + 1)))) else (none)) else (none))) = some r := by rw [← hbq34] at H; exact H
               have Nbq34 := Aside0.mk hbq34
               clear hbq34
               by_cases c35 : bq34 = true
               ·subst c35
                have H1 : (some false) = some r := by rw [if_pos rfl] at H; exact H
                clear H
                have H := H1
                clear H1
                obtain rfl := Option.some.inj H
                have hcz36_0 : wc.cell? ⟨gb178, 0, none⟩ = some (.int .i64 ((rd_T45 l1 x6_2).f0)) := (blk_cell BK178.out 0).trans rfl
                have hcz36_1 : wc.cell? ⟨gb178, 1, none⟩ = some (.int .i64 ((rd_T45 l1 x6_2).f1)) := (blk_cell BK178.out 1).trans rfl
                have hcz36_2 : wc.cell? ⟨gb178, 2, none⟩ = some (.int .i64 ((rd_T45 l1 x6_2).f2)) := (blk_cell BK178.out 2).trans rfl
                have hfz36_0 := blk_frozen BK178.out 0
                have hfz36_1 := blk_frozen BK178.out 1
                have hfz36_2 := blk_frozen BK178.out 2
                obtain ⟨Ao37, co37, eo37⟩ := Kd.R_slice HO_5.out
                subst eo37
                have p179 : 0 ≤ ((ji31) : Int) := of_decide_eq_true (by first | (with_reducible assumption) | assumption)
                have q179 : (ji31) < (x5_2.length : Int) := of_decide_eq_true (by first | (with_reducible assumption) | assumption)
                obtain ⟨ad179, e179, hx179_0⟩ := Kd.at_bool (Kd.R_reads' HO_5.out).2.2 (ji31) p179 q179
                (try rw [← Nbq34.out] at hx179_0)
                cases e179
                replace p179 := eq_true p179
                replace q179 := eq_true q179
                go_wp2
                go_ret
                exact ⟨by first | rfl | (simp [errW_none, errW_some] <;> rfl) | (simp only [← hji7, ← hji31]; first | rfl | (simp [errW_none, errW_some] <;> rfl)) | (simp [*, errW_none, errW_some] <;> rfl), by repeat (first | (with_reducible first | exact HB.out | apply below_alloc | apply pw_below_drewN | apply below_drew1 | refine below_set ?_ GE178.out) | exact HB.out)⟩
               ·replace c35 := Bool.eq_false_iff.mpr c35
                subst c35
                have H1 : (if 0 ≤ (wrap64 ((wrap64 (((rd_T45 l1 x6_2).f0) * a0)) + ((rd_T45 l1 x6_2).f2))) then (if (wrap64 ((wrap64 (((rd_T45 l1 x6_2).f0) * a0)) + ((rd_T45 l1 x6_2).f2))) < (x5_2.length : Int) then (if rdOf false x5_2 (wrap64 ((wrap64 (((rd_T45 l1 x6_2).f0) * a0)) + ((rd_T45 l1 x6_2).f2))) = true then (some false) else (fastiref22_Right.l0 kj13 a0 l1 ((x5_2.set ((ji31) : Int).toNat true).set ((wrap64 ((wrap64 (((rd_T45 l1 x6_2).f0) * a0)) + ((rd_T45 l1 x6_2).f2))) : Int).toNat true) (wrap64 (x6_2 + 1)))) else (none)) else (none)) = some r := by rw [if_neg (show ¬ (false = true) by decide)] at H; exact H
                clear H
                have H := H1
                clear H1
                obtain ⟨ji38, hji38⟩ : ∃ j_ : Int, (wrap64 ((wrap64 (((rd_T45 l1 x6_2).f0) * a0)) + ((rd_T45 l1 x6_2).f2))) = j_ := ⟨_, rfl⟩
                replace H : (if 0 ≤ (ji38) then (if (ji38) < (x5_2.length : Int) then (if rdOf false x5_2 (ji38) = true then (some false) else (fastiref22_Right.l0 kj13 a0 l1 ((x5_2.set ((ji31) : Int).toNat true).set ((ji38) : Int).toNat true) (wrap64 (x6_2 + 1)))) else (none)) else (none)) = some r := by first | (rw [hji38] at H; exact H) | (simp only [hji38] at H ⊢; exact H)
                have hji38w : (IntKind.i64.wrap ((wrap64 (((rd_T45 l1 x6_2).f0) * a0)) + ((rd_T45 l1 x6_2).f2))) = ji38 := (i64_w _).trans hji38
                by_cases c39 : 0 ≤ (ji38)
                ·rw [if_pos c39] at H
                 have c39b0 : decide (0 ≤ (ji38)) = true := decide_eq_true c39
                 clear c39
                 by_cases c40 : (ji38) < (x5_2.length : Int)
                 ·rw [if_pos c40] at H
                  have c40b0 : decide ((ji38) < (x5_2.length : Int)) = true := decide_eq_true c40
                  clear c40
                  obtain ⟨bq41, hbq41⟩ : ∃ b_ : Bool, b_ = (rdOf false x5_2 (ji38)) := ⟨_, rfl⟩
                  replace H : (if bq41 = true then (some false) else (fastiref22_Right.l0 kj13 a0 l1 ((x5_2.set ((ji31) : Int).toNat true).set ((ji38) : Int).toNat true) (wrap64 (x6_2 + 1)))) = some r := by rw [← hbq41] at H; exact H
                  have Nbq41 := Aside0.mk hbq41
                  clear hbq41
                  by_cases c42 : bq41 = true
                  ·subst c42
                   have H1 : (some false) = some r := by rw [if_pos rfl] at H; exact H
                   clear H
                   have H := H1
                   clear H1
                   obtain rfl := Option.some.inj H
                   have hcz43_0 : wc.cell? ⟨gb178, 0, none⟩ = some (.int .i64 ((rd_T45 l1 x6_2).f0)) := (blk_cell BK178.out 0).trans rfl
                   have hcz43_1 : wc.cell? ⟨gb178, 1, none⟩ = some (.int .i64 ((rd_T45 l1 x6_2).f1)) := (blk_cell BK178.out 1).trans rfl
                   have hcz43_2 : wc.cell? ⟨gb178, 2, none⟩ = some (.int .i64 ((rd_T45 l1 x6_2).f2)) := (blk_cell BK178.out 2).trans rfl
                   have hfz43_0 := blk_frozen BK178.out 0
                   have hfz43_1 := blk_frozen BK178.out 1
                   have hfz43_2 := blk_frozen BK178.out 2
                   obtain ⟨Ao44, co44, eo44⟩ := Kd.R_slice HO_5.out
                   subst eo44
                   have p179 : 0 ≤ ((ji31) : Int) := of_decide_eq_true (by first | (with_reducible assumption) | assumption)
                   have q179 : (ji31) < (x5_2.length : Int) := of_decide_eq_true (by first | (with_reducible assumption) | assumption)
                   obtain ⟨ad179, e179, hx179_0⟩ := Kd.at_bool (Kd.R_reads' HO_5.out).2.2 (ji31) p179 q179
                   (try rw [← Nbq34.out] at hx179_0)
                   (try rw [← Nbq41.out] at hx179_0)
                   cases e179
                   replace p179 := eq_true p179
                   replace q179 := eq_true q179
                   have p180 : 0 ≤ ((ji38) : Int) := of_decide_eq_true (by first | (with_reducible assumption) | assumption)
                   have q180 : (ji38) < (x5_2.length : Int) := of_decide_eq_true (by first | (with_reducible assumption) | assumption)
                   obtain ⟨ad180, e180, hx180_0⟩ := Kd.at_bool (Kd.R_reads' HO_5.out).2.2 (ji38) p180 q180
                   (try rw [← Nbq34.out] at hx180_0)
                   (try rw [← Nbq41.out] at hx180_0)
                   obtain rfl : ad179 = ad180 := (by injection e180)
                   replace p180 := eq_true p180
                   replace q180 := eq_true q180
                   go_wp2
                   go_ret
                   exact ⟨by first | rfl | (simp [errW_none, errW_some] <;> rfl) | (simp only [← hji7, ← hji31, ← hji38]; first | rfl | (simp [errW_none, errW_some] <;> rfl)) | (simp [*, errW_none, errW_some] <;> rfl), by repeat (first | (with_reducible first | exact HB.out | apply below_alloc | apply pw_below_drewN | apply below_drew1 | refine below_set ?_ GE178.out) | exact HB.out)⟩
                  ·replace c42 := Bool.eq_false_iff.mpr c42
                   subst c42
                   have H1 : (fastiref22_Right.l0 kj13 a0 l1 ((x5_2.set ((ji31) : Int).toNat true).set ((ji38) : Int).toNat true) (wrap64 (x6_2 + 1))) = some r := by rw [if_neg (show ¬ (false = true) by decide)] at H; exact H
                   clear H
                   have H := H1
                   clear H1
                   obtain ⟨y181, hy181⟩ : ∃ y_ : List Bool, y_ = (x5_2.set ((ji31) : Int).toNat true) := ⟨_, rfl⟩
                   replace H : (fastiref22_Right.l0 kj13 a0 l1 (y181.set ((ji38) : Int).toNat true) (wrap64 (x6_2 + 1))) = some r := by first | (rw [hy181]; with_reducible exact H) | (have H2_ := (Option.bind_some _ _).symm.trans H; rw [hy181]; with_reducible exact H2_) | (have H2_ := (Option.bind_some _ _).symm.trans H; with_reducible exact H2_) | with_reducible exact H | (rw [hy181]; exact H) | exact H
                   have Ny181 := Aside0.mk hy181
                   clear hy181
                   obtain ⟨y182, hy182⟩ : ∃ y_ : List Bool, y_ = (y181.set ((ji38) : Int).toNat true) := ⟨_, rfl⟩
                   replace H : (fastiref22_Right.l0 kj13 a0 l1 y182 (wrap64 (x6_2 + 1))) = some r := by first | (rw [hy182]; with_reducible exact H) | (have H2_ := (Option.bind_some _ _).symm.trans H; rw [hy182]; with_reducible exact H2_) | (have H2_ := (Option.bind_some _ _).symm.trans H; with_reducible exact H2_) | with_reducible exact H | (rw [hy182]; exact H) | exact H
                   have Ny182 := Aside0.mk hy182
                   clear hy182
                   have H' := Aside0.mk H
                   clear H
                   have hcz47_0 : wc.cell? ⟨gb178, 0, none⟩ = some (.int .i64 ((rd_T45 l1 x6_2).f0)) := (blk_cell BK178.out 0).trans rfl
                   have hcz47_1 : wc.cell? ⟨gb178, 1, none⟩ = some (.int .i64 ((rd_T45 l1 x6_2).f1)) := (blk_cell BK178.out 1).trans rfl
                   have hcz47_2 : wc.cell? ⟨gb178, 2, none⟩ = some (.int .i64 ((rd_T45 l1 x6_2).f2)) := (blk_cell BK178.out 2).trans rfl
                   have hfz47_0 := blk_frozen BK178.out 0
                   have hfz47_1 := blk_frozen BK178.out 1
                   have hfz47_2 := blk_frozen BK178.out 2
                   obtain ⟨Ao48, co48, eo48⟩ := Kd.R_slice HO_5.out
                   subst eo48
                   have p179 : 0 ≤ ((ji31) : Int) := of_decide_eq_true (by first | (with_reducible assumption) | assumption)
                   have q179 : (ji31) < (x5_2.length : Int) := of_decide_eq_true (by first | (with_reducible assumption) | assumption)
                   obtain ⟨ad179, e179, hx179_0⟩ := Kd.at_bool (Kd.R_reads' HO_5.out).2.2 (ji31) p179 q179
                   (try rw [← Nbq34.out] at hx179_0)
                   (try rw [← Nbq41.out] at hx179_0)
                   cases e179
                   replace p179 := eq_true p179
                   replace q179 := eq_true q179
                   have p180 : 0 ≤ ((ji38) : Int) := of_decide_eq_true (by first | (with_reducible assumption) | assumption)
                   have q180 : (ji38) < (x5_2.length : Int) := of_decide_eq_true (by first | (with_reducible assumption) | assumption)
                   obtain ⟨ad180, e180, hx180_0⟩ := Kd.at_bool (Kd.R_reads' HO_5.out).2.2 (ji38) p180 q180
                   (try rw [← Nbq34.out] at hx180_0)
                   (try rw [← Nbq41.out] at hx180_0)
                   obtain rfl : ad179 = ad180 := (by injection e180)
                   replace p180 := eq_true p180
                   replace q180 := eq_true q180
                   have p45 : 0 ≤ ((ji31) : Int) := of_decide_eq_true (by first | (with_reducible assumption) | assumption)
                   have q45 : ((ji31) : Int) < ((x5_2.length : Int) : Int) := of_decide_eq_true (by first | (with_reducible assumption) | assumption)
                   obtain ⟨go45, co45, eo45, gb45, gl45, cl45, HG45⟩ := Kd.R_form HO_5.out (by omega)
                   (first | cases eo45 | (injection eo45 with ea_ en_ ec_; (first | subst ea_ | (injection ea_ with ea_; subst ea_)); subst ec_; clear en_))
                   have GB45 := Aside0.mk gb45
                   have GG45 := Aside0.mk HG45
                   clear gb45 gl45 HG45
                   (first | simp only [add_plain] at hx179_0 | skip)
                   (first | simp only [add_plain] at hx180_0 | skip)
                   obtain ⟨hx45_0, hf45_0⟩ := Kd.R_celln false HO_5.out ((ji31) : Int) p45 q45
                   replace p45 := eq_true p45
                   replace q45 := eq_true q45
                   have HP49 := Kd.R_putg HO_5.out ((ji31) : Int) true
                   go_wp2_with (first | ((with_reducible refine gate_store (t := 4) (p := 99) rfl ?_); refine store_event (t := 4) (p := 99) (v := ?vo_w50) (w1 := (wc.setCell ⟨go45, ((ji31) : Int).toNat, none⟩ (.bool true))) ?hg ?ho ?hn ?hr ?_; (case ho => rfl); (case hg => rfl); (case hn => rfl); (case hr => first | (go_simp; done) | (go_simp; rfl)); intro w50 hw; have hg : wc.grownBy w50 (some go45) := (by rw [hw]; exact HP49.2); have hp_ : Kd.R Kd.bool 4 w50 w.heap.size (fun _ => True) (.slice (some ⟨go45, 0, none⟩) x5_2.length co48) y181 := (by rw [hw, Ny181.out]; exact HP49.1); clear HP49; have n0_ := Aside0.mk (hp_); have n1_ := Aside0.mk (blk_grown (g := gb178) (o := .cells #[.int .i64 ((rd_T45 l1 x6_2).f0), .int .i64 ((rd_T45 l1 x6_2).f1), .int .i64 ((rd_T45 l1 x6_2).f2)] 45 (0, 0)) (by (with_reducible repeat (first | refine blk_drewN ?_ _ | refine blk_drew ?_ | refine blk_alloc ?_ _)); exact BK178.out) hg (Kd.R_ne HO_5.out BK178.out (by decide))); have n2_ := Aside0.mk ((by rw [hw]; exact below_set (HB.out) GB45.out : Below w.heap.size w w50)); clear HO_5; clear BK178; clear HB; have HO_5 := n0_; have BK178 := n1_; have HB := n2_; clear n0_ n1_ n2_; clear hg hw hp_; have hcz51_0 : w50.cell? ⟨gb178, 0, none⟩ = some (.int .i64 ((rd_T45 l1 x6_2).f0)) := (blk_cell BK178.out 0).trans rfl; have hcz51_1 : w50.cell? ⟨gb178, 1, none⟩ = some (.int .i64 ((rd_T45 l1 x6_2).f1)) := (blk_cell BK178.out 1).trans rfl; have hcz51_2 : w50.cell? ⟨gb178, 2, none⟩ = some (.int .i64 ((rd_T45 l1 x6_2).f2)) := (blk_cell BK178.out 2).trans rfl; have hfz51_0 := blk_frozen BK178.out 0; have hfz51_1 := blk_frozen BK178.out 1; have hfz51_2 := blk_frozen BK178.out 2; have p46 : 0 ≤ ((ji38) : Int) := of_decide_eq_true (by first | (with_reducible assumption) | assumption); have q46 : ((ji38) : Int) < ((x5_2.length : Int) : Int) := of_decide_eq_true (by first | (with_reducible assumption) | assumption); obtain ⟨hx46_0, hf46_0⟩ := Kd.R_celln false HO_5.out ((ji38) : Int) p46 q46; replace p46 := eq_true p46; replace q46 := eq_true q46; obtain ⟨hy52_, hz52_⟩ := Kd.R_celln false HO_5.out ((ji38) : Int) (of_decide_eq_true (by first | (with_reducible assumption) | assumption)) (of_decide_eq_true (by first | (with_reducible assumption) | assumption)); have HP52 := Kd.R_putg HO_5.out ((ji38) : Int) true) | ((with_reducible refine gate_store (t := 4) (p := 108) rfl ?_); refine store_event (t := 4) (p := 108) (v := ?vo_w53) (w1 := (w50.setCell ⟨go45, ((ji38) : Int).toNat, none⟩ (.bool true))) ?hg ?ho ?hn ?hr ?_; (case ho => rfl); (case hg => rfl); (case hn => rfl); (case hr => first | (go_simp; done) | (go_simp; rfl)); intro w53 hw; have hg : w50.grownBy w53 (some go45) := (by rw [hw]; exact HP52.2); have hp_ : Kd.R Kd.bool 4 w53 w.heap.size (fun _ => True) (.slice (some ⟨go45, 0, none⟩) x5_2.length co48) y182 := (by rw [hw, Ny182.out]; exact HP52.1); clear HP52; have n0_ := Aside0.mk (hp_); have n1_ := Aside0.mk (blk_grown (g := gb178) (o := .cells #[.int .i64 ((rd_T45 l1 x6_2).f0), .int .i64 ((rd_T45 l1 x6_2).f1), .int .i64 ((rd_T45 l1 x6_2).f2)] 45 (0, 0)) (by (with_reducible repeat (first | refine blk_drewN ?_ _ | refine blk_drew ?_ | refine blk_alloc ?_ _)); exact BK178.out) hg (Kd.R_ne HO_5.out BK178.out (by decide))); have n2_ := Aside0.mk ((by rw [hw]; exact below_set (HB.out) GB45.out : Below w.heap.size w w53)); clear HO_5; clear BK178; clear HB; have HO_5 := n0_; have BK178 := n1_; have HB := n2_; clear n0_ n1_ n2_; clear hg hw hp_))
                   go_roundg kj13
                   case measure => have := HJ2.out; have := HK2.out; have := HJ13.out; omega
                   case rel => exact ⟨(y182), (wrap64 (x6_2 + 1)), (by first | rfl | (simp; done) | (simp [*]; done)), H', ⟨by have := HJ2.out; have := HK2.out; have := HJ13.out; omega⟩, ⟨by (with_reducible repeat (first | apply Kd.R_alloc | apply Kd.R_drewN | apply Kd.R_drew)); exact HO_5.out⟩, ⟨by repeat (first | (with_reducible first | exact HB.out | apply below_alloc | apply pw_below_drewN | apply below_drew1 | refine below_set ?_ GE178.out) | exact HB.out)⟩⟩
                 ·rw [if_neg c40] at H
                  exact absurd H (by simp)
                ·rw [if_neg c39] at H
                 exact absurd H (by simp)
              ·rw [if_neg c33] at H
               exact absurd H (by simp)
             ·rw [if_neg c32] at H
              exact absurd H (by simp)
         ·rw [if_neg c13] at H
          exact absurd H (by simp)
        ·rw [if_neg c12] at H
         have c12b0 : decide (x6_2 < (l1.length : Int)) = false := decide_eq_false c12
         clear c12
         obtain rfl := Option.some.inj H
         go_wp2
         go_ret
         exact ⟨by first | rfl | (simp [errW_none, errW_some] <;> rfl) | (simp only [← hji7]; first | rfl | (simp [errW_none, errW_some] <;> rfl)) | (simp [*, errW_none, errW_some] <;> rfl), by repeat (first | (with_reducible first | exact HB.out | apply below_alloc | apply pw_below_drewN | apply below_drew1) | exact HB.out)⟩
     ·rw [if_neg c9] at H
      exact absurd H (by simp)
    ·rw [if_neg c8] at H
     exact absurd H (by simp)
end Go.Proofs.Ytcjpghiceebkfaa.P
