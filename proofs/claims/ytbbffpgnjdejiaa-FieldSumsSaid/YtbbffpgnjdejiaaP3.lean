-- written by wip/tools/gprint.py, a driver of this session's over the kit's print, out of the translation: Lean checks it.
import Derived.Test.YtbbffpgnjdejiaaP0
import Derived.Test.YtbbffpgnjdejiaaP1
import Derived.Test.YtbbffpgnjdejiaaP2
import Derived.Test.YtbbffpgnjdejiaaGAt
import Derived.Test.YtbbffpgnjdejiaaGInv
namespace Go.Proofs.Ytbbffpgnjdejiaa.P
open Go.RowKit Go.Proofs.YtbbffpgnjdejiaaW.PrintWords Go.Proofs.YtbbffpgnjdejiaaW.PrintLast Go.Proofs.YtbbffpgnjdejiaaW.PrintMore
attribute [local go_sem] max2_int min2_int max_two min_two max_three min_three max_four min_four   -- for this text's walks alone
set_option linter.unusedVariables false
set_option linter.unusedSimpArgs false

/-! ### field_Value: function 21 -/
def field_Value.l0 : Nat → Int → Int → Int → List Int → Int → Int → Option (Int)
  | 0, _, _, _, _, _, _ => none
  | k + 1, x1, x4, x5, x8, x9, x10 => if x10 < x9 then (if 0 ≤ x10 then (if x10 < (x8.length : Int) then ((field_Mul.f (rd x8 x10) x5).bind fun t110 => ((field_sum.f k (([x4, t110] : List Int))).bind fun t114 => ((field_Mul.f x5 x1).bind fun t115 => (field_Value.l0 k x1 t114 t115 x8 x9 (wrap64 (x10 + 1)))))) else (none)) else (none)) else (some x4)
def field_Value.f (k : Nat) (l0 : List Int) (a1 : Int) : Option (Int) := field_Value.l0 k a1 0 1 l0 (l0.length : Int) 0
theorem field_Value.mono_l : ∀ k, (∀ y0 y1 y2 y3 y4 y5, LeO (field_Value.l0 k y0 y1 y2 y3 y4 y5) (field_Value.l0 (k + 1) y0 y1 y2 y3 y4 y5))
  | 0 => fun _ _ _ _ _ _ r h => by simp [field_Value.l0] at h
  | k + 1 => by
    have ih0 := field_Value.mono_l k
    · intro y0 y1 y2 y3 y4 y5
      unfold field_Value.l0
      repeat' first
      | (with_reducible exact ih0 _ _ _ _ _ _)
      | (with_reducible exact field_sum.mono _ _)
      | (with_reducible exact LeO.refl _)
      | (with_reducible exact LeO.none _)
      | (with_reducible refine LeO.ite ?_ ?_)
      | (with_reducible refine LeO.bind ?_ (fun _ => ?_))
      | exact ih0 _ _ _ _ _ _
      | exact field_sum.mono _ _
      | exact LeO.none _
      | refine LeO.ite ?_ ?_
      | refine LeO.bind ?_ (fun _ => ?_)
theorem field_Value.mono : ∀ a0 a1 k, LeO (field_Value.f k a0 a1) (field_Value.f (k + 1) a0 a1) := by
  intro a0 a1 k
  have ih0 := field_Value.mono_l k
  unfold field_Value.f
  repeat' first
      | (with_reducible exact ih0 _ _ _ _ _ _)
      | (with_reducible exact field_sum.mono _ _)
      | (with_reducible exact LeO.refl _)
      | (with_reducible exact LeO.none _)
      | (with_reducible refine LeO.ite ?_ ?_)
      | (with_reducible refine LeO.bind ?_ (fun _ => ?_))
      | exact ih0 _ _ _ _ _ _
      | exact field_sum.mono _ _
      | exact LeO.none _
      | refine LeO.ite ?_ ?_
      | refine LeO.bind ?_ (fun _ => ?_)
set_option maxHeartbeats 8000000 in
set_option maxRecDepth 100000 in
theorem field_Value.calls (k : Nat) (A0 : Option Addr) (c0 : Nat) (l0 : List Int) (a1 : Int) (r : Int) (w : World) (hr0 : Kd.C (Kd.int .i64) w A0 l0.length l0) (hc0 : l0.length ≤ c0) (h : field_Value.f k l0 a1 = some r) :
    Calls Try.prog 21 #[.slice A0 l0.length c0, .int .i64 a1] w fun e w' => e = .returned (.int .i64 r) ∧ Below w.heap.size w w' := by
  have HR0 := Aside0.mk hr0
  have HC0 := Aside0.mk hc0
  clear hr0 hc0
  have HB := Aside0.mk (Below.refl w.heap.size w)
  have H : (field_Value.l0 k a1 0 1 l0 (l0.length : Int) 0) = some r := h
  clear h
  have H' := Aside0.mk H
  clear H
  go_enter Try.func21, Try.ntmps21
  go_wp2
  go_loopg [4, 5, 10] k (fun kq v4 v5 v10 w' => ∃ (x4_1 : Int) (x5_1 : Int) (x10_1 : Int), v4 = .int .i64 x4_1 ∧ v5 = .int .i64 x5_1 ∧ v10 = .int .i64 x10_1 ∧ Aside0 (field_Value.l0 kq a1 x4_1 x5_1 l0 (l0.length : Int) x10_1 = some r) ∧ Aside0 (kq ≤ k) ∧ Aside0 (Below w.heap.size w w'))
  case atStart => exact ⟨(0), (1), (0), (by first | rfl | (simp; done) | (simp [*]; done)), (by first | rfl | (simp; done) | (simp [*]; done)), (by first | rfl | (simp; done) | (simp [*]; done)), H', ⟨Nat.le_refl _⟩, ⟨by repeat (first | (with_reducible first | exact HB.out | apply below_alloc | apply pw_below_drewN | apply below_drew1) | exact HB.out)⟩⟩
  case round =>
    clear H'
    try clear c2
    try clear p2
    obtain ⟨x4_1, x5_1, x10_1, rfl, rfl, rfl, HA, HK1, HB⟩ := hrel
    cases gk with
    | zero => exact absurd HA.out (by simp [field_Value.l0])
    | succ k1 =>
      have H := HA.out
      clear HA
      simp only [field_Value.l0] at H
      by_cases c3 : x10_1 < (l0.length : Int)
      · rw [if_pos c3] at H
        have c3b0 : decide (x10_1 < (l0.length : Int)) = true := decide_eq_true c3
        clear c3
        by_cases c4 : 0 ≤ x10_1
        · rw [if_pos c4] at H
          have c4b0 : decide (0 ≤ x10_1) = true := decide_eq_true c4
          clear c4
          by_cases c5 : x10_1 < (l0.length : Int)
          · rw [if_pos c5] at H
            have c5b0 : decide (x10_1 < (l0.length : Int)) = true := decide_eq_true c5
            clear c5
            replace H := Option.bind_eq_some_iff.mp H
            obtain ⟨t110, A60, H⟩ := H
            replace H : ((field_sum.f k1 (([x4_1, t110] : List Int))).bind fun t114 => ((field_Mul.f x5_1 a1).bind fun t115 => (field_Value.l0 k1 a1 t114 t115 l0 (l0.length : Int) (wrap64 (x10_1 + 1))))) = some r := H
            have A6 := Aside0.mk A60
            clear A60
            obtain ⟨y111, hy111⟩ : ∃ y_ : List Int, y_ = (([x4_1, t110] : List Int)) := ⟨_, rfl⟩
            replace H : ((field_sum.f k1 y111).bind fun t114 => ((field_Mul.f x5_1 a1).bind fun t115 => (field_Value.l0 k1 a1 t114 t115 l0 (l0.length : Int) (wrap64 (x10_1 + 1))))) = some r := by first | (rw [hy111]; with_reducible exact H) | (have H2_ := (Option.bind_some _ _).symm.trans H; rw [hy111]; with_reducible exact H2_) | (have H2_ := (Option.bind_some _ _).symm.trans H; with_reducible exact H2_) | with_reducible exact H | (rw [hy111]; exact H) | exact H
            have Ny111 := Aside0.mk hy111
            clear hy111
            replace H := Option.bind_eq_some_iff.mp H
            obtain ⟨t114, A70, H⟩ := H
            replace H : ((field_Mul.f x5_1 a1).bind fun t115 => (field_Value.l0 k1 a1 t114 t115 l0 (l0.length : Int) (wrap64 (x10_1 + 1)))) = some r := H
            have A7 := Aside0.mk A70
            clear A70
            replace H := Option.bind_eq_some_iff.mp H
            obtain ⟨t115, A80, H⟩ := H
            replace H : (field_Value.l0 k1 a1 t114 t115 l0 (l0.length : Int) (wrap64 (x10_1 + 1))) = some r := H
            have A8 := Aside0.mk A80
            clear A80
            have H' := Aside0.mk H
            clear H
            have p109 : 0 ≤ (x10_1 : Int) := of_decide_eq_true (by first | (with_reducible assumption) | assumption)
            have q109 : x10_1 < (l0.length : Int) := of_decide_eq_true (by first | (with_reducible assumption) | assumption)
            obtain ⟨ad109, e109, hx109_0⟩ := Kd.at_int HR0.out x10_1 p109 q109
            cases e109
            replace hx109_0 := (HB.out.cell (World.block_lt_of_cell? w _ hx109_0)).trans hx109_0
            replace p109 := eq_true p109
            replace q109 := eq_true q109
            go_wp2_with (first | ((with_reducible refine gate_callee (f := 16) rfl ?_); refine goesL_ (some 17) rfl rfl Try.func16 (by kernel_rfl) rfl #[.int .i64 (rd l0 x10_1), .int .i64 x5_1] rfl (by (try simp only [List.map_toArray, List.map_cons, List.map_nil]); first | done | rfl | (simp only [List.length_drop, List.length_take]; rfl)) ?_; (with_reducible refine (field_Mul.calls (rd l0 x10_1) x5_1 t110 _ A6.out).mono ?_); rintro e w' ⟨rfl, ⟨nd, rfl⟩⟩; refine ⟨_, rfl, ?_⟩) | ((with_reducible refine gate_dst (N := 18) rfl ?_); refine Kd.R_lit (Kd.int .i64) _ 3 ?hg (N := 18) ?hd (xs := ([x4_1, t110] : List Int)) (inner := [.int .i64 x4_1, .int .i64 t110]) (ok := fun _ => True) (okp := fun _ => True) ?hr ?hp (fun _ hk => hk) trivial (Below.refl _ _) (Nat.le_refl _) (by simp) ?_; (case hd => rfl); (case hg => rfl); (case hr => first | (go_simp; done) | (go_simp; rfl)); (case hp => exact (Reps.one (show Kd.M (Kd.int .i64) _ _ _ x4_1 [.int .i64 x4_1] from rfl) (Reps.one (show Kd.M (Kd.int .i64) _ _ _ t110 [.int .i64 t110] from rfl) (Reps.none _ _)))); intro v112 w9 ho10 hb hg_ hnew_; clear hg_ hnew_; (first | rw [← Ny111.out] at ho10 | (simp only [Int.reduceToNat] at ho10; rw [← Ny111.out] at ho10)); have n0_ := Aside0.mk (Kd.R_lower ho10 (below_size (by repeat (first | (with_reducible first | exact HB.out | apply below_alloc | apply pw_below_drewN | apply below_drew1) | exact HB.out)))); have n1_ := Aside0.mk (below_step (by repeat (first | (with_reducible first | exact HB.out | apply below_alloc | apply pw_below_drewN | apply below_drew1) | exact HB.out)) hb); clear HB; have HO113 := n0_; have HB := n1_; clear n0_ n1_; clear hb ho10; obtain ⟨Ao11, co11, eo11⟩ := Kd.R_slice HO113.out; subst eo11) | ((with_reducible refine gate_callee (f := 26) rfl ?_); refine goesL_ (some 19) rfl rfl Try.func26 (by kernel_rfl) rfl #[.slice Ao11 y111.length co11] rfl (by (try simp only [List.map_toArray, List.map_cons, List.map_nil]); first | done | rfl | (simp only [List.length_drop, List.length_take]; rfl)) ?_; (with_reducible refine (field_sum.calls k1 _ _ y111 t114 _ ?side1 ?side2 A7.out).mono ?_); (case side1 => repeat (first | exact (Kd.R_reads' HO113.out).2.2 | (with_reducible refine Kd.C_alloc ?_ _) | (with_reducible refine Kd.C_drewN ?_ _) | (with_reducible refine Kd.C_drew ?_))); (case side2 => exact (Kd.R_reads' HO113.out).2.1); rintro e w' ⟨rfl, ⟨nd, rfl⟩⟩; refine ⟨_, rfl, ?_⟩) | ((with_reducible refine gate_callee (f := 16) rfl ?_); refine goesL_ (some 22) rfl rfl Try.func16 (by kernel_rfl) rfl #[.int .i64 x5_1, .int .i64 a1] rfl (by (try simp only [List.map_toArray, List.map_cons, List.map_nil]); first | done | rfl | (simp only [List.length_drop, List.length_take]; rfl)) ?_; (with_reducible refine (field_Mul.calls x5_1 a1 t115 _ A8.out).mono ?_); rintro e w' ⟨rfl, ⟨nd, rfl⟩⟩; refine ⟨_, rfl, ?_⟩))
            go_roundg k1
            case measure => have := HK1.out; omega
            case rel => exact ⟨(t114), (t115), (wrap64 (x10_1 + 1)), (by first | rfl | (simp; done) | (simp [*]; done)), (by first | rfl | (simp; done) | (simp [*]; done)), (by first | rfl | (simp; done) | (simp [*]; done)), H', ⟨by have := HK1.out; omega⟩, ⟨by repeat (first | (with_reducible first | exact HB.out | apply below_alloc | apply pw_below_drewN | apply below_drew1) | exact HB.out)⟩⟩
          · rw [if_neg c5] at H
            exact absurd H (by simp)
        · rw [if_neg c4] at H
          exact absurd H (by simp)
      · rw [if_neg c3] at H
        have c3b0 : decide (x10_1 < (l0.length : Int)) = false := decide_eq_false c3
        clear c3
        obtain rfl := Option.some.inj H
        go_wp2
        go_ret
        exact ⟨by first | rfl | (simp [errW_none, errW_some] <;> rfl) | (simp [*, errW_none, errW_some] <;> rfl), by repeat (first | (with_reducible first | exact HB.out | apply below_alloc | apply pw_below_drewN | apply below_drew1) | exact HB.out)⟩

/-! ### fastilaw09_sane: function 9 -/
def fastilaw09_sane.j0 : Nat → Int → Int → Int → Bool → Option (Bool)
  | 0, _, _, _, _ => none
  | k + 1, x5, x8, x10, x16 => if x16 = true then (if x5 = 536870895 then (if x8 = 1 then (if x10 = 0 then ((field_Mod.f (-1)).bind fun t139 => (if t139 = 1073741788 then ((field_Mul.f (-1) (-1)).bind fun t140 => (if t140 = 1 then ((field_Add.f k 1073741788 3).bind fun t141 => (if t141 = 2 then ((field_Value.f k (([1, 2, 3] : List Int)) 10).bind fun t145 => (if t145 = 321 then ((field_Value.f k ([] : List Int) 7).bind fun t146 => (some (t146 == 0))) else (some false))) else (some false))) else (some false))) else (some false))) else (some false)) else (some false)) else (some false)) else (some false)
def fastilaw09_sane.f (k : Nat)  : Option (Bool) := (field_Inverse.f 0).bind fun bt116 => ((field_Inverse.f 1073741789).bind fun bt118 => ((field_Inverse.f 2).bind fun bt120 => ((field_At.f (([(⟨1, 3⟩ : S38), (⟨2, 5⟩ : S38)] : List (S38))) 0).bind fun bt125 => ((field_At.f ([] : List (S38)) 7).bind fun bt127 => ((field_At.f (([(⟨1, 5⟩ : S38), (⟨(-1073741788), 5⟩ : S38)] : List (S38))) 0).bind fun bt132 => (if 65 ≤ 17592186044416 then ((field_At.f (List.replicate 65 z38) 0).bind fun bt137 => (if bt116.2 = 90 then (if bt118.2 = 90 then (if bt120.2 = 0 then (if bt125.2 = 0 then (if bt127.2 = 0 then (if bt132.2 = 90 then (fastilaw09_sane.j0 k bt120.1 bt125.1 bt127.1 (bt137.2 == 2)) else (fastilaw09_sane.j0 k bt120.1 bt125.1 bt127.1 false)) else (fastilaw09_sane.j0 k bt120.1 bt125.1 bt127.1 false)) else (fastilaw09_sane.j0 k bt120.1 bt125.1 bt127.1 false)) else (fastilaw09_sane.j0 k bt120.1 bt125.1 bt127.1 false)) else (fastilaw09_sane.j0 k bt120.1 bt125.1 bt127.1 false)) else (fastilaw09_sane.j0 k bt120.1 bt125.1 bt127.1 false))) else (none)))))))
theorem fastilaw09_sane.mono_l : ∀ k, (∀ y0 y1 y2 y3, LeO (fastilaw09_sane.j0 k y0 y1 y2 y3) (fastilaw09_sane.j0 (k + 1) y0 y1 y2 y3))
  | 0 => fun _ _ _ _ r h => by simp [fastilaw09_sane.j0] at h
  | k + 1 => by
    have ih0 := fastilaw09_sane.mono_l k
    · intro y0 y1 y2 y3
      unfold fastilaw09_sane.j0
      repeat' first
      | (with_reducible exact ih0 _ _ _ _)
      | (with_reducible exact field_Add.mono _ _ _)
      | (with_reducible exact field_Value.mono _ _ _)
      | (with_reducible exact LeO.refl _)
      | (with_reducible exact LeO.none _)
      | (with_reducible refine LeO.ite ?_ ?_)
      | (with_reducible refine LeO.bind ?_ (fun _ => ?_))
      | exact ih0 _ _ _ _
      | exact field_Add.mono _ _ _
      | exact field_Value.mono _ _ _
      | exact LeO.none _
      | refine LeO.ite ?_ ?_
      | refine LeO.bind ?_ (fun _ => ?_)
theorem fastilaw09_sane.mono : ∀ k, LeO (fastilaw09_sane.f k ) (fastilaw09_sane.f (k + 1) ) := by
  intro  k
  have ih0 := fastilaw09_sane.mono_l k
  unfold fastilaw09_sane.f
  repeat' first
      | (with_reducible exact ih0 _ _ _ _)
      | (with_reducible exact field_Add.mono _ _ _)
      | (with_reducible exact field_Value.mono _ _ _)
      | (with_reducible exact LeO.refl _)
      | (with_reducible exact LeO.none _)
      | (with_reducible refine LeO.ite ?_ ?_)
      | (with_reducible refine LeO.bind ?_ (fun _ => ?_))
      | exact ih0 _ _ _ _
      | exact field_Add.mono _ _ _
      | exact field_Value.mono _ _ _
      | exact LeO.none _
      | refine LeO.ite ?_ ?_
      | refine LeO.bind ?_ (fun _ => ?_)
set_option maxHeartbeats 8000000 in
set_option maxRecDepth 100000 in
theorem fastilaw09_sane.calls (k : Nat)  (r : Bool) (w : World) (h : fastilaw09_sane.f k  = some r) :
    Calls Try.prog 9 #[] w fun e w' => e = .returned (.bool r) ∧ Below w.heap.size w w' := by
  have hu38 := Try.underlying38
  have HB := Aside0.mk (Below.refl w.heap.size w)
  have H : ((field_Inverse.f 0).bind fun bt116 => ((field_Inverse.f 1073741789).bind fun bt118 => ((field_Inverse.f 2).bind fun bt120 => ((field_At.f (([(⟨1, 3⟩ : S38), (⟨2, 5⟩ : S38)] : List (S38))) 0).bind fun bt125 => ((field_At.f ([] : List (S38)) 7).bind fun bt127 => ((field_At.f (([(⟨1, 5⟩ : S38), (⟨(-1073741788), 5⟩ : S38)] : List (S38))) 0).bind fun bt132 => (if 65 ≤ 17592186044416 then ((field_At.f (List.replicate 65 z38) 0).bind fun bt137 => (if bt116.2 = 90 then (if bt118.2 = 90 then (if bt120.2 = 0 then (if bt125.2 = 0 then (if bt127.2 = 0 then (if bt132.2 = 90 then (fastilaw09_sane.j0 k bt120.1 bt125.1 bt127.1 (bt137.2 == 2)) else (fastilaw09_sane.j0 k bt120.1 bt125.1 bt127.1 false)) else (fastilaw09_sane.j0 k bt120.1 bt125.1 bt127.1 false)) else (fastilaw09_sane.j0 k bt120.1 bt125.1 bt127.1 false)) else (fastilaw09_sane.j0 k bt120.1 bt125.1 bt127.1 false)) else (fastilaw09_sane.j0 k bt120.1 bt125.1 bt127.1 false)) else (fastilaw09_sane.j0 k bt120.1 bt125.1 bt127.1 false))) else (none)))))))) = some r := h
  clear h
  replace H := Option.bind_eq_some_iff.mp H
  obtain ⟨⟨t116, t117⟩, A10, H⟩ := H
  replace H : ((field_Inverse.f 1073741789).bind fun bt118 => ((field_Inverse.f 2).bind fun bt120 => ((field_At.f (([(⟨1, 3⟩ : S38), (⟨2, 5⟩ : S38)] : List (S38))) 0).bind fun bt125 => ((field_At.f ([] : List (S38)) 7).bind fun bt127 => ((field_At.f (([(⟨1, 5⟩ : S38), (⟨(-1073741788), 5⟩ : S38)] : List (S38))) 0).bind fun bt132 => (if 65 ≤ 17592186044416 then ((field_At.f (List.replicate 65 z38) 0).bind fun bt137 => (if t117 = 90 then (if bt118.2 = 90 then (if bt120.2 = 0 then (if bt125.2 = 0 then (if bt127.2 = 0 then (if bt132.2 = 90 then (fastilaw09_sane.j0 k bt120.1 bt125.1 bt127.1 (bt137.2 == 2)) else (fastilaw09_sane.j0 k bt120.1 bt125.1 bt127.1 false)) else (fastilaw09_sane.j0 k bt120.1 bt125.1 bt127.1 false)) else (fastilaw09_sane.j0 k bt120.1 bt125.1 bt127.1 false)) else (fastilaw09_sane.j0 k bt120.1 bt125.1 bt127.1 false)) else (fastilaw09_sane.j0 k bt120.1 bt125.1 bt127.1 false)) else (fastilaw09_sane.j0 k bt120.1 bt125.1 bt127.1 false))) else (none))))))) = some r := H
  have A1 := Aside0.mk A10
  clear A10
  replace H := Option.bind_eq_some_iff.mp H
  obtain ⟨⟨t118, t119⟩, A20, H⟩ := H
  replace H : ((field_Inverse.f 2).bind fun bt120 => ((field_At.f (([(⟨1, 3⟩ : S38), (⟨2, 5⟩ : S38)] : List (S38))) 0).bind fun bt125 => ((field_At.f ([] : List (S38)) 7).bind fun bt127 => ((field_At.f (([(⟨1, 5⟩ : S38), (⟨(-1073741788), 5⟩ : S38)] : List (S38))) 0).bind fun bt132 => (if 65 ≤ 17592186044416 then ((field_At.f (List.replicate 65 z38) 0).bind fun bt137 => (if t117 = 90 then (if t119 = 90 then (if bt120.2 = 0 then (if bt125.2 = 0 then (if bt127.2 = 0 then (if bt132.2 = 90 then (fastilaw09_sane.j0 k bt120.1 bt125.1 bt127.1 (bt137.2 == 2)) else (fastilaw09_sane.j0 k bt120.1 bt125.1 bt127.1 false)) else (fastilaw09_sane.j0 k bt120.1 bt125.1 bt127.1 false)) else (fastilaw09_sane.j0 k bt120.1 bt125.1 bt127.1 false)) else (fastilaw09_sane.j0 k bt120.1 bt125.1 bt127.1 false)) else (fastilaw09_sane.j0 k bt120.1 bt125.1 bt127.1 false)) else (fastilaw09_sane.j0 k bt120.1 bt125.1 bt127.1 false))) else (none)))))) = some r := H
  have A2 := Aside0.mk A20
  clear A20
  replace H := Option.bind_eq_some_iff.mp H
  obtain ⟨⟨t120, t121⟩, A30, H⟩ := H
  replace H : ((field_At.f (([(⟨1, 3⟩ : S38), (⟨2, 5⟩ : S38)] : List (S38))) 0).bind fun bt125 => ((field_At.f ([] : List (S38)) 7).bind fun bt127 => ((field_At.f (([(⟨1, 5⟩ : S38), (⟨(-1073741788), 5⟩ : S38)] : List (S38))) 0).bind fun bt132 => (if 65 ≤ 17592186044416 then ((field_At.f (List.replicate 65 z38) 0).bind fun bt137 => (if t117 = 90 then (if t119 = 90 then (if t121 = 0 then (if bt125.2 = 0 then (if bt127.2 = 0 then (if bt132.2 = 90 then (fastilaw09_sane.j0 k t120 bt125.1 bt127.1 (bt137.2 == 2)) else (fastilaw09_sane.j0 k t120 bt125.1 bt127.1 false)) else (fastilaw09_sane.j0 k t120 bt125.1 bt127.1 false)) else (fastilaw09_sane.j0 k t120 bt125.1 bt127.1 false)) else (fastilaw09_sane.j0 k t120 bt125.1 bt127.1 false)) else (fastilaw09_sane.j0 k t120 bt125.1 bt127.1 false)) else (fastilaw09_sane.j0 k t120 bt125.1 bt127.1 false))) else (none))))) = some r := H
  have A3 := Aside0.mk A30
  clear A30
  obtain ⟨y122, hy122⟩ : ∃ y_ : List (S38), y_ = (([(⟨1, 3⟩ : S38), (⟨2, 5⟩ : S38)] : List (S38))) := ⟨_, rfl⟩
  replace H : ((field_At.f y122 0).bind fun bt125 => ((field_At.f ([] : List (S38)) 7).bind fun bt127 => ((field_At.f (([(⟨1, 5⟩ : S38), (⟨(-1073741788), 5⟩ : S38)] : List (S38))) 0).bind fun bt132 => (if 65 ≤ 17592186044416 then ((field_At.f (List.replicate 65 z38) 0).bind fun bt137 => (if t117 = 90 then (if t119 = 90 then (if t121 = 0 then (if bt125.2 = 0 then (if bt127.2 = 0 then (if bt132.2 = 90 then (fastilaw09_sane.j0 k t120 bt125.1 bt127.1 (bt137.2 == 2)) else (fastilaw09_sane.j0 k t120 bt125.1 bt127.1 false)) else (fastilaw09_sane.j0 k t120 bt125.1 bt127.1 false)) else (fastilaw09_sane.j0 k t120 bt125.1 bt127.1 false)) else (fastilaw09_sane.j0 k t120 bt125.1 bt127.1 false)) else (fastilaw09_sane.j0 k t120 bt125.1 bt127.1 false)) else (fastilaw09_sane.j0 k t120 bt125.1 bt127.1 false))) else (none))))) = some r := by first | (rw [hy122]; with_reducible exact H) | (have H2_ := (Option.bind_some _ _).symm.trans H; rw [hy122]; with_reducible exact H2_) | (have H2_ := (Option.bind_some _ _).symm.trans H; with_reducible exact H2_) | with_reducible exact H | (rw [hy122]; exact H) | exact H
  have Ny122 := Aside0.mk hy122
  clear hy122
  replace H := Option.bind_eq_some_iff.mp H
  obtain ⟨⟨t125, t126⟩, A40, H⟩ := H
  replace H : ((field_At.f ([] : List (S38)) 7).bind fun bt127 => ((field_At.f (([(⟨1, 5⟩ : S38), (⟨(-1073741788), 5⟩ : S38)] : List (S38))) 0).bind fun bt132 => (if 65 ≤ 17592186044416 then ((field_At.f (List.replicate 65 z38) 0).bind fun bt137 => (if t117 = 90 then (if t119 = 90 then (if t121 = 0 then (if t126 = 0 then (if bt127.2 = 0 then (if bt132.2 = 90 then (fastilaw09_sane.j0 k t120 t125 bt127.1 (bt137.2 == 2)) else (fastilaw09_sane.j0 k t120 t125 bt127.1 false)) else (fastilaw09_sane.j0 k t120 t125 bt127.1 false)) else (fastilaw09_sane.j0 k t120 t125 bt127.1 false)) else (fastilaw09_sane.j0 k t120 t125 bt127.1 false)) else (fastilaw09_sane.j0 k t120 t125 bt127.1 false)) else (fastilaw09_sane.j0 k t120 t125 bt127.1 false))) else (none)))) = some r := H
  have A4 := Aside0.mk A40
  clear A40
  replace H := Option.bind_eq_some_iff.mp H
  obtain ⟨⟨t127, t128⟩, A50, H⟩ := H
  replace H : ((field_At.f (([(⟨1, 5⟩ : S38), (⟨(-1073741788), 5⟩ : S38)] : List (S38))) 0).bind fun bt132 => (if 65 ≤ 17592186044416 then ((field_At.f (List.replicate 65 z38) 0).bind fun bt137 => (if t117 = 90 then (if t119 = 90 then (if t121 = 0 then (if t126 = 0 then (if t128 = 0 then (if bt132.2 = 90 then (fastilaw09_sane.j0 k t120 t125 t127 (bt137.2 == 2)) else (fastilaw09_sane.j0 k t120 t125 t127 false)) else (fastilaw09_sane.j0 k t120 t125 t127 false)) else (fastilaw09_sane.j0 k t120 t125 t127 false)) else (fastilaw09_sane.j0 k t120 t125 t127 false)) else (fastilaw09_sane.j0 k t120 t125 t127 false)) else (fastilaw09_sane.j0 k t120 t125 t127 false))) else (none))) = some r := H
  have A5 := Aside0.mk A50
  clear A50
  obtain ⟨y129, hy129⟩ : ∃ y_ : List (S38), y_ = (([(⟨1, 5⟩ : S38), (⟨(-1073741788), 5⟩ : S38)] : List (S38))) := ⟨_, rfl⟩
  replace H : ((field_At.f y129 0).bind fun bt132 => (if 65 ≤ 17592186044416 then ((field_At.f (List.replicate 65 z38) 0).bind fun bt137 => (if t117 = 90 then (if t119 = 90 then (if t121 = 0 then (if t126 = 0 then (if t128 = 0 then (if bt132.2 = 90 then (fastilaw09_sane.j0 k t120 t125 t127 (bt137.2 == 2)) else (fastilaw09_sane.j0 k t120 t125 t127 false)) else (fastilaw09_sane.j0 k t120 t125 t127 false)) else (fastilaw09_sane.j0 k t120 t125 t127 false)) else (fastilaw09_sane.j0 k t120 t125 t127 false)) else (fastilaw09_sane.j0 k t120 t125 t127 false)) else (fastilaw09_sane.j0 k t120 t125 t127 false))) else (none))) = some r := by first | (rw [hy129]; with_reducible exact H) | (have H2_ := (Option.bind_some _ _).symm.trans H; rw [hy129]; with_reducible exact H2_) | (have H2_ := (Option.bind_some _ _).symm.trans H; with_reducible exact H2_) | with_reducible exact H | (rw [hy129]; exact H) | exact H
  have Ny129 := Aside0.mk hy129
  clear hy129
  replace H := Option.bind_eq_some_iff.mp H
  obtain ⟨⟨t132, t133⟩, A60, H⟩ := H
  replace H : (if 65 ≤ 17592186044416 then ((field_At.f (List.replicate 65 z38) 0).bind fun bt137 => (if t117 = 90 then (if t119 = 90 then (if t121 = 0 then (if t126 = 0 then (if t128 = 0 then (if t133 = 90 then (fastilaw09_sane.j0 k t120 t125 t127 (bt137.2 == 2)) else (fastilaw09_sane.j0 k t120 t125 t127 false)) else (fastilaw09_sane.j0 k t120 t125 t127 false)) else (fastilaw09_sane.j0 k t120 t125 t127 false)) else (fastilaw09_sane.j0 k t120 t125 t127 false)) else (fastilaw09_sane.j0 k t120 t125 t127 false)) else (fastilaw09_sane.j0 k t120 t125 t127 false))) else (none)) = some r := H
  have A6 := Aside0.mk A60
  clear A60
  by_cases c7 : 65 ≤ 17592186044416
  · rw [if_pos c7] at H
    have c7b0 := eq_true c7
    have c7b1 : decide (65 ≤ 17592186044416) = true := decide_eq_true c7
    clear c7
    obtain ⟨y134, hy134⟩ : ∃ y_ : List (S38), y_ = (List.replicate 65 z38) := ⟨_, rfl⟩
    replace H : ((field_At.f y134 0).bind fun bt137 => (if t117 = 90 then (if t119 = 90 then (if t121 = 0 then (if t126 = 0 then (if t128 = 0 then (if t133 = 90 then (fastilaw09_sane.j0 k t120 t125 t127 (bt137.2 == 2)) else (fastilaw09_sane.j0 k t120 t125 t127 false)) else (fastilaw09_sane.j0 k t120 t125 t127 false)) else (fastilaw09_sane.j0 k t120 t125 t127 false)) else (fastilaw09_sane.j0 k t120 t125 t127 false)) else (fastilaw09_sane.j0 k t120 t125 t127 false)) else (fastilaw09_sane.j0 k t120 t125 t127 false))) = some r := by first | (rw [hy134]; with_reducible exact H) | (have H2_ := (Option.bind_some _ _).symm.trans H; rw [hy134]; with_reducible exact H2_) | (have H2_ := (Option.bind_some _ _).symm.trans H; with_reducible exact H2_) | with_reducible exact H | (rw [hy134]; exact H) | exact H
    have Ny134 := Aside0.mk hy134
    clear hy134
    replace H := Option.bind_eq_some_iff.mp H
    obtain ⟨⟨t137, t138⟩, A80, H⟩ := H
    replace H : (if t117 = 90 then (if t119 = 90 then (if t121 = 0 then (if t126 = 0 then (if t128 = 0 then (if t133 = 90 then (fastilaw09_sane.j0 k t120 t125 t127 (t138 == 2)) else (fastilaw09_sane.j0 k t120 t125 t127 false)) else (fastilaw09_sane.j0 k t120 t125 t127 false)) else (fastilaw09_sane.j0 k t120 t125 t127 false)) else (fastilaw09_sane.j0 k t120 t125 t127 false)) else (fastilaw09_sane.j0 k t120 t125 t127 false)) else (fastilaw09_sane.j0 k t120 t125 t127 false)) = some r := H
    have A8 := Aside0.mk A80
    clear A80
    have HC9 := Aside0.mk H
    clear H
    go_enter Try.func9, Try.ntmps9
    go_upto_region 9 with (first | ((with_reducible refine gate_callee (f := 10) rfl ?_); refine goesL_ (some 18) rfl rfl Try.func10 (by kernel_rfl) rfl #[.int .i64 0] rfl (by (try simp only [List.map_toArray, List.map_cons, List.map_nil]); first | done | rfl | (simp only [List.length_drop, List.length_take]; rfl)) ?_; (with_reducible refine (field_Inverse.calls 0 t116 t117 _ A1.out).mono ?_); rintro e w' ⟨rfl, ⟨nd, rfl⟩⟩; refine ⟨_, rfl, ?_⟩) | ((with_reducible refine gate_callee (f := 10) rfl ?_); refine goesL_ (some 22) rfl rfl Try.func10 (by kernel_rfl) rfl #[.int .i64 1073741789] rfl (by (try simp only [List.map_toArray, List.map_cons, List.map_nil]); first | done | rfl | (simp only [List.length_drop, List.length_take]; rfl)) ?_; (with_reducible refine (field_Inverse.calls 1073741789 t118 t119 _ A2.out).mono ?_); rintro e w' ⟨rfl, ⟨nd, rfl⟩⟩; refine ⟨_, rfl, ?_⟩) | ((with_reducible refine gate_callee (f := 10) rfl ?_); refine goesL_ (some 26) rfl rfl Try.func10 (by kernel_rfl) rfl #[.int .i64 2] rfl (by (try simp only [List.map_toArray, List.map_cons, List.map_nil]); first | done | rfl | (simp only [List.length_drop, List.length_take]; rfl)) ?_; (with_reducible refine (field_Inverse.calls 2 t120 t121 _ A3.out).mono ?_); rintro e w' ⟨rfl, ⟨nd, rfl⟩⟩; refine ⟨_, rfl, ?_⟩) | ((with_reducible refine gate_dst (N := 31) rfl ?_); (try (refine gate_guard (by rfl) ?_; dsimp only)); refine Kd.R_lit k38 _ 38 ?hg (N := 31) ?hd (xs := ([(⟨1, 3⟩ : S38), (⟨2, 5⟩ : S38)] : List (S38))) (inner := [.int .i64 1, .int .i64 3, .int .i64 2, .int .i64 5]) (ok := fun _ => True) (okp := fun _ => True) ?hr ?hp (fun _ hk => hk) trivial (Below.refl _ _) (Nat.le_refl _) (by simp) ?_; (case hd => rfl); (case hg => rfl); (case hr => first | (go_simp; done) | (go_simp; rfl)); (case hp => exact (Reps.c2 (show Kd.M k38 _ _ _ (⟨1, 3⟩ : S38) [.int .i64 1, .int .i64 3] from (k38_mkM _ _ _ (⟨1, 3⟩ : S38) )) (Reps.c2 (show Kd.M k38 _ _ _ (⟨2, 5⟩ : S38) [.int .i64 2, .int .i64 5] from (k38_mkM _ _ _ (⟨2, 5⟩ : S38) )) (Reps.none _ _)))); intro v123 w10 ho11 hb hg_ hnew_; clear hg_ hnew_; (first | rw [← Ny122.out] at ho11 | (simp only [Int.reduceToNat] at ho11; rw [← Ny122.out] at ho11)); have n0_ := Aside0.mk (Kd.R_lower ho11 (below_size (by repeat (first | (with_reducible first | exact HB.out | apply below_alloc | apply pw_below_drewN | apply below_drew1) | exact HB.out)))); have n1_ := Aside0.mk (below_step (by repeat (first | (with_reducible first | exact HB.out | apply below_alloc | apply pw_below_drewN | apply below_drew1) | exact HB.out)) hb); clear HB; have HO124 := n0_; have HB := n1_; clear n0_ n1_; clear hb ho11; obtain ⟨Ao12, co12, eo12⟩ := Kd.R_slice HO124.out; subst eo12) | ((with_reducible refine gate_callee (f := 19) rfl ?_); refine goesL_ (some 34) rfl rfl Try.func19 (by kernel_rfl) rfl #[.slice Ao12 y122.length co12, .int .i64 0] rfl (by (try simp only [List.map_toArray, List.map_cons, List.map_nil]); first | done | rfl | (simp only [List.length_drop, List.length_take]; rfl)) ?_; (with_reducible refine (field_At.calls _ _ y122 0 t125 t126 _ ?side1 ?side2 A4.out).mono ?_); (case side1 => repeat (first | exact (Kd.R_reads' HO124.out).2.2 | (with_reducible refine Kd.C_alloc ?_ _) | (with_reducible refine Kd.C_drewN ?_ _) | (with_reducible refine Kd.C_drew ?_))); (case side2 => exact (Kd.R_reads' HO124.out).2.1); rintro e w13 ⟨rfl, hb⟩; refine ⟨_, rfl, ?_⟩; have n0_ := Aside0.mk (Kd.R_below (by (with_reducible repeat (first | apply Kd.R_alloc | apply Kd.R_drewN | apply Kd.R_drew)); exact HO124.out) hb); have n1_ := Aside0.mk (below_step (by repeat (first | (with_reducible first | exact HB.out | apply below_alloc | apply pw_below_drewN | apply below_drew1) | exact HB.out)) hb); clear HO124; clear HB; have HO124 := n0_; have HB := n1_; clear n0_ n1_; (try clear hb); (try clear hb2); (try clear hk); (try clear hi)) | ((with_reducible refine gate_callee (f := 19) rfl ?_); refine goesL_ (some 38) rfl rfl Try.func19 (by kernel_rfl) rfl #[.slice none 0 0, .int .i64 7] rfl (by (try simp only [List.map_toArray, List.map_cons, List.map_nil]); first | done | rfl | (simp only [List.length_drop, List.length_take]; rfl)) ?_; (refine (field_At.calls _ _ ([] : List (S38)) 7 t127 t128 _ ?side1 ?side2 A5.out).mono ?_); (case side1 => exact Kd.C_nil _ _); (case side2 => exact Nat.le_refl _); rintro e w14 ⟨rfl, hb⟩; refine ⟨_, rfl, ?_⟩; have n0_ := Aside0.mk (Kd.R_below (by (with_reducible repeat (first | apply Kd.R_alloc | apply Kd.R_drewN | apply Kd.R_drew)); exact HO124.out) hb); have n1_ := Aside0.mk (below_step (by repeat (first | (with_reducible first | exact HB.out | apply below_alloc | apply pw_below_drewN | apply below_drew1) | exact HB.out)) hb); clear HO124; clear HB; have HO124 := n0_; have HB := n1_; clear n0_ n1_; (try clear hb); (try clear hb2); (try clear hk); (try clear hi)) | ((with_reducible refine gate_dst (N := 44) rfl ?_); (try (refine gate_guard (by rfl) ?_; dsimp only)); refine Kd.R_lit k38 _ 38 ?hg (N := 44) ?hd (xs := ([(⟨1, 5⟩ : S38), (⟨(-1073741788), 5⟩ : S38)] : List (S38))) (inner := [.int .i64 1, .int .i64 5, .int .i64 (-1073741788), .int .i64 5]) (ok := fun _ => True) (okp := fun _ => True) ?hr ?hp (fun _ hk => hk) trivial (Below.refl _ _) (Nat.le_refl _) (by simp) ?_; (case hd => rfl); (case hg => rfl); (case hr => first | (go_simp; done) | (go_simp; rfl)); (case hp => exact (Reps.c2 (show Kd.M k38 _ _ _ (⟨1, 5⟩ : S38) [.int .i64 1, .int .i64 5] from (k38_mkM _ _ _ (⟨1, 5⟩ : S38) )) (Reps.c2 (show Kd.M k38 _ _ _ (⟨(-1073741788), 5⟩ : S38) [.int .i64 (-1073741788), .int .i64 5] from (k38_mkM _ _ _ (⟨(-1073741788), 5⟩ : S38) )) (Reps.none _ _)))); intro v130 w15 ho16 hb hg_ hnew_; clear hg_ hnew_; (first | rw [← Ny129.out] at ho16 | (simp only [Int.reduceToNat] at ho16; rw [← Ny129.out] at ho16)); have n0_ := Aside0.mk (Kd.R_elder' (by (with_reducible repeat (first | apply Kd.R_alloc | apply Kd.R_drewN | apply Kd.R_drew)); exact HO124.out) (Kd.R_base ho16) hb); have n1_ := Aside0.mk (Kd.R_lower (Kd.R_new' ho16 (Kd.R_lt (by (with_reducible repeat (first | apply Kd.R_alloc | apply Kd.R_drewN | apply Kd.R_drew)); exact HO124.out))) (below_size (by repeat (first | (with_reducible first | exact HB.out | apply below_alloc | apply pw_below_drewN | apply below_drew1) | exact HB.out)))); have n2_ := Aside0.mk (below_step (by repeat (first | (with_reducible first | exact HB.out | apply below_alloc | apply pw_below_drewN | apply below_drew1) | exact HB.out)) hb); clear HO124; clear HB; have HO124 := n0_; have HO131 := n1_; have HB := n2_; clear n0_ n1_ n2_; clear hb ho16; obtain ⟨Ao17, co17, eo17⟩ := Kd.R_slice HO131.out; subst eo17) | ((with_reducible refine gate_callee (f := 19) rfl ?_); refine goesL_ (some 45) rfl rfl Try.func19 (by kernel_rfl) rfl #[.slice Ao17 y129.length co17, .int .i64 0] rfl (by (try simp only [List.map_toArray, List.map_cons, List.map_nil]); first | done | rfl | (simp only [List.length_drop, List.length_take]; rfl)) ?_; (with_reducible refine (field_At.calls _ _ y129 0 t132 t133 _ ?side1 ?side2 A6.out).mono ?_); (case side1 => repeat (first | exact (Kd.R_reads' HO131.out).2.2 | (with_reducible refine Kd.C_alloc ?_ _) | (with_reducible refine Kd.C_drewN ?_ _) | (with_reducible refine Kd.C_drew ?_))); (case side2 => exact (Kd.R_reads' HO131.out).2.1); rintro e w18 ⟨rfl, hb⟩; refine ⟨_, rfl, ?_⟩; have n0_ := Aside0.mk (Kd.R_below (by (with_reducible repeat (first | apply Kd.R_alloc | apply Kd.R_drewN | apply Kd.R_drew)); exact HO124.out) hb); have n1_ := Aside0.mk (Kd.R_below (by (with_reducible repeat (first | apply Kd.R_alloc | apply Kd.R_drewN | apply Kd.R_drew)); exact HO131.out) hb); have n2_ := Aside0.mk (below_step (by repeat (first | (with_reducible first | exact HB.out | apply below_alloc | apply pw_below_drewN | apply below_drew1) | exact HB.out)) hb); clear HO124; clear HO131; clear HB; have HO124 := n0_; have HO131 := n1_; have HB := n2_; clear n0_ n1_ n2_; (try clear hb); (try clear hb2); (try clear hk); (try clear hi)) | ((with_reducible refine gate_dst (N := 49) rfl ?_); (try (refine gate_guard (by rfl) ?_; dsimp only)); refine Kd.R_make k38 _ 38 rfl (N := 49) rfl 30 _ _ rfl 65 rfl rfl Try.underlying30 (.agg #[(.int .i64 0), (.int .i64 0)]) 16 info38 rfl (by decide) (by omega) z38 (ok := fun _ => True) (okp := fun _ => True) (k38_mkM _ _ _ z38 ) (fun _ hk => hk) trivial (by omega) (by omega) (Below.refl _ _) (Nat.le_refl _) ?_; intro v135 w19 ho20 hb hg_ hnew_; clear hg_ hnew_; (first | rw [← Ny134.out] at ho20 | (simp only [Int.reduceToNat] at ho20; rw [← Ny134.out] at ho20)); have n0_ := Aside0.mk (Kd.R_elder' (by (with_reducible repeat (first | apply Kd.R_alloc | apply Kd.R_drewN | apply Kd.R_drew)); exact HO124.out) (Kd.R_base ho20) hb); have n1_ := Aside0.mk (Kd.R_elder' (by (with_reducible repeat (first | apply Kd.R_alloc | apply Kd.R_drewN | apply Kd.R_drew)); exact HO131.out) (Kd.R_base ho20) hb); have n2_ := Aside0.mk (Kd.R_lower (Kd.R_new' (Kd.R_new' ho20 (Kd.R_lt (by (with_reducible repeat (first | apply Kd.R_alloc | apply Kd.R_drewN | apply Kd.R_drew)); exact HO124.out))) (Kd.R_lt (by (with_reducible repeat (first | apply Kd.R_alloc | apply Kd.R_drewN | apply Kd.R_drew)); exact HO131.out))) (below_size (by repeat (first | (with_reducible first | exact HB.out | apply below_alloc | apply pw_below_drewN | apply below_drew1) | exact HB.out)))); have n3_ := Aside0.mk (below_step (by repeat (first | (with_reducible first | exact HB.out | apply below_alloc | apply pw_below_drewN | apply below_drew1) | exact HB.out)) hb); clear HO124; clear HO131; clear HB; have HO124 := n0_; have HO131 := n1_; have HO136 := n2_; have HB := n3_; clear n0_ n1_ n2_ n3_; clear hb ho20; obtain ⟨Ao21, co21, eo21⟩ := Kd.R_slice HO136.out; subst eo21) | ((with_reducible refine gate_callee (f := 19) rfl ?_); refine goesL_ (some 50) rfl rfl Try.func19 (by kernel_rfl) rfl #[.slice Ao21 y134.length co21, .int .i64 0] rfl (by (try simp only [List.map_toArray, List.map_cons, List.map_nil]); first | done | rfl | (simp only [List.length_drop, List.length_take]; rfl)) ?_; (with_reducible refine (field_At.calls _ _ y134 0 t137 t138 _ ?side1 ?side2 A8.out).mono ?_); (case side1 => repeat (first | exact (Kd.R_reads' HO136.out).2.2 | (with_reducible refine Kd.C_alloc ?_ _) | (with_reducible refine Kd.C_drewN ?_ _) | (with_reducible refine Kd.C_drew ?_))); (case side2 => exact (Kd.R_reads' HO136.out).2.1); rintro e w22 ⟨rfl, hb⟩; refine ⟨_, rfl, ?_⟩; have n0_ := Aside0.mk (Kd.R_below (by (with_reducible repeat (first | apply Kd.R_alloc | apply Kd.R_drewN | apply Kd.R_drew)); exact HO124.out) hb); have n1_ := Aside0.mk (Kd.R_below (by (with_reducible repeat (first | apply Kd.R_alloc | apply Kd.R_drewN | apply Kd.R_drew)); exact HO131.out) hb); have n2_ := Aside0.mk (Kd.R_below (by (with_reducible repeat (first | apply Kd.R_alloc | apply Kd.R_drewN | apply Kd.R_drew)); exact HO136.out) hb); have n3_ := Aside0.mk (below_step (by repeat (first | (with_reducible first | exact HB.out | apply below_alloc | apply pw_below_drewN | apply below_drew1) | exact HB.out)) hb); clear HO124; clear HO131; clear HO136; clear HB; have HO124 := n0_; have HO131 := n1_; have HO136 := n2_; have HB := n3_; clear n0_ n1_ n2_ n3_; (try clear hb); (try clear hb2); (try clear hk); (try clear hi)))
    (try simp only [Act.put, List.setIfInBounds_toArray, List.set_cons_zero, List.set_cons_succ])
    go_cut [16] (fun v16 wc => ∃ (kq : Nat) (x16_8 : Bool), v16 = .bool x16_8 ∧ Aside0 (fastilaw09_sane.j0 kq t120 t125 t127 x16_8 = some r) ∧ Aside0 (kq ≤ k) ∧ Aside0 (Below w.heap.size w wc))
    case first =>
      have H := HC9.out
      clear HC9
      by_cases c23 : t117 = 90
      · rw [if_pos c23] at H
        have c23b0 : (t117 == 90) = true := beq_iff_eq.mpr c23
        have c23b1 : (t117 != 90) = false := bne_eq_false_iff_eq.mpr c23
        clear c23
        (first | rw [c23b0] | (simp only [i64_w, i32_w]; rw [c23b0]) | skip)
        by_cases c24 : t119 = 90
        · rw [if_pos c24] at H
          have c24b0 : (t119 == 90) = true := beq_iff_eq.mpr c24
          have c24b1 : (t119 != 90) = false := bne_eq_false_iff_eq.mpr c24
          clear c24
          by_cases c25 : t121 = 0
          · rw [if_pos c25] at H
            have c25b0 : (t121 == 0) = true := beq_iff_eq.mpr c25
            have c25b1 : (t121 != 0) = false := bne_eq_false_iff_eq.mpr c25
            clear c25
            by_cases c26 : t126 = 0
            · rw [if_pos c26] at H
              have c26b0 : (t126 == 0) = true := beq_iff_eq.mpr c26
              have c26b1 : (t126 != 0) = false := bne_eq_false_iff_eq.mpr c26
              clear c26
              by_cases c27 : t128 = 0
              · rw [if_pos c27] at H
                have c27b0 : (t128 == 0) = true := beq_iff_eq.mpr c27
                have c27b1 : (t128 != 0) = false := bne_eq_false_iff_eq.mpr c27
                clear c27
                by_cases c28 : t133 = 90
                · rw [if_pos c28] at H
                  have c28b0 : (t133 == 90) = true := beq_iff_eq.mpr c28
                  have c28b1 : (t133 != 90) = false := bne_eq_false_iff_eq.mpr c28
                  clear c28
                  have H' := Aside0.mk H
                  clear H
                  go_wp2
                  go_meet
                  case rel => exact ⟨_, ((t138 == 2)), (by first | rfl | (simp; done) | (simp [*]; done)), H', ⟨by first | omega | exact Nat.le_refl _⟩, ⟨by repeat (first | (with_reducible first | exact HB.out | apply below_alloc | apply pw_below_drewN | apply below_drew1) | exact HB.out)⟩⟩
                · rw [if_neg c28] at H
                  have c28b0 : (t133 == 90) = false := beq_eq_false_iff_ne.mpr c28
                  have c28b1 : (t133 != 90) = true := bne_iff_ne.mpr c28
                  have H' := Aside0.mk H
                  clear H
                  go_wp2
                  go_meet
                  case rel => exact ⟨_, (false), (by first | rfl | (simp; done) | (simp [*]; done)), H', ⟨by first | omega | exact Nat.le_refl _⟩, ⟨by repeat (first | (with_reducible first | exact HB.out | apply below_alloc | apply pw_below_drewN | apply below_drew1) | exact HB.out)⟩⟩
              · rw [if_neg c27] at H
                have c27b0 : (t128 == 0) = false := beq_eq_false_iff_ne.mpr c27
                have c27b1 : (t128 != 0) = true := bne_iff_ne.mpr c27
                have H' := Aside0.mk H
                clear H
                go_wp2
                go_meet
                case rel => exact ⟨_, (false), (by first | rfl | (simp; done) | (simp [*]; done)), H', ⟨by first | omega | exact Nat.le_refl _⟩, ⟨by repeat (first | (with_reducible first | exact HB.out | apply below_alloc | apply pw_below_drewN | apply below_drew1) | exact HB.out)⟩⟩
            · rw [if_neg c26] at H
              have c26b0 : (t126 == 0) = false := beq_eq_false_iff_ne.mpr c26
              have c26b1 : (t126 != 0) = true := bne_iff_ne.mpr c26
              have H' := Aside0.mk H
              clear H
              go_wp2
              go_meet
              case rel => exact ⟨_, (false), (by first | rfl | (simp; done) | (simp [*]; done)), H', ⟨by first | omega | exact Nat.le_refl _⟩, ⟨by repeat (first | (with_reducible first | exact HB.out | apply below_alloc | apply pw_below_drewN | apply below_drew1) | exact HB.out)⟩⟩
          · rw [if_neg c25] at H
            have c25b0 : (t121 == 0) = false := beq_eq_false_iff_ne.mpr c25
            have c25b1 : (t121 != 0) = true := bne_iff_ne.mpr c25
            have H' := Aside0.mk H
            clear H
            go_wp2
            go_meet
            case rel => exact ⟨_, (false), (by first | rfl | (simp; done) | (simp [*]; done)), H', ⟨by first | omega | exact Nat.le_refl _⟩, ⟨by repeat (first | (with_reducible first | exact HB.out | apply below_alloc | apply pw_below_drewN | apply below_drew1) | exact HB.out)⟩⟩
        · rw [if_neg c24] at H
          have c24b0 : (t119 == 90) = false := beq_eq_false_iff_ne.mpr c24
          have c24b1 : (t119 != 90) = true := bne_iff_ne.mpr c24
          have H' := Aside0.mk H
          clear H
          go_wp2
          go_meet
          case rel => exact ⟨_, (false), (by first | rfl | (simp; done) | (simp [*]; done)), H', ⟨by first | omega | exact Nat.le_refl _⟩, ⟨by repeat (first | (with_reducible first | exact HB.out | apply below_alloc | apply pw_below_drewN | apply below_drew1) | exact HB.out)⟩⟩
      · rw [if_neg c23] at H
        have c23b0 : (t117 == 90) = false := beq_eq_false_iff_ne.mpr c23
        have c23b1 : (t117 != 90) = true := bne_iff_ne.mpr c23
        (first | rw [c23b0] | (simp only [i64_w, i32_w]; rw [c23b0]) | skip)
        have H' := Aside0.mk H
        clear H
        go_wp2
        go_meet
        case rel => exact ⟨_, (false), (by first | rfl | (simp; done) | (simp [*]; done)), H', ⟨by first | omega | exact Nat.le_refl _⟩, ⟨by repeat (first | (with_reducible first | exact HB.out | apply below_alloc | apply pw_below_drewN | apply below_drew1) | exact HB.out)⟩⟩
    case rest =>
      clear HC9
      try clear c1
      try clear c2
      try clear p2
      try clear c7
      try clear c7b0
      try clear c7b1
      try clear c9
      try clear c10
      try clear c19
      try clear c23
      try clear c23b0
      try clear c23b1
      try clear c24
      try clear c24b0
      try clear c24b1
      try clear c25
      try clear c25b0
      try clear c25b1
      try clear c26
      try clear c26b0
      try clear c26b1
      try clear c27
      try clear c27b0
      try clear c27b1
      try clear c28
      try clear c28b0
      try clear c28b1
      obtain ⟨kq, x16_8, rfl, HA, HJ8, HB⟩ := hcut
      cases kq with
      | zero => exact absurd HA.out (by simp [fastilaw09_sane.j0])
      | succ kj8 =>
        have H := HA.out
        clear HA
        simp only [fastilaw09_sane.j0] at H
        by_cases c29 : x16_8 = true
        · subst c29
          have H1 : (if t120 = 536870895 then (if t125 = 1 then (if t127 = 0 then ((field_Mod.f (-1)).bind fun t139 => (if t139 = 1073741788 then ((field_Mul.f (-1) (-1)).bind fun t140 => (if t140 = 1 then ((field_Add.f kj8 1073741788 3).bind fun t141 => (if t141 = 2 then ((field_Value.f kj8 (([1, 2, 3] : List Int)) 10).bind fun t145 => (if t145 = 321 then ((field_Value.f kj8 ([] : List Int) 7).bind fun t146 => (some (t146 == 0))) else (some false))) else (some false))) else (some false))) else (some false))) else (some false)) else (some false)) else (some false)) = some r := by rw [if_pos rfl] at H; exact H
          clear H
          have H := H1
          clear H1
          by_cases c30 : t120 = 536870895
          · rw [if_pos c30] at H
            have c30b0 : (t120 == 536870895) = true := beq_iff_eq.mpr c30
            have c30b1 : (t120 != 536870895) = false := bne_eq_false_iff_eq.mpr c30
            clear c30
            by_cases c31 : t125 = 1
            · rw [if_pos c31] at H
              have c31b0 : (t125 == 1) = true := beq_iff_eq.mpr c31
              have c31b1 : (t125 != 1) = false := bne_eq_false_iff_eq.mpr c31
              clear c31
              by_cases c32 : t127 = 0
              · rw [if_pos c32] at H
                have c32b0 : (t127 == 0) = true := beq_iff_eq.mpr c32
                have c32b1 : (t127 != 0) = false := bne_eq_false_iff_eq.mpr c32
                clear c32
                replace H := Option.bind_eq_some_iff.mp H
                obtain ⟨t139, A330, H⟩ := H
                replace H : (if t139 = 1073741788 then ((field_Mul.f (-1) (-1)).bind fun t140 => (if t140 = 1 then ((field_Add.f kj8 1073741788 3).bind fun t141 => (if t141 = 2 then ((field_Value.f kj8 (([1, 2, 3] : List Int)) 10).bind fun t145 => (if t145 = 321 then ((field_Value.f kj8 ([] : List Int) 7).bind fun t146 => (some (t146 == 0))) else (some false))) else (some false))) else (some false))) else (some false)) = some r := H
                have A33 := Aside0.mk A330
                clear A330
                by_cases c34 : t139 = 1073741788
                · rw [if_pos c34] at H
                  have c34b0 : (t139 == 1073741788) = true := beq_iff_eq.mpr c34
                  have c34b1 : (t139 != 1073741788) = false := bne_eq_false_iff_eq.mpr c34
                  clear c34
                  replace H := Option.bind_eq_some_iff.mp H
                  obtain ⟨t140, A350, H⟩ := H
                  replace H : (if t140 = 1 then ((field_Add.f kj8 1073741788 3).bind fun t141 => (if t141 = 2 then ((field_Value.f kj8 (([1, 2, 3] : List Int)) 10).bind fun t145 => (if t145 = 321 then ((field_Value.f kj8 ([] : List Int) 7).bind fun t146 => (some (t146 == 0))) else (some false))) else (some false))) else (some false)) = some r := H
                  have A35 := Aside0.mk A350
                  clear A350
                  by_cases c36 : t140 = 1
                  · rw [if_pos c36] at H
                    have c36b0 : (t140 == 1) = true := beq_iff_eq.mpr c36
                    have c36b1 : (t140 != 1) = false := bne_eq_false_iff_eq.mpr c36
                    clear c36
                    replace H := Option.bind_eq_some_iff.mp H
                    obtain ⟨t141, A370, H⟩ := H
                    replace H : (if t141 = 2 then ((field_Value.f kj8 (([1, 2, 3] : List Int)) 10).bind fun t145 => (if t145 = 321 then ((field_Value.f kj8 ([] : List Int) 7).bind fun t146 => (some (t146 == 0))) else (some false))) else (some false)) = some r := H
                    have A37 := Aside0.mk A370
                    clear A370
                    by_cases c38 : t141 = 2
                    · rw [if_pos c38] at H
                      have c38b0 : (t141 == 2) = true := beq_iff_eq.mpr c38
                      have c38b1 : (t141 != 2) = false := bne_eq_false_iff_eq.mpr c38
                      clear c38
                      obtain ⟨y142, hy142⟩ : ∃ y_ : List Int, y_ = (([1, 2, 3] : List Int)) := ⟨_, rfl⟩
                      replace H : ((field_Value.f kj8 y142 10).bind fun t145 => (if t145 = 321 then ((field_Value.f kj8 ([] : List Int) 7).bind fun t146 => (some (t146 == 0))) else (some false))) = some r := by first | (rw [hy142]; with_reducible exact H) | (have H2_ := (Option.bind_some _ _).symm.trans H; rw [hy142]; with_reducible exact H2_) | (have H2_ := (Option.bind_some _ _).symm.trans H; with_reducible exact H2_) | with_reducible exact H | (rw [hy142]; exact H) | exact H
                      have Ny142 := Aside0.mk hy142
                      clear hy142
                      replace H := Option.bind_eq_some_iff.mp H
                      obtain ⟨t145, A390, H⟩ := H
                      replace H : (if t145 = 321 then ((field_Value.f kj8 ([] : List Int) 7).bind fun t146 => (some (t146 == 0))) else (some false)) = some r := H
                      have A39 := Aside0.mk A390
                      clear A390
                      by_cases c40 : t145 = 321
                      · rw [if_pos c40] at H
                        have c40b0 : (t145 == 321) = true := beq_iff_eq.mpr c40
                        have c40b1 : (t145 != 321) = false := bne_eq_false_iff_eq.mpr c40
                        clear c40
                        replace H := Option.bind_eq_some_iff.mp H
                        obtain ⟨t146, A410, H⟩ := H
                        replace H : (some (t146 == 0)) = some r := H
                        have A41 := Aside0.mk A410
                        clear A410
                        obtain rfl := Option.some.inj H
                        go_wp2_with (first | (go_at_call 12; (with_reducible refine (field_Mod.calls (-1) t139 _ A33.out).mono ?_); rintro e w' ⟨rfl, ⟨nd, rfl⟩⟩) | (go_at_call 16; (with_reducible refine (field_Mul.calls (-1) (-1) t140 _ A35.out).mono ?_); rintro e w' ⟨rfl, ⟨nd, rfl⟩⟩) | (go_at_call 14; (with_reducible refine (field_Add.calls kj8 1073741788 3 t141 _ A37.out).mono ?_); rintro e w42 ⟨rfl, hb⟩; have n0_ := Aside0.mk (below_step (by repeat (first | (with_reducible first | exact HB.out | apply below_alloc | apply pw_below_drewN | apply below_drew1) | exact HB.out)) hb); clear HB; have HB := n0_; clear n0_; (try clear hb); (try clear hb2); (try clear hk); (try clear hi)) | ((with_reducible refine gate_dst (N := 105) rfl ?_); (try (refine gate_guard (by rfl) ?_; dsimp only)); refine Kd.R_lit (Kd.int .i64) _ 3 ?hg (N := 105) ?hd (xs := ([1, 2, 3] : List Int)) (inner := [.int .i64 1, .int .i64 2, .int .i64 3]) (ok := fun _ => True) (okp := fun _ => True) ?hr ?hp (fun _ hk => hk) trivial (Below.refl _ _) (Nat.le_refl _) (by simp) ?_; (case hd => rfl); (case hg => rfl); (case hr => first | (go_simp; done) | (go_simp; rfl)); (case hp => exact (Reps.one (show Kd.M (Kd.int .i64) _ _ _ 1 [.int .i64 1] from rfl) (Reps.one (show Kd.M (Kd.int .i64) _ _ _ 2 [.int .i64 2] from rfl) (Reps.one (show Kd.M (Kd.int .i64) _ _ _ 3 [.int .i64 3] from rfl) (Reps.none _ _))))); intro v143 w43 ho44 hb hg_ hnew_; clear hg_ hnew_; (first | rw [← Ny142.out] at ho44 | (simp only [Int.reduceToNat] at ho44; rw [← Ny142.out] at ho44)); have n0_ := Aside0.mk (Kd.R_lower ho44 (below_size (by repeat (first | (with_reducible first | exact HB.out | apply below_alloc | apply pw_below_drewN | apply below_drew1) | exact HB.out)))); have n1_ := Aside0.mk (below_step (by repeat (first | (with_reducible first | exact HB.out | apply below_alloc | apply pw_below_drewN | apply below_drew1) | exact HB.out)) hb); clear HB; have HO144 := n0_; have HB := n1_; clear n0_ n1_; clear hb ho44; obtain ⟨Ao45, co45, eo45⟩ := Kd.R_slice HO144.out; subst eo45) | (go_at_call 21; (with_reducible refine (field_Value.calls kj8 _ _ y142 10 t145 _ ?side1 ?side2 A39.out).mono ?_); (case side1 => repeat (first | exact (Kd.R_reads' HO144.out).2.2 | (with_reducible refine Kd.C_alloc ?_ _) | (with_reducible refine Kd.C_drewN ?_ _) | (with_reducible refine Kd.C_drew ?_))); (case side2 => exact (Kd.R_reads' HO144.out).2.1); rintro e w46 ⟨rfl, hb⟩; have n0_ := Aside0.mk (Kd.R_below (by (with_reducible repeat (first | apply Kd.R_alloc | apply Kd.R_drewN | apply Kd.R_drew)); exact HO144.out) hb); have n1_ := Aside0.mk (below_step (by repeat (first | (with_reducible first | exact HB.out | apply below_alloc | apply pw_below_drewN | apply below_drew1) | exact HB.out)) hb); clear HO144; clear HB; have HO144 := n0_; have HB := n1_; clear n0_ n1_; (try clear hb); (try clear hb2); (try clear hk); (try clear hi)) | (go_at_call 21; (refine (field_Value.calls kj8 _ _ ([] : List Int) 7 t146 _ ?side1 ?side2 A41.out).mono ?_); (case side1 => exact Kd.C_nil _ _); (case side2 => exact Nat.le_refl _); rintro e w47 ⟨rfl, hb⟩; have n0_ := Aside0.mk (Kd.R_below (by (with_reducible repeat (first | apply Kd.R_alloc | apply Kd.R_drewN | apply Kd.R_drew)); exact HO144.out) hb); have n1_ := Aside0.mk (below_step (by repeat (first | (with_reducible first | exact HB.out | apply below_alloc | apply pw_below_drewN | apply below_drew1) | exact HB.out)) hb); clear HO144; clear HB; have HO144 := n0_; have HB := n1_; clear n0_ n1_; (try clear hb); (try clear hb2); (try clear hk); (try clear hi)))
                        go_ret
                        exact ⟨by first | rfl | (simp [errW_none, errW_some] <;> rfl) | (simp [*, errW_none, errW_some] <;> rfl), by repeat (first | (with_reducible first | exact HB.out | apply below_alloc | apply pw_below_drewN | apply below_drew1) | exact HB.out)⟩
                      · rw [if_neg c40] at H
                        have c40b0 : (t145 == 321) = false := beq_eq_false_iff_ne.mpr c40
                        have c40b1 : (t145 != 321) = true := bne_iff_ne.mpr c40
                        obtain rfl := Option.some.inj H
                        go_wp2_with (first | (go_at_call 12; (with_reducible refine (field_Mod.calls (-1) t139 _ A33.out).mono ?_); rintro e w' ⟨rfl, ⟨nd, rfl⟩⟩) | (go_at_call 16; (with_reducible refine (field_Mul.calls (-1) (-1) t140 _ A35.out).mono ?_); rintro e w' ⟨rfl, ⟨nd, rfl⟩⟩) | (go_at_call 14; (with_reducible refine (field_Add.calls kj8 1073741788 3 t141 _ A37.out).mono ?_); rintro e w48 ⟨rfl, hb⟩; have n0_ := Aside0.mk (below_step (by repeat (first | (with_reducible first | exact HB.out | apply below_alloc | apply pw_below_drewN | apply below_drew1) | exact HB.out)) hb); clear HB; have HB := n0_; clear n0_; (try clear hb); (try clear hb2); (try clear hk); (try clear hi)) | ((with_reducible refine gate_dst (N := 105) rfl ?_); (try (refine gate_guard (by rfl) ?_; dsimp only)); refine Kd.R_lit (Kd.int .i64) _ 3 ?hg (N := 105) ?hd (xs := ([1, 2, 3] : List Int)) (inner := [.int .i64 1, .int .i64 2, .int .i64 3]) (ok := fun _ => True) (okp := fun _ => True) ?hr ?hp (fun _ hk => hk) trivial (Below.refl _ _) (Nat.le_refl _) (by simp) ?_; (case hd => rfl); (case hg => rfl); (case hr => first | (go_simp; done) | (go_simp; rfl)); (case hp => exact (Reps.one (show Kd.M (Kd.int .i64) _ _ _ 1 [.int .i64 1] from rfl) (Reps.one (show Kd.M (Kd.int .i64) _ _ _ 2 [.int .i64 2] from rfl) (Reps.one (show Kd.M (Kd.int .i64) _ _ _ 3 [.int .i64 3] from rfl) (Reps.none _ _))))); intro v143 w49 ho50 hb hg_ hnew_; clear hg_ hnew_; (first | rw [← Ny142.out] at ho50 | (simp only [Int.reduceToNat] at ho50; rw [← Ny142.out] at ho50)); have n0_ := Aside0.mk (Kd.R_lower ho50 (below_size (by repeat (first | (with_reducible first | exact HB.out | apply below_alloc | apply pw_below_drewN | apply below_drew1) | exact HB.out)))); have n1_ := Aside0.mk (below_step (by repeat (first | (with_reducible first | exact HB.out | apply below_alloc | apply pw_below_drewN | apply below_drew1) | exact HB.out)) hb); clear HB; have HO144 := n0_; have HB := n1_; clear n0_ n1_; clear hb ho50; obtain ⟨Ao51, co51, eo51⟩ := Kd.R_slice HO144.out; subst eo51) | (go_at_call 21; (with_reducible refine (field_Value.calls kj8 _ _ y142 10 t145 _ ?side1 ?side2 A39.out).mono ?_); (case side1 => repeat (first | exact (Kd.R_reads' HO144.out).2.2 | (with_reducible refine Kd.C_alloc ?_ _) | (with_reducible refine Kd.C_drewN ?_ _) | (with_reducible refine Kd.C_drew ?_))); (case side2 => exact (Kd.R_reads' HO144.out).2.1); rintro e w52 ⟨rfl, hb⟩; have n0_ := Aside0.mk (Kd.R_below (by (with_reducible repeat (first | apply Kd.R_alloc | apply Kd.R_drewN | apply Kd.R_drew)); exact HO144.out) hb); have n1_ := Aside0.mk (below_step (by repeat (first | (with_reducible first | exact HB.out | apply below_alloc | apply pw_below_drewN | apply below_drew1) | exact HB.out)) hb); clear HO144; clear HB; have HO144 := n0_; have HB := n1_; clear n0_ n1_; (try clear hb); (try clear hb2); (try clear hk); (try clear hi)))
                        go_ret
                        exact ⟨by first | rfl | (simp [errW_none, errW_some] <;> rfl) | (simp [*, errW_none, errW_some] <;> rfl), by repeat (first | (with_reducible first | exact HB.out | apply below_alloc | apply pw_below_drewN | apply below_drew1) | exact HB.out)⟩
                    · rw [if_neg c38] at H
                      have c38b0 : (t141 == 2) = false := beq_eq_false_iff_ne.mpr c38
                      have c38b1 : (t141 != 2) = true := bne_iff_ne.mpr c38
                      obtain rfl := Option.some.inj H
                      go_wp2_with (first | (go_at_call 12; (with_reducible refine (field_Mod.calls (-1) t139 _ A33.out).mono ?_); rintro e w' ⟨rfl, ⟨nd, rfl⟩⟩) | (go_at_call 16; (with_reducible refine (field_Mul.calls (-1) (-1) t140 _ A35.out).mono ?_); rintro e w' ⟨rfl, ⟨nd, rfl⟩⟩) | (go_at_call 14; (with_reducible refine (field_Add.calls kj8 1073741788 3 t141 _ A37.out).mono ?_); rintro e w53 ⟨rfl, hb⟩; have n0_ := Aside0.mk (below_step (by repeat (first | (with_reducible first | exact HB.out | apply below_alloc | apply pw_below_drewN | apply below_drew1) | exact HB.out)) hb); clear HB; have HB := n0_; clear n0_; (try clear hb); (try clear hb2); (try clear hk); (try clear hi)))
                      go_ret
                      exact ⟨by first | rfl | (simp [errW_none, errW_some] <;> rfl) | (simp [*, errW_none, errW_some] <;> rfl), by repeat (first | (with_reducible first | exact HB.out | apply below_alloc | apply pw_below_drewN | apply below_drew1) | exact HB.out)⟩
                  · rw [if_neg c36] at H
                    have c36b0 : (t140 == 1) = false := beq_eq_false_iff_ne.mpr c36
                    have c36b1 : (t140 != 1) = true := bne_iff_ne.mpr c36
                    obtain rfl := Option.some.inj H
                    go_wp2_with (first | (go_at_call 12; (with_reducible refine (field_Mod.calls (-1) t139 _ A33.out).mono ?_); rintro e w' ⟨rfl, ⟨nd, rfl⟩⟩) | (go_at_call 16; (with_reducible refine (field_Mul.calls (-1) (-1) t140 _ A35.out).mono ?_); rintro e w' ⟨rfl, ⟨nd, rfl⟩⟩))
                    go_ret
                    exact ⟨by first | rfl | (simp [errW_none, errW_some] <;> rfl) | (simp [*, errW_none, errW_some] <;> rfl), by repeat (first | (with_reducible first | exact HB.out | apply below_alloc | apply pw_below_drewN | apply below_drew1) | exact HB.out)⟩
                · rw [if_neg c34] at H
                  have c34b0 : (t139 == 1073741788) = false := beq_eq_false_iff_ne.mpr c34
                  have c34b1 : (t139 != 1073741788) = true := bne_iff_ne.mpr c34
                  obtain rfl := Option.some.inj H
                  go_wp2_with (first | (go_at_call 12; (with_reducible refine (field_Mod.calls (-1) t139 _ A33.out).mono ?_); rintro e w' ⟨rfl, ⟨nd, rfl⟩⟩))
                  go_ret
                  exact ⟨by first | rfl | (simp [errW_none, errW_some] <;> rfl) | (simp [*, errW_none, errW_some] <;> rfl), by repeat (first | (with_reducible first | exact HB.out | apply below_alloc | apply pw_below_drewN | apply below_drew1) | exact HB.out)⟩
              · rw [if_neg c32] at H
                have c32b0 : (t127 == 0) = false := beq_eq_false_iff_ne.mpr c32
                have c32b1 : (t127 != 0) = true := bne_iff_ne.mpr c32
                obtain rfl := Option.some.inj H
                go_wp2
                go_ret
                exact ⟨by first | rfl | (simp [errW_none, errW_some] <;> rfl) | (simp [*, errW_none, errW_some] <;> rfl), by repeat (first | (with_reducible first | exact HB.out | apply below_alloc | apply pw_below_drewN | apply below_drew1) | exact HB.out)⟩
            · rw [if_neg c31] at H
              have c31b0 : (t125 == 1) = false := beq_eq_false_iff_ne.mpr c31
              have c31b1 : (t125 != 1) = true := bne_iff_ne.mpr c31
              obtain rfl := Option.some.inj H
              go_wp2
              go_ret
              exact ⟨by first | rfl | (simp [errW_none, errW_some] <;> rfl) | (simp [*, errW_none, errW_some] <;> rfl), by repeat (first | (with_reducible first | exact HB.out | apply below_alloc | apply pw_below_drewN | apply below_drew1) | exact HB.out)⟩
          · rw [if_neg c30] at H
            have c30b0 : (t120 == 536870895) = false := beq_eq_false_iff_ne.mpr c30
            have c30b1 : (t120 != 536870895) = true := bne_iff_ne.mpr c30
            obtain rfl := Option.some.inj H
            go_wp2
            go_ret
            exact ⟨by first | rfl | (simp [errW_none, errW_some] <;> rfl) | (simp [*, errW_none, errW_some] <;> rfl), by repeat (first | (with_reducible first | exact HB.out | apply below_alloc | apply pw_below_drewN | apply below_drew1) | exact HB.out)⟩
        · replace c29 := Bool.eq_false_iff.mpr c29
          subst c29
          have H1 : (some false) = some r := by rw [if_neg (show ¬ (false = true) by decide)] at H; exact H
          clear H
          have H := H1
          clear H1
          obtain rfl := Option.some.inj H
          go_wp2
          go_ret
          exact ⟨by first | rfl | (simp [errW_none, errW_some] <;> rfl) | (simp [*, errW_none, errW_some] <;> rfl), by repeat (first | (with_reducible first | exact HB.out | apply below_alloc | apply pw_below_drewN | apply below_drew1) | exact HB.out)⟩
  · rw [if_neg c7] at H
    exact absurd H (by simp)

/-! ### fastiref09_Mod: function 13 -/
def fastiref09_Mod.f (a0 : Int) : Option (Int) := if (Int.tmod a0 1073741789) < 0 then (some (wrap64 ((Int.tmod a0 1073741789) + 1073741789))) else (some (Int.tmod a0 1073741789))
set_option maxHeartbeats 8000000 in
set_option maxRecDepth 100000 in
theorem fastiref09_Mod.calls (a0 : Int) (r : Int) (w : World) (h : fastiref09_Mod.f a0 = some r) :
    Calls Try.prog 13 #[.int .i64 a0] w fun e w' => e = .returned (.int .i64 r) ∧ Drawn0 w w' := by
  have H : (if (Int.tmod a0 1073741789) < 0 then (some (wrap64 ((Int.tmod a0 1073741789) + 1073741789))) else (some (Int.tmod a0 1073741789))) = some r := h
  clear h
  by_cases c2 : (Int.tmod a0 1073741789) < 0
  · rw [if_pos c2] at H
    have c2b0 : decide ((Int.tmod a0 1073741789) < 0) = true := decide_eq_true c2
    clear c2
    obtain rfl := Option.some.inj H
    go_enter Try.func13, Try.ntmps13
    go_wp2
    go_ret
    exact ⟨by first | rfl | (simp; done) | (simp [*]; done), by repeat (first | exact Drawn0.refl _ | apply Drawn0.step)⟩
  · rw [if_neg c2] at H
    have c2b0 : decide ((Int.tmod a0 1073741789) < 0) = false := decide_eq_false c2
    clear c2
    obtain rfl := Option.some.inj H
    go_enter Try.func13, Try.ntmps13
    go_wp2
    go_ret
    exact ⟨by first | rfl | (simp; done) | (simp [*]; done), by repeat (first | exact Drawn0.refl _ | apply Drawn0.step)⟩

/-! ### fastiref09_Mul: function 17 -/
def fastiref09_Mul.f (a0 : Int) (a1 : Int) : Option (Int) := (fastiref09_Mod.f a0).bind fun t147 => ((fastiref09_Mod.f a1).bind fun t148 => (some (Int.tmod (wrap64 (t147 * t148)) 1073741789)))
set_option maxHeartbeats 8000000 in
set_option maxRecDepth 100000 in
theorem fastiref09_Mul.calls (a0 : Int) (a1 : Int) (r : Int) (w : World) (h : fastiref09_Mul.f a0 a1 = some r) :
    Calls Try.prog 17 #[.int .i64 a0, .int .i64 a1] w fun e w' => e = .returned (.int .i64 r) ∧ Drawn0 w w' := by
  have H : ((fastiref09_Mod.f a0).bind fun t147 => ((fastiref09_Mod.f a1).bind fun t148 => (some (Int.tmod (wrap64 (t147 * t148)) 1073741789)))) = some r := h
  clear h
  replace H := Option.bind_eq_some_iff.mp H
  obtain ⟨t147, A30, H⟩ := H
  replace H : ((fastiref09_Mod.f a1).bind fun t148 => (some (Int.tmod (wrap64 (t147 * t148)) 1073741789))) = some r := H
  have A3 := Aside0.mk A30
  clear A30
  replace H := Option.bind_eq_some_iff.mp H
  obtain ⟨t148, A40, H⟩ := H
  replace H : (some (Int.tmod (wrap64 (t147 * t148)) 1073741789)) = some r := H
  have A4 := Aside0.mk A40
  clear A40
  obtain rfl := Option.some.inj H
  go_enter Try.func17, Try.ntmps17
  go_wp2_with (first | ((with_reducible refine gate_callee (f := 13) rfl ?_); refine goesL_ (some 6) rfl rfl Try.func13 (by kernel_rfl) rfl #[.int .i64 a0] rfl (by (try simp only [List.map_toArray, List.map_cons, List.map_nil]); first | done | rfl | (simp only [List.length_drop, List.length_take]; rfl)) ?_; (with_reducible refine (fastiref09_Mod.calls a0 t147 _ A3.out).mono ?_); rintro e w' ⟨rfl, ⟨nd, rfl⟩⟩; refine ⟨_, rfl, ?_⟩) | ((with_reducible refine gate_callee (f := 13) rfl ?_); refine goesL_ (some 8) rfl rfl Try.func13 (by kernel_rfl) rfl #[.int .i64 a1] rfl (by (try simp only [List.map_toArray, List.map_cons, List.map_nil]); first | done | rfl | (simp only [List.length_drop, List.length_take]; rfl)) ?_; (with_reducible refine (fastiref09_Mod.calls a1 t148 _ A4.out).mono ?_); rintro e w' ⟨rfl, ⟨nd, rfl⟩⟩; refine ⟨_, rfl, ?_⟩))
  go_ret
  exact ⟨by first | rfl | (simp; done) | (simp [*]; done), by repeat (first | exact Drawn0.refl _ | apply Drawn0.step)⟩

/-! ### fastiref09_power: function 25 -/
def fastiref09_power.l0 : Nat → Int → Int → Int → Option (Int)
  | 0, _, _, _ => none
  | k + 1, x0, x1, x5 => if x1 > 0 then (if (Int.tmod x1 2) = 1 then ((fastiref09_Mul.f x5 x0).bind fun t149 => ((fastiref09_Mul.f x0 x0).bind fun t150 => (fastiref09_power.l0 k t150 (wrap64 (Int.tdiv x1 2)) t149))) else ((fastiref09_Mul.f x0 x0).bind fun t151 => (fastiref09_power.l0 k t151 (wrap64 (Int.tdiv x1 2)) x5))) else (some x5)
def fastiref09_power.f (k : Nat) (a0 : Int) (a1 : Int) : Option (Int) := fastiref09_power.l0 k a0 a1 1
theorem fastiref09_power.mono_l : ∀ k, (∀ y0 y1 y2, LeO (fastiref09_power.l0 k y0 y1 y2) (fastiref09_power.l0 (k + 1) y0 y1 y2))
  | 0 => fun _ _ _ r h => by simp [fastiref09_power.l0] at h
  | k + 1 => by
    have ih0 := fastiref09_power.mono_l k
    · intro y0 y1 y2
      unfold fastiref09_power.l0
      repeat' first
      | (with_reducible exact ih0 _ _ _)
      | (with_reducible exact LeO.refl _)
      | (with_reducible exact LeO.none _)
      | (with_reducible refine LeO.ite ?_ ?_)
      | (with_reducible refine LeO.bind ?_ (fun _ => ?_))
      | exact ih0 _ _ _
      | exact LeO.none _
      | refine LeO.ite ?_ ?_
      | refine LeO.bind ?_ (fun _ => ?_)
theorem fastiref09_power.mono : ∀ a0 a1 k, LeO (fastiref09_power.f k a0 a1) (fastiref09_power.f (k + 1) a0 a1) := by
  intro a0 a1 k
  have ih0 := fastiref09_power.mono_l k
  unfold fastiref09_power.f
  repeat' first
      | (with_reducible exact ih0 _ _ _)
      | (with_reducible exact LeO.refl _)
      | (with_reducible exact LeO.none _)
      | (with_reducible refine LeO.ite ?_ ?_)
      | (with_reducible refine LeO.bind ?_ (fun _ => ?_))
      | exact ih0 _ _ _
      | exact LeO.none _
      | refine LeO.ite ?_ ?_
      | refine LeO.bind ?_ (fun _ => ?_)
set_option maxHeartbeats 8000000 in
set_option maxRecDepth 100000 in
theorem fastiref09_power.calls (k : Nat) (a0 : Int) (a1 : Int) (r : Int) (w : World) (h : fastiref09_power.f k a0 a1 = some r) :
    Calls Try.prog 25 #[.int .i64 a0, .int .i64 a1] w fun e w' => e = .returned (.int .i64 r) ∧ Drawn0 w w' := by
  have H : (fastiref09_power.l0 k a0 a1 1) = some r := h
  clear h
  have H' := Aside0.mk H
  clear H
  go_enter Try.func25, Try.ntmps25
  go_wp2
  go_loopg [0, 1, 5] k (fun kq v0 v1 v5 w' => ∃ (x0_1 : Int) (x1_1 : Int) (x5_1 : Int), v0 = .int .i64 x0_1 ∧ v1 = .int .i64 x1_1 ∧ v5 = .int .i64 x5_1 ∧ Aside0 (fastiref09_power.l0 kq x0_1 x1_1 x5_1 = some r) ∧ Aside0 (kq ≤ k) ∧ Drawn0 w w')
  case atStart => exact ⟨(a0), (a1), (1), (by first | rfl | (simp; done) | (simp [*]; done)), (by first | rfl | (simp; done) | (simp [*]; done)), (by first | rfl | (simp; done) | (simp [*]; done)), H', ⟨Nat.le_refl _⟩, by repeat (first | exact Drawn0.refl _ | apply Drawn0.step)⟩
  case round =>
    clear H'
    try clear c2
    try clear p2
    obtain ⟨x0_1, x1_1, x5_1, rfl, rfl, rfl, HA, HK1, ⟨m1, rfl⟩⟩ := hrel
    cases gk with
    | zero => exact absurd HA.out (by simp [fastiref09_power.l0])
    | succ k1 =>
      have H := HA.out
      clear HA
      simp only [fastiref09_power.l0] at H
      by_cases c3 : x1_1 > 0
      · rw [if_pos c3] at H
        have c3b0 : decide (0 < x1_1) = true := decide_eq_true c3
        clear c3
        by_cases c4 : (Int.tmod x1_1 2) = 1
        · rw [if_pos c4] at H
          have c4b0 : ((Int.tmod x1_1 2) == 1) = true := beq_iff_eq.mpr c4
          have c4b1 : ((Int.tmod x1_1 2) != 1) = false := bne_eq_false_iff_eq.mpr c4
          clear c4
          replace H := Option.bind_eq_some_iff.mp H
          obtain ⟨t149, A50, H⟩ := H
          replace H : ((fastiref09_Mul.f x0_1 x0_1).bind fun t150 => (fastiref09_power.l0 k1 t150 (wrap64 (Int.tdiv x1_1 2)) t149)) = some r := H
          have A5 := Aside0.mk A50
          clear A50
          replace H := Option.bind_eq_some_iff.mp H
          obtain ⟨t150, A60, H⟩ := H
          replace H : (fastiref09_power.l0 k1 t150 (wrap64 (Int.tdiv x1_1 2)) t149) = some r := H
          have A6 := Aside0.mk A60
          clear A60
          have H' := Aside0.mk H
          clear H
          go_wp2_with (first | ((with_reducible refine gate_callee (f := 17) rfl ?_); refine goesL_ (some 13) rfl rfl Try.func17 (by kernel_rfl) rfl #[.int .i64 x5_1, .int .i64 x0_1] rfl (by (try simp only [List.map_toArray, List.map_cons, List.map_nil]); first | done | rfl | (simp only [List.length_drop, List.length_take]; rfl)) ?_; (with_reducible refine (fastiref09_Mul.calls x5_1 x0_1 t149 _ A5.out).mono ?_); rintro e w' ⟨rfl, ⟨nd, rfl⟩⟩; refine ⟨_, rfl, ?_⟩) | ((with_reducible refine gate_callee (f := 17) rfl ?_); refine goesL_ (some 16) rfl rfl Try.func17 (by kernel_rfl) rfl #[.int .i64 x0_1, .int .i64 x0_1] rfl (by (try simp only [List.map_toArray, List.map_cons, List.map_nil]); first | done | rfl | (simp only [List.length_drop, List.length_take]; rfl)) ?_; (with_reducible refine (fastiref09_Mul.calls x0_1 x0_1 t150 _ A6.out).mono ?_); rintro e w' ⟨rfl, ⟨nd, rfl⟩⟩; refine ⟨_, rfl, ?_⟩))
          go_roundg k1
          case measure => have := HK1.out; omega
          case rel => exact ⟨(t150), (wrap64 (Int.tdiv x1_1 2)), (t149), (by first | rfl | (simp; done) | (simp [*]; done)), (by first | rfl | (simp; done) | (simp [*]; done)), (by first | rfl | (simp; done) | (simp [*]; done)), H', ⟨by have := HK1.out; omega⟩, by repeat (first | exact Drawn0.refl _ | apply Drawn0.step)⟩
        · rw [if_neg c4] at H
          have c4b0 : ((Int.tmod x1_1 2) == 1) = false := beq_eq_false_iff_ne.mpr c4
          have c4b1 : ((Int.tmod x1_1 2) != 1) = true := bne_iff_ne.mpr c4
          replace H := Option.bind_eq_some_iff.mp H
          obtain ⟨t151, A70, H⟩ := H
          replace H : (fastiref09_power.l0 k1 t151 (wrap64 (Int.tdiv x1_1 2)) x5_1) = some r := H
          have A7 := Aside0.mk A70
          clear A70
          have H' := Aside0.mk H
          clear H
          go_wp2_with (first | ((with_reducible refine gate_callee (f := 17) rfl ?_); refine goesL_ (some 16) rfl rfl Try.func17 (by kernel_rfl) rfl #[.int .i64 x0_1, .int .i64 x0_1] rfl (by (try simp only [List.map_toArray, List.map_cons, List.map_nil]); first | done | rfl | (simp only [List.length_drop, List.length_take]; rfl)) ?_; (with_reducible refine (fastiref09_Mul.calls x0_1 x0_1 t151 _ A7.out).mono ?_); rintro e w' ⟨rfl, ⟨nd, rfl⟩⟩; refine ⟨_, rfl, ?_⟩))
          go_roundg k1
          case measure => have := HK1.out; omega
          case rel => exact ⟨(t151), (wrap64 (Int.tdiv x1_1 2)), (x5_1), (by first | rfl | (simp; done) | (simp [*]; done)), (by first | rfl | (simp; done) | (simp [*]; done)), (by first | rfl | (simp; done) | (simp [*]; done)), H', ⟨by have := HK1.out; omega⟩, by repeat (first | exact Drawn0.refl _ | apply Drawn0.step)⟩
      · rw [if_neg c3] at H
        have c3b0 : decide (0 < x1_1) = false := decide_eq_false c3
        clear c3
        obtain rfl := Option.some.inj H
        go_wp2
        go_ret
        exact ⟨by first | rfl | (simp; done) | (simp [*]; done), by repeat (first | exact Drawn0.refl _ | apply Drawn0.step)⟩

/-! ### fastiref09_Inverse: function 11 -/
def fastiref09_Inverse.f (k : Nat) (a0 : Int) : Option (Int × Int) := (fastiref09_Mod.f a0).bind fun t152 => (if t152 = 0 then (some (0, 90)) else ((fastiref09_power.f k a0 1073741787).bind fun t153 => (some (t153, 0))))
theorem fastiref09_Inverse.mono : ∀ a0 k, LeO (fastiref09_Inverse.f k a0) (fastiref09_Inverse.f (k + 1) a0) := by
  intro a0 k
  unfold fastiref09_Inverse.f
  repeat' first
      | (with_reducible exact fastiref09_power.mono _ _ _)
      | (with_reducible exact LeO.refl _)
      | (with_reducible exact LeO.none _)
      | (with_reducible refine LeO.ite ?_ ?_)
      | (with_reducible refine LeO.bind ?_ (fun _ => ?_))
      | exact fastiref09_power.mono _ _ _
      | exact LeO.none _
      | refine LeO.ite ?_ ?_
      | refine LeO.bind ?_ (fun _ => ?_)
set_option maxHeartbeats 8000000 in
set_option maxRecDepth 100000 in
theorem fastiref09_Inverse.calls (k : Nat) (a0 : Int) (r1 : Int) (r2 : Int) (w : World) (h : fastiref09_Inverse.f k a0 = some (r1, r2)) :
    Calls Try.prog 11 #[.int .i64 a0] w fun e w' => e = .returned (.tuple #[.int .i64 r1, .int .i64 r2]) ∧ Drawn0 w w' := by
  have H : ((fastiref09_Mod.f a0).bind fun t152 => (if t152 = 0 then (some (0, 90)) else ((fastiref09_power.f k a0 1073741787).bind fun t153 => (some (t153, 0))))) = some (r1, r2) := h
  clear h
  replace H := Option.bind_eq_some_iff.mp H
  obtain ⟨t152, A20, H⟩ := H
  replace H : (if t152 = 0 then (some (0, 90)) else ((fastiref09_power.f k a0 1073741787).bind fun t153 => (some (t153, 0)))) = some (r1, r2) := H
  have A2 := Aside0.mk A20
  clear A20
  by_cases c3 : t152 = 0
  · rw [if_pos c3] at H
    have c3b0 : (t152 == 0) = true := beq_iff_eq.mpr c3
    have c3b1 : (t152 != 0) = false := bne_eq_false_iff_eq.mpr c3
    clear c3
    simp only [Option.some.injEq, Prod.mk.injEq] at H
    obtain ⟨rfl, rfl⟩ := H
    go_enter Try.func11, Try.ntmps11
    go_wp2_with (first | ((with_reducible refine gate_callee (f := 13) rfl ?_); refine goesL_ (some 5) rfl rfl Try.func13 (by kernel_rfl) rfl #[.int .i64 a0] rfl (by (try simp only [List.map_toArray, List.map_cons, List.map_nil]); first | done | rfl | (simp only [List.length_drop, List.length_take]; rfl)) ?_; (with_reducible refine (fastiref09_Mod.calls a0 t152 _ A2.out).mono ?_); rintro e w' ⟨rfl, ⟨nd, rfl⟩⟩; refine ⟨_, rfl, ?_⟩))
    go_ret2
    exact ⟨by first | rfl | (simp; done) | (simp [*]; done), by repeat (first | exact Drawn0.refl _ | apply Drawn0.step)⟩
  · rw [if_neg c3] at H
    have c3b0 : (t152 == 0) = false := beq_eq_false_iff_ne.mpr c3
    have c3b1 : (t152 != 0) = true := bne_iff_ne.mpr c3
    replace H := Option.bind_eq_some_iff.mp H
    obtain ⟨t153, A40, H⟩ := H
    replace H : (some (t153, 0)) = some (r1, r2) := H
    have A4 := Aside0.mk A40
    clear A40
    simp only [Option.some.injEq, Prod.mk.injEq] at H
    obtain ⟨rfl, rfl⟩ := H
    go_enter Try.func11, Try.ntmps11
    go_wp2_with (first | ((with_reducible refine gate_callee (f := 13) rfl ?_); refine goesL_ (some 5) rfl rfl Try.func13 (by kernel_rfl) rfl #[.int .i64 a0] rfl (by (try simp only [List.map_toArray, List.map_cons, List.map_nil]); first | done | rfl | (simp only [List.length_drop, List.length_take]; rfl)) ?_; (with_reducible refine (fastiref09_Mod.calls a0 t152 _ A2.out).mono ?_); rintro e w' ⟨rfl, ⟨nd, rfl⟩⟩; refine ⟨_, rfl, ?_⟩) | ((with_reducible refine gate_callee (f := 25) rfl ?_); refine goesL_ (some 8) rfl rfl Try.func25 (by kernel_rfl) rfl #[.int .i64 a0, .int .i64 1073741787] rfl (by (try simp only [List.map_toArray, List.map_cons, List.map_nil]); first | done | rfl | (simp only [List.length_drop, List.length_take]; rfl)) ?_; (with_reducible refine (fastiref09_power.calls k a0 1073741787 t153 _ A4.out).mono ?_); rintro e w' ⟨rfl, ⟨nd, rfl⟩⟩; refine ⟨_, rfl, ?_⟩))
    go_ret2
    exact ⟨by first | rfl | (simp; done) | (simp [*]; done), by repeat (first | exact Drawn0.refl _ | apply Drawn0.step)⟩

end Go.Proofs.Ytbbffpgnjdejiaa.P
