-- written by wip/tools/gprint.py, a driver of this session's over the kit's print, out of the translation: Lean checks it.
import Derived.Test.YthddaojdlfifeaaP0
namespace Go.Proofs.Ythddaojdlfifeaa.P
open Go.RowKit Go.Proofs.YthddaojdlfifeaaW.PrintWords Go.Proofs.YthddaojdlfifeaaW.PrintLast Go.Proofs.YthddaojdlfifeaaW.PrintMore
attribute [local go_sem] max2_int min2_int max_two min_two max_three min_three max_four min_four   -- for this text's walks alone
set_option linter.unusedVariables false
set_option linter.unusedSimpArgs false

/-! ### fastiref20_once: function 33 -/
mutual
def fastiref20_once.l0 : Nat → Int → List (S37) → Int → Option (Bool)
 | 0, _, _, _ => none
 | k + 1, x0, x1, x5 => if x5 < (x1.length : Int) then (fastiref20_once.l1 k x0 x1 x5 0) else (some ((x1.length : Int) == (wrap64 (Int.tdiv (wrap64 (x0 * (wrap64 (x0 - 1)))) 2))))
def fastiref20_once.l1 : Nat → Int → List (S37) → Int → Int → Option (Bool)
 | 0, _, _, _, _ => none
 | k + 1, x0, x1, x5, x6 => if x6 < x5 then (if 0 ≤ x5 then (if x5 < (x1.length : Int) then (if 0 ≤ x6 then (if x6 < (x1.length : Int) then (if ((rd_T37 x1 x5).f1) = ((rd_T37 x1 x6).f1) then (if ((rd_T37 x1 x5).f2) = ((rd_T37 x1 x6).f2) then (some false) else (if ((rd_T37 x1 x5).f1) = ((rd_T37 x1 x6).f2) then (if ((rd_T37 x1 x5).f2) = ((rd_T37 x1 x6).f1) then (some false) else (fastiref20_once.l1 k x0 x1 x5 (wrap64 (x6 + 1)))) else (fastiref20_once.l1 k x0 x1 x5 (wrap64 (x6 + 1))))) else (if ((rd_T37 x1 x5).f1) = ((rd_T37 x1 x6).f2) then (if ((rd_T37 x1 x5).f2) = ((rd_T37 x1 x6).f1) then (some false) else (fastiref20_once.l1 k x0 x1 x5 (wrap64 (x6 + 1)))) else (fastiref20_once.l1 k x0 x1 x5 (wrap64 (x6 + 1))))) else (none)) else (none)) else (none)) else (none)) else (fastiref20_once.l0 k x0 x1 (wrap64 (x5 + 1)))
end
def fastiref20_once.f (k : Nat) (a0 : Int) (l1 : List (S37)) : Option (Bool) := fastiref20_once.l0 k a0 l1 0
set_option maxHeartbeats 8000000 in
set_option maxRecDepth 100000 in
theorem fastiref20_once.calls (k : Nat) (a0 : Int) (A1 : Option Addr) (c1 : Nat) (l1 : List (S37)) (r : Bool) (w : World) (hr1 : Kd.C k37 w A1 l1.length l1) (hc1 : l1.length ≤ c1) (h : fastiref20_once.f k a0 l1 = some r) :
  Calls Try.prog 33 #[.int .i64 a0, .slice A1 l1.length c1] w fun e w' => e = .returned (.bool r) ∧ Drawn0 w w' := by
 have HR1 := Aside0.mk hr1
 have HC1 := Aside0.mk hc1
 clear hr1 hc1
 have H : (fastiref20_once.l0 k a0 l1 0) = some r := h
 clear h
 have H' := Aside0.mk H
 clear H
 go_enter Try.func33, Try.ntmps33
 go_wp2
 repeat (go_quiet (fail); try go_wp2)
 go_loopg [5] k (fun kq v5 w' => ∃ (x5_1 : Int), v5 = .int .i64 x5_1 ∧ Aside0 (fastiref20_once.l0 kq a0 l1 x5_1 = some r) ∧ Aside0 (kq ≤ k) ∧ Drawn0 w w')
 case atStart => exact ⟨(0), (by first | rfl | (simp; done) | (simp [*]; done)), H', ⟨Nat.le_refl _⟩, by repeat (first | exact Drawn0.refl _ | apply Drawn0.step)⟩
 case round =>
  clear H'
  try clear c1
  try clear p2
  obtain ⟨x5_1, rfl, HA, HK1, ⟨m1, rfl⟩⟩ := hrel
  cases gk with
  | zero => exact absurd HA.out (by simp [fastiref20_once.l0])
  | succ k1 =>
   have H := HA.out
   clear HA
   simp only [fastiref20_once.l0] at H
   by_cases c3 : x5_1 < (l1.length : Int)
   ·rw [if_pos c3] at H
    have c3b0 : decide (x5_1 < (l1.length : Int)) = true := decide_eq_true c3
    clear c3
    have H' := Aside0.mk H
    clear H
    go_wp2
    repeat (go_quiet (fail); try go_wp2)
    go_loopg [6] k1 (fun kq v6 w' => ∃ (x6_2 : Int), v6 = .int .i64 x6_2 ∧ Aside0 (fastiref20_once.l1 kq a0 l1 x5_1 x6_2 = some r) ∧ Aside0 (kq ≤ k1) ∧ Drawn0 w w')
    case atStart => exact ⟨(0), (by first | rfl | (simp; done) | (simp [*]; done)), H', ⟨Nat.le_refl _⟩, by repeat (first | exact Drawn0.refl _ | apply Drawn0.step)⟩
    case round =>
     clear H'
     try clear c1
     try clear p2
     try clear c3
     try clear c3b0
     try clear p2
     obtain ⟨x6_2, rfl, HA, HK2, ⟨m2, rfl⟩⟩ := hrel
     cases gk with
     | zero => exact absurd HA.out (by simp [fastiref20_once.l1])
     | succ k2 =>
      have H := HA.out
      clear HA
      simp only [fastiref20_once.l1] at H
      by_cases c4 : x6_2 < x5_1
      ·rw [if_pos c4] at H
       have c4b0 : decide (x6_2 < x5_1) = true := decide_eq_true c4
       clear c4
       by_cases c5 : 0 ≤ x5_1
       ·rw [if_pos c5] at H
        have c5b0 : decide (0 ≤ x5_1) = true := decide_eq_true c5
        clear c5
        by_cases c6 : x5_1 < (l1.length : Int)
        ·rw [if_pos c6] at H
         have c6b0 : decide (x5_1 < (l1.length : Int)) = true := decide_eq_true c6
         clear c6
         by_cases c7 : 0 ≤ x6_2
         ·rw [if_pos c7] at H
          have c7b0 : decide (0 ≤ x6_2) = true := decide_eq_true c7
          clear c7
          by_cases c8 : x6_2 < (l1.length : Int)
          ·rw [if_pos c8] at H
           have c8b0 : decide (x6_2 < (l1.length : Int)) = true := decide_eq_true c8
           clear c8
           by_cases c9 : ((rd_T37 l1 x5_1).f1) = ((rd_T37 l1 x6_2).f1)
           ·rw [if_pos c9] at H
            have c9b0 : (((rd_T37 l1 x5_1).f1) == ((rd_T37 l1 x6_2).f1)) = true := beq_iff_eq.mpr c9
            have c9b1 : (((rd_T37 l1 x5_1).f1) != ((rd_T37 l1 x6_2).f1)) = false := bne_eq_false_iff_eq.mpr c9
            clear c9
            by_cases c10 : ((rd_T37 l1 x5_1).f2) = ((rd_T37 l1 x6_2).f2)
            ·rw [if_pos c10] at H
             have c10b0 : (((rd_T37 l1 x5_1).f2) == ((rd_T37 l1 x6_2).f2)) = true := beq_iff_eq.mpr c10
             have c10b1 : (((rd_T37 l1 x5_1).f2) != ((rd_T37 l1 x6_2).f2)) = false := bne_eq_false_iff_eq.mpr c10
             clear c10
             obtain rfl := Option.some.inj H
             have p239 : 0 ≤ (x5_1 : Int) := of_decide_eq_true (by first | (with_reducible assumption) | assumption)
             have q239 : x5_1 < (l1.length : Int) := of_decide_eq_true (by first | (with_reducible assumption) | assumption)
             obtain ⟨ad239, e239, hx239_0, hx239_1, hx239_2⟩ := at_T37 HR1.out x5_1 p239 q239
             cases e239
             replace p239 := eq_true p239
             replace q239 := eq_true q239
             have p240 : 0 ≤ (x6_2 : Int) := of_decide_eq_true (by first | (with_reducible assumption) | assumption)
             have q240 : x6_2 < (l1.length : Int) := of_decide_eq_true (by first | (with_reducible assumption) | assumption)
             obtain ⟨ad240, e240, hx240_0, hx240_1, hx240_2⟩ := at_T37 HR1.out x6_2 p240 q240
             obtain rfl : ad239 = ad240 := (by injection e240)
             replace p240 := eq_true p240
             replace q240 := eq_true q240
             have p241 : 0 ≤ (x5_1 : Int) := of_decide_eq_true (by first | (with_reducible assumption) | assumption)
             have q241 : x5_1 < (l1.length : Int) := of_decide_eq_true (by first | (with_reducible assumption) | assumption)
             obtain ⟨ad241, e241, hx241_0, hx241_1, hx241_2⟩ := at_T37 HR1.out x5_1 p241 q241
             obtain rfl : ad239 = ad241 := (by injection e241)
             replace p241 := eq_true p241
             replace q241 := eq_true q241
             have p242 : 0 ≤ (x6_2 : Int) := of_decide_eq_true (by first | (with_reducible assumption) | assumption)
             have q242 : x6_2 < (l1.length : Int) := of_decide_eq_true (by first | (with_reducible assumption) | assumption)
             obtain ⟨ad242, e242, hx242_0, hx242_1, hx242_2⟩ := at_T37 HR1.out x6_2 p242 q242
             obtain rfl : ad239 = ad242 := (by injection e242)
             replace p242 := eq_true p242
             replace q242 := eq_true q242
             go_wp2
             repeat (go_quiet (fail); try go_wp2)
             go_ret
             exact ⟨by first | rfl | (simp; done) | (simp [*]; done), by repeat (first | exact Drawn0.refl _ | apply Drawn0.step)⟩
            ·rw [if_neg c10] at H
             have c10b0 : (((rd_T37 l1 x5_1).f2) == ((rd_T37 l1 x6_2).f2)) = false := beq_eq_false_iff_ne.mpr c10
             have c10b1 : (((rd_T37 l1 x5_1).f2) != ((rd_T37 l1 x6_2).f2)) = true := bne_iff_ne.mpr c10
             by_cases c11 : ((rd_T37 l1 x5_1).f1) = ((rd_T37 l1 x6_2).f2)
             ·rw [if_pos c11] at H
              have c11b0 : (((rd_T37 l1 x5_1).f1) == ((rd_T37 l1 x6_2).f2)) = true := beq_iff_eq.mpr c11
              have c11b1 : (((rd_T37 l1 x5_1).f1) != ((rd_T37 l1 x6_2).f2)) = false := bne_eq_false_iff_eq.mpr c11
              clear c11
              by_cases c12 : ((rd_T37 l1 x5_1).f2) = ((rd_T37 l1 x6_2).f1)
              ·rw [if_pos c12] at H
               have c12b0 : (((rd_T37 l1 x5_1).f2) == ((rd_T37 l1 x6_2).f1)) = true := beq_iff_eq.mpr c12
               have c12b1 : (((rd_T37 l1 x5_1).f2) != ((rd_T37 l1 x6_2).f1)) = false := bne_eq_false_iff_eq.mpr c12
               clear c12
               obtain rfl := Option.some.inj H
               have p239 : 0 ≤ (x5_1 : Int) := of_decide_eq_true (by first | (with_reducible assumption) | assumption)
               have q239 : x5_1 < (l1.length : Int) := of_decide_eq_true (by first | (with_reducible assumption) | assumption)
               obtain ⟨ad239, e239, hx239_0, hx239_1, hx239_2⟩ := at_T37 HR1.out x5_1 p239 q239
               cases e239
               replace p239 := eq_true p239
               replace q239 := eq_true q239
               have p240 : 0 ≤ (x6_2 : Int) := of_decide_eq_true (by first | (with_reducible assumption) | assumption)
               have q240 : x6_2 < (l1.length : Int) := of_decide_eq_true (by first | (with_reducible assumption) | assumption)
               obtain ⟨ad240, e240, hx240_0, hx240_1, hx240_2⟩ := at_T37 HR1.out x6_2 p240 q240
               obtain rfl : ad239 = ad240 := (by injection e240)
               replace p240 := eq_true p240
               replace q240 := eq_true q240
               have p241 : 0 ≤ (x5_1 : Int) := of_decide_eq_true (by first | (with_reducible assumption) | assumption)
               have q241 : x5_1 < (l1.length : Int) := of_decide_eq_true (by first | (with_reducible assumption) | assumption)
               obtain ⟨ad241, e241, hx241_0, hx241_1, hx241_2⟩ := at_T37 HR1.out x5_1 p241 q241
               obtain rfl : ad239 = ad241 := (by injection e241)
               replace p241 := eq_true p241
               replace q241 := eq_true q241
               have p242 : 0 ≤ (x6_2 : Int) := of_decide_eq_true (by first | (with_reducible assumption) | assumption)
               have q242 : x6_2 < (l1.length : Int) := of_decide_eq_true (by first | (with_reducible assumption) | assumption)
               obtain ⟨ad242, e242, hx242_0, hx242_1, hx242_2⟩ := at_T37 HR1.out x6_2 p242 q242
               obtain rfl : ad239 = ad242 := (by injection e242)
               replace p242 := eq_true p242
               replace q242 := eq_true q242
               have p243 : 0 ≤ (x5_1 : Int) := of_decide_eq_true (by first | (with_reducible assumption) | assumption)
               have q243 : x5_1 < (l1.length : Int) := of_decide_eq_true (by first | (with_reducible assumption) | assumption)
               obtain ⟨ad243, e243, hx243_0, hx243_1, hx243_2⟩ := at_T37 HR1.out x5_1 p243 q243
               obtain rfl : ad239 = ad243 := (by injection e243)
               replace p243 := eq_true p243
               replace q243 := eq_true q243
               have p244 : 0 ≤ (x6_2 : Int) := of_decide_eq_true (by first | (with_reducible assumption) | assumption)
               have q244 : x6_2 < (l1.length : Int) := of_decide_eq_true (by first | (with_reducible assumption) | assumption)
               obtain ⟨ad244, e244, hx244_0, hx244_1, hx244_2⟩ := at_T37 HR1.out x6_2 p244 q244
               obtain rfl : ad239 = ad244 := (by injection e244)
               replace p244 := eq_true p244
               replace q244 := eq_true q244
               have p245 : 0 ≤ (x5_1 : Int) := of_decide_eq_true (by first | (with_reducible assumption) | assumption)
               have q245 : x5_1 < (l1.length : Int) := of_decide_eq_true (by first | (with_reducible assumption) | assumption)
               obtain ⟨ad245, e245, hx245_0, hx245_1, hx245_2⟩ := at_T37 HR1.out x5_1 p245 q245
               obtain rfl : ad239 = ad245 := (by injection e245)
               replace p245 := eq_true p245
               replace q245 := eq_true q245
               have p246 : 0 ≤ (x6_2 : Int) := of_decide_eq_true (by first | (with_reducible assumption) | assumption)
               have q246 : x6_2 < (l1.length : Int) := of_decide_eq_true (by first | (with_reducible assumption) | assumption)
               obtain ⟨ad246, e246, hx246_0, hx246_1, hx246_2⟩ := at_T37 HR1.out x6_2 p246 q246
               obtain rfl : ad239 = ad246 := (by injection e246)
               replace p246 := eq_true p246
               replace q246 := eq_true q246
               go_wp2
               repeat (go_quiet (fail); try go_wp2)
               go_ret
               exact ⟨by first | rfl | (simp; done) | (simp [*]; done), by repeat (first | exact Drawn0.refl _ | apply Drawn0.step)⟩
              ·rw [if_neg c12] at H
               have c12b0 : (((rd_T37 l1 x5_1).f2) == ((rd_T37 l1 x6_2).f1)) = false := beq_eq_false_iff_ne.mpr c12
               have c12b1 : (((rd_T37 l1 x5_1).f2) != ((rd_T37 l1 x6_2).f1)) = true := bne_iff_ne.mpr c12
               have H' := Aside0.mk H
               clear H
               have p239 : 0 ≤ (x5_1 : Int) := of_decide_eq_true (by first | (with_reducible assumption) | assumption)
               have q239 : x5_1 < (l1.length : Int) := of_decide_eq_true (by first | (with_reducible assumption) | assumption)
               obtain ⟨ad239, e239, hx239_0, hx239_1, hx239_2⟩ := at_T37 HR1.out x5_1 p239 q239
               cases e239
               replace p239 := eq_true p239
               replace q239 := eq_true q239
               have p240 : 0 ≤ (x6_2 : Int) := of_decide_eq_true (by first | (with_reducible assumption) | assumption)
               have q240 : x6_2 < (l1.length : Int) := of_decide_eq_true (by first | (with_reducible assumption) | assumption)
               obtain ⟨ad240, e240, hx240_0, hx240_1, hx240_2⟩ := at_T37 HR1.out x6_2 p240 q240
               obtain rfl : ad239 = ad240 := (by injection e240)
               replace p240 := eq_true p240
               replace q240 := eq_true q240
               have p241 : 0 ≤ (x5_1 : Int) := of_decide_eq_true (by first | (with_reducible assumption) | assumption)
               have q241 : x5_1 < (l1.length : Int) := of_decide_eq_true (by first | (with_reducible assumption) | assumption)
               obtain ⟨ad241, e241, hx241_0, hx241_1, hx241_2⟩ := at_T37 HR1.out x5_1 p241 q241
               obtain rfl : ad239 = ad241 := (by injection e241)
               replace p241 := eq_true p241
               replace q241 := eq_true q241
               have p242 : 0 ≤ (x6_2 : Int) := of_decide_eq_true (by first | (with_reducible assumption) | assumption)
               have q242 : x6_2 < (l1.length : Int) := of_decide_eq_true (by first | (with_reducible assumption) | assumption)
               obtain ⟨ad242, e242, hx242_0, hx242_1, hx242_2⟩ := at_T37 HR1.out x6_2 p242 q242
               obtain rfl : ad239 = ad242 := (by injection e242)
               replace p242 := eq_true p242
               replace q242 := eq_true q242
               have p243 : 0 ≤ (x5_1 : Int) := of_decide_eq_true (by first | (with_reducible assumption) | assumption)
               have q243 : x5_1 < (l1.length : Int) := of_decide_eq_true (by first | (with_reducible assumption) | assumption)
               obtain ⟨ad243, e243, hx243_0, hx243_1, hx243_2⟩ := at_T37 HR1.out x5_1 p243 q243
               obtain rfl : ad239 = ad243 := (by injection e243)
               replace p243 := eq_true p243
               replace q243 := eq_true q243
               have p244 : 0 ≤ (x6_2 : Int) := of_decide_eq_true (by first | (with_reducible assumption) | assumption)
               have q244 : x6_2 < (l1.length : Int) := of_decide_eq_true (by first | (with_reducible assumption) | assumption)
               obtain ⟨ad244, e244, hx244_0, hx244_1, hx244_2⟩ := at_T37 HR1.out x6_2 p244 q244
               obtain rfl : ad239 = ad244 := (by injection e244)
               replace p244 := eq_true p244
               replace q244 := eq_true q244
               have p245 : 0 ≤ (x5_1 : Int) := of_decide_eq_true (by first | (with_reducible assumption) | assumption)
               have q245 : x5_1 < (l1.length : Int) := of_decide_eq_true (by first | (with_reducible assumption) | assumption)
               obtain ⟨ad245, e245, hx245_0, hx245_1, hx245_2⟩ := at_T37 HR1.out x5_1 p245 q245
               obtain rfl : ad239 = ad245 := (by injection e245)
               replace p245 := eq_true p245
               replace q245 := eq_true q245
               have p246 : 0 ≤ (x6_2 : Int) := of_decide_eq_true (by first | (with_reducible assumption) | assumption)
               have q246 : x6_2 < (l1.length : Int) := of_decide_eq_true (by first | (with_reducible assumption) | assumption)
               obtain ⟨ad246, e246, hx246_0, hx246_1, hx246_2⟩ := at_T37 HR1.out x6_2 p246 q246
               obtain rfl : ad239 = ad246 := (by injection e246)
               replace p246 := eq_true p246
               replace q246 := eq_true q246
               go_wp2
               repeat (go_quiet (fail); try go_wp2)
               go_roundg k2
               case measure => have := HK1.out; have := HK2.out; omega
               case rel => exact ⟨(wrap64 (x6_2 + 1)), (by first | rfl | (simp; done) | (simp [*]; done)), H', ⟨by have := HK1.out; have := HK2.out; omega⟩, by repeat (first | exact Drawn0.refl _ | apply Drawn0.step)⟩
             ·rw [if_neg c11] at H
              have c11b0 : (((rd_T37 l1 x5_1).f1) == ((rd_T37 l1 x6_2).f2)) = false := beq_eq_false_iff_ne.mpr c11
              have c11b1 : (((rd_T37 l1 x5_1).f1) != ((rd_T37 l1 x6_2).f2)) = true := bne_iff_ne.mpr c11
              have H' := Aside0.mk H
              clear H
              have p239 : 0 ≤ (x5_1 : Int) := of_decide_eq_true (by first | (with_reducible assumption) | assumption)
              have q239 : x5_1 < (l1.length : Int) := of_decide_eq_true (by first | (with_reducible assumption) | assumption)
              obtain ⟨ad239, e239, hx239_0, hx239_1, hx239_2⟩ := at_T37 HR1.out x5_1 p239 q239
              cases e239
              replace p239 := eq_true p239
              replace q239 := eq_true q239
              have p240 : 0 ≤ (x6_2 : Int) := of_decide_eq_true (by first | (with_reducible assumption) | assumption)
              have q240 : x6_2 < (l1.length : Int) := of_decide_eq_true (by first | (with_reducible assumption) | assumption)
              obtain ⟨ad240, e240, hx240_0, hx240_1, hx240_2⟩ := at_T37 HR1.out x6_2 p240 q240
              obtain rfl : ad239 = ad240 := (by injection e240)
              replace p240 := eq_true p240
              replace q240 := eq_true q240
              have p241 : 0 ≤ (x5_1 : Int) := of_decide_eq_true (by first | (with_reducible assumption) | assumption)
              have q241 : x5_1 < (l1.length : Int) := of_decide_eq_true (by first | (with_reducible assumption) | assumption)
              obtain ⟨ad241, e241, hx241_0, hx241_1, hx241_2⟩ := at_T37 HR1.out x5_1 p241 q241
              obtain rfl : ad239 = ad241 := (by injection e241)
              replace p241 := eq_true p241
              replace q241 := eq_true q241
              have p242 : 0 ≤ (x6_2 : Int) := of_decide_eq_true (by first | (with_reducible assumption) | assumption)
              have q242 : x6_2 < (l1.length : Int) := of_decide_eq_true (by first | (with_reducible assumption) | assumption)
              obtain ⟨ad242, e242, hx242_0, hx242_1, hx242_2⟩ := at_T37 HR1.out x6_2 p242 q242
              obtain rfl : ad239 = ad242 := (by injection e242)
              replace p242 := eq_true p242
              replace q242 := eq_true q242
              have p243 : 0 ≤ (x5_1 : Int) := of_decide_eq_true (by first | (with_reducible assumption) | assumption)
              have q243 : x5_1 < (l1.length : Int) := of_decide_eq_true (by first | (with_reducible assumption) | assumption)
              obtain ⟨ad243, e243, hx243_0, hx243_1, hx243_2⟩ := at_T37 HR1.out x5_1 p243 q243
              obtain rfl : ad239 = ad243 := (by injection e243)
              replace p243 := eq_true p243
              replace q243 := eq_true q243
              have p244 : 0 ≤ (x6_2 : Int) := of_decide_eq_true (by first | (with_reducible assumption) | assumption)
              have q244 : x6_2 < (l1.length : Int) := of_decide_eq_true (by first | (with_reducible assumption) | assumption)
              obtain ⟨ad244, e244, hx244_0, hx244_1, hx244_2⟩ := at_T37 HR1.out x6_2 p244 q244
              obtain rfl : ad239 = ad244 := (by injection e244)
              replace p244 := eq_true p244
              replace q244 := eq_true q244
              go_wp2
              repeat (go_quiet (fail); try go_wp2)
              go_roundg k2
              case measure => have := HK1.out; have := HK2.out; omega
              case rel => exact ⟨(wrap64 (x6_2 + 1)), (by first | rfl | (simp; done) | (simp [*]; done)), H', ⟨by have := HK1.out; have := HK2.out; omega⟩, by repeat (first | exact Drawn0.refl _ | apply Drawn0.step)⟩
           ·rw [if_neg c9] at H
            have c9b0 : (((rd_T37 l1 x5_1).f1) == ((rd_T37 l1 x6_2).f1)) = false := beq_eq_false_iff_ne.mpr c9
            have c9b1 : (((rd_T37 l1 x5_1).f1) != ((rd_T37 l1 x6_2).f1)) = true := bne_iff_ne.mpr c9
            by_cases c13 : ((rd_T37 l1 x5_1).f1) = ((rd_T37 l1 x6_2).f2)
            ·rw [if_pos c13] at H
             have c13b0 : (((rd_T37 l1 x5_1).f1) == ((rd_T37 l1 x6_2).f2)) = true := beq_iff_eq.mpr c13
             have c13b1 : (((rd_T37 l1 x5_1).f1) != ((rd_T37 l1 x6_2).f2)) = false := bne_eq_false_iff_eq.mpr c13
             clear c13
             by_cases c14 : ((rd_T37 l1 x5_1).f2) = ((rd_T37 l1 x6_2).f1)
             ·rw [if_pos c14] at H
              have c14b0 : (((rd_T37 l1 x5_1).f2) == ((rd_T37 l1 x6_2).f1)) = true := beq_iff_eq.mpr c14
              have c14b1 : (((rd_T37 l1 x5_1).f2) != ((rd_T37 l1 x6_2).f1)) = false := bne_eq_false_iff_eq.mpr c14
              clear c14
              obtain rfl := Option.some.inj H
              have p239 : 0 ≤ (x5_1 : Int) := of_decide_eq_true (by first | (with_reducible assumption) | assumption)
              have q239 : x5_1 < (l1.length : Int) := of_decide_eq_true (by first | (with_reducible assumption) | assumption)
              obtain ⟨ad239, e239, hx239_0, hx239_1, hx239_2⟩ := at_T37 HR1.out x5_1 p239 q239
              cases e239
              replace p239 := eq_true p239
              replace q239 := eq_true q239
              have p240 : 0 ≤ (x6_2 : Int) := of_decide_eq_true (by first | (with_reducible assumption) | assumption)
              have q240 : x6_2 < (l1.length : Int) := of_decide_eq_true (by first | (with_reducible assumption) | assumption)
              obtain ⟨ad240, e240, hx240_0, hx240_1, hx240_2⟩ := at_T37 HR1.out x6_2 p240 q240
              obtain rfl : ad239 = ad240 := (by injection e240)
              replace p240 := eq_true p240
              replace q240 := eq_true q240
              have p247 : 0 ≤ (x5_1 : Int) := of_decide_eq_true (by first | (with_reducible assumption) | assumption)
              have q247 : x5_1 < (l1.length : Int) := of_decide_eq_true (by first | (with_reducible assumption) | assumption)
              obtain ⟨ad247, e247, hx247_0, hx247_1, hx247_2⟩ := at_T37 HR1.out x5_1 p247 q247
              obtain rfl : ad239 = ad247 := (by injection e247)
              replace p247 := eq_true p247
              replace q247 := eq_true q247
              have p248 : 0 ≤ (x6_2 : Int) := of_decide_eq_true (by first | (with_reducible assumption) | assumption)
              have q248 : x6_2 < (l1.length : Int) := of_decide_eq_true (by first | (with_reducible assumption) | assumption)
              obtain ⟨ad248, e248, hx248_0, hx248_1, hx248_2⟩ := at_T37 HR1.out x6_2 p248 q248
              obtain rfl : ad239 = ad248 := (by injection e248)
              replace p248 := eq_true p248
              replace q248 := eq_true q248
              have p249 : 0 ≤ (x5_1 : Int) := of_decide_eq_true (by first | (with_reducible assumption) | assumption)
              have q249 : x5_1 < (l1.length : Int) := of_decide_eq_true (by first | (with_reducible assumption) | assumption)
              obtain ⟨ad249, e249, hx249_0, hx249_1, hx249_2⟩ := at_T37 HR1.out x5_1 p249 q249
              obtain rfl : ad239 = ad249 := (by injection e249)
              replace p249 := eq_true p249
              replace q249 := eq_true q249
              have p250 : 0 ≤ (x6_2 : Int) := of_decide_eq_true (by first | (with_reducible assumption) | assumption)
              have q250 : x6_2 < (l1.length : Int) := of_decide_eq_true (by first | (with_reducible assumption) | assumption)
              obtain ⟨ad250, e250, hx250_0, hx250_1, hx250_2⟩ := at_T37 HR1.out x6_2 p250 q250
              obtain rfl : ad239 = ad250 := (by injection e250)
              replace p250 := eq_true p250
              replace q250 := eq_true q250
              go_wp2
              repeat (go_quiet (fail); try go_wp2)
              go_ret
              exact ⟨by first | rfl | (simp; done) | (simp [*]; done), by repeat (first | exact Drawn0.refl _ | apply Drawn0.step)⟩
             ·rw [if_neg c14] at H
              have c14b0 : (((rd_T37 l1 x5_1).f2) == ((rd_T37 l1 x6_2).f1)) = false := beq_eq_false_iff_ne.mpr c14
              have c14b1 : (((rd_T37 l1 x5_1).f2) != ((rd_T37 l1 x6_2).f1)) = true := bne_iff_ne.mpr c14
              have H' := Aside0.mk H
              clear H
              have p239 : 0 ≤ (x5_1 : Int) := of_decide_eq_true (by first | (with_reducible assumption) | assumption)
              have q239 : x5_1 < (l1.length : Int) := of_decide_eq_true (by first | (with_reducible assumption) | assumption)
              obtain ⟨ad239, e239, hx239_0, hx239_1, hx239_2⟩ := at_T37 HR1.out x5_1 p239 q239
              cases e239
              replace p239 := eq_true p239
              replace q239 := eq_true q239
              have p240 : 0 ≤ (x6_2 : Int) := of_decide_eq_true (by first | (with_reducible assumption) | assumption)
              have q240 : x6_2 < (l1.length : Int) := of_decide_eq_true (by first | (with_reducible assumption) | assumption)
              obtain ⟨ad240, e240, hx240_0, hx240_1, hx240_2⟩ := at_T37 HR1.out x6_2 p240 q240
              obtain rfl : ad239 = ad240 := (by injection e240)
              replace p240 := eq_true p240
              replace q240 := eq_true q240
              have p247 : 0 ≤ (x5_1 : Int) := of_decide_eq_true (by first | (with_reducible assumption) | assumption)
              have q247 : x5_1 < (l1.length : Int) := of_decide_eq_true (by first | (with_reducible assumption) | assumption)
              obtain ⟨ad247, e247, hx247_0, hx247_1, hx247_2⟩ := at_T37 HR1.out x5_1 p247 q247
              obtain rfl : ad239 = ad247 := (by injection e247)
              replace p247 := eq_true p247
              replace q247 := eq_true q247
              have p248 : 0 ≤ (x6_2 : Int) := of_decide_eq_true (by first | (with_reducible assumption) | assumption)
              have q248 : x6_2 < (l1.length : Int) := of_decide_eq_true (by first | (with_reducible assumption) | assumption)
              obtain ⟨ad248, e248, hx248_0, hx248_1, hx248_2⟩ := at_T37 HR1.out x6_2 p248 q248
              obtain rfl : ad239 = ad248 := (by injection e248)
              replace p248 := eq_true p248
              replace q248 := eq_true q248
              have p249 : 0 ≤ (x5_1 : Int) := of_decide_eq_true (by first | (with_reducible assumption) | assumption)
              have q249 : x5_1 < (l1.length : Int) := of_decide_eq_true (by first | (with_reducible assumption) | assumption)
              obtain ⟨ad249, e249, hx249_0, hx249_1, hx249_2⟩ := at_T37 HR1.out x5_1 p249 q249
              obtain rfl : ad239 = ad249 := (by injection e249)
              replace p249 := eq_true p249
              replace q249 := eq_true q249
              have p250 : 0 ≤ (x6_2 : Int) := of_decide_eq_true (by first | (with_reducible assumption) | assumption)
              have q250 : x6_2 < (l1.length : Int) := of_decide_eq_true (by first | (with_reducible assumption) | assumption)
              obtain ⟨ad250, e250, hx250_0, hx250_1, hx250_2⟩ := at_T37 HR1.out x6_2 p250 q250
              obtain rfl : ad239 = ad250 := (by injection e250)
              replace p250 := eq_true p250
              replace q250 := eq_true q250
              go_wp2
              repeat (go_quiet (fail); try go_wp2)
              go_roundg k2
              case measure => have := HK1.out; have := HK2.out; omega
              case rel => exact ⟨(wrap64 (x6_2 + 1)), (by first | rfl | (simp; done) | (simp [*]; done)), H', ⟨by have := HK1.out; have := HK2.out; omega⟩, by repeat (first | exact Drawn0.refl _ | apply Drawn0.step)⟩
            ·rw [if_neg c13] at H
             have c13b0 : (((rd_T37 l1 x5_1).f1) == ((rd_T37 l1 x6_2).f2)) = false := beq_eq_false_iff_ne.mpr c13
             have c13b1 : (((rd_T37 l1 x5_1).f1) != ((rd_T37 l1 x6_2).f2)) = true := bne_iff_ne.mpr c13
             have H' := Aside0.mk H
             clear H
             have p239 : 0 ≤ (x5_1 : Int) := of_decide_eq_true (by first | (with_reducible assumption) | assumption)
             have q239 : x5_1 < (l1.length : Int) := of_decide_eq_true (by first | (with_reducible assumption) | assumption)
             obtain ⟨ad239, e239, hx239_0, hx239_1, hx239_2⟩ := at_T37 HR1.out x5_1 p239 q239
             cases e239
             replace p239 := eq_true p239
             replace q239 := eq_true q239
             have p240 : 0 ≤ (x6_2 : Int) := of_decide_eq_true (by first | (with_reducible assumption) | assumption)
             have q240 : x6_2 < (l1.length : Int) := of_decide_eq_true (by first | (with_reducible assumption) | assumption)
             obtain ⟨ad240, e240, hx240_0, hx240_1, hx240_2⟩ := at_T37 HR1.out x6_2 p240 q240
             obtain rfl : ad239 = ad240 := (by injection e240)
             replace p240 := eq_true p240
             replace q240 := eq_true q240
             have p247 : 0 ≤ (x5_1 : Int) := of_decide_eq_true (by first | (with_reducible assumption) | assumption)
             have q247 : x5_1 < (l1.length : Int) := of_decide_eq_true (by first | (with_reducible assumption) | assumption)
             obtain ⟨ad247, e247, hx247_0, hx247_1, hx247_2⟩ := at_T37 HR1.out x5_1 p247 q247
             obtain rfl : ad239 = ad247 := (by injection e247)
             replace p247 := eq_true p247
             replace q247 := eq_true q247
             have p248 : 0 ≤ (x6_2 : Int) := of_decide_eq_true (by first | (with_reducible assumption) | assumption)
             have q248 : x6_2 < (l1.length : Int) := of_decide_eq_true (by first | (with_reducible assumption) | assumption)
             obtain ⟨ad248, e248, hx248_0, hx248_1, hx248_2⟩ := at_T37 HR1.out x6_2 p248 q248
             obtain rfl : ad239 = ad248 := (by injection e248)
             replace p248 := eq_true p248
             replace q248 := eq_true q248
             go_wp2
             repeat (go_quiet (fail); try go_wp2)
             go_roundg k2
             case measure => have := HK1.out; have := HK2.out; omega
             case rel => exact ⟨(wrap64 (x6_2 + 1)), (by first | rfl | (simp; done) | (simp [*]; done)), H', ⟨by have := HK1.out; have := HK2.out; omega⟩, by repeat (first | exact Drawn0.refl _ | apply Drawn0.step)⟩
          ·rw [if_neg c8] at H
           exact absurd H (by simp)
         ·rw [if_neg c7] at H
          exact absurd H (by simp)
        ·rw [if_neg c6] at H
         exact absurd H (by simp)
       ·rw [if_neg c5] at H
        exact absurd H (by simp)
      ·rw [if_neg c4] at H
       have c4b0 : decide (x6_2 < x5_1) = false := decide_eq_false c4
       clear c4
       have H' := Aside0.mk H
       clear H
       go_wp2
       repeat (go_quiet (fail); try go_wp2)
       go_roundg k2
       case measure => have := HK1.out; have := HK2.out; omega
       case rel => exact ⟨(wrap64 (x5_1 + 1)), (by first | rfl | (simp; done) | (simp [*]; done)), H', ⟨by have := HK1.out; have := HK2.out; omega⟩, by repeat (first | exact Drawn0.refl _ | apply Drawn0.step)⟩
   ·rw [if_neg c3] at H
    have c3b0 : decide (x5_1 < (l1.length : Int)) = false := decide_eq_false c3
    clear c3
    obtain rfl := Option.some.inj H
    go_wp2
    repeat (go_quiet (fail); try go_wp2)
    go_ret
    exact ⟨by first | rfl | (simp; done) | (simp [*]; done), by repeat (first | exact Drawn0.refl _ | apply Drawn0.step)⟩

/-! ### fastiref20_Of: function 34 -/
def fastiref20_Of.l0 : Nat → List (S37) → Int → List (S37) → Int → Option ((List (S37)))
 | 0, _, _, _, _ => none
 | k + 1, x0, x1, x5, x6 => if x6 < (x0.length : Int) then (if 0 ≤ x6 then (if ((rd_T37 x0 x6).f0) = x1 then (if x5.length < 5864062014805 then (fastiref20_Of.l0 k x0 x1 (x5 ++ [(⟨(rd_T37 x0 x6).f0, (rd_T37 x0 x6).f1, (rd_T37 x0 x6).f2⟩ : S37)]) (wrap64 (x6 + 1))) else (none)) else (fastiref20_Of.l0 k x0 x1 x5 (wrap64 (x6 + 1)))) else (none)) else (some x5)
def fastiref20_Of.f (k : Nat) (l0 : List (S37)) (a1 : Int) : Option ((List (S37))) := fastiref20_Of.l0 k l0 a1 ([] : List (S37)) 0
set_option maxHeartbeats 8000000 in
set_option maxRecDepth 100000 in
theorem fastiref20_Of.calls (k : Nat) (A0 : Option Addr) (c0 : Nat) (l0 : List (S37)) (a1 : Int) (r : List (S37)) (w : World) (hr0 : Kd.C k37 w A0 l0.length l0) (hc0 : l0.length ≤ c0) (h : fastiref20_Of.f k l0 a1 = some r) :
  Calls Try.prog 34 #[.slice A0 l0.length c0, .int .i64 a1] w fun e w' => ∃ v0_ : Value, e = .returned (v0_) ∧ Kd.R k37 37 w' w.heap.size (fun _ => True) v0_ r ∧ Below w.heap.size w w' := by
 have hu37 := Try.underlying37
 have HR0 := Aside0.mk hr0
 have HC0 := Aside0.mk hc0
 clear hr0 hc0
 have HB := Aside0.mk (Below.refl w.heap.size w)
 have H : (fastiref20_Of.l0 k l0 a1 ([] : List (S37)) 0) = some r := h
 clear h
 have H' := Aside0.mk H
 clear H
 go_enter Try.func34, Try.ntmps34
 go_wp2
 go_loopg [5, 6] k (fun kq v5 v6 w' => ∃ (x5_1 : List (S37)) (x6_1 : Int), v6 = .int .i64 x6_1 ∧ Aside0 (fastiref20_Of.l0 kq l0 a1 x5_1 x6_1 = some r) ∧ Aside0 (kq ≤ k) ∧ Aside0 (Kd.R k37 37 w' w.heap.size (fun _ => True) v5 x5_1) ∧ Aside0 (Below w.heap.size w w'))
 case atStart => exact ⟨(([] : List (S37))), (0), (by first | rfl | (simp; done) | (simp [*]; done)), H', ⟨Nat.le_refl _⟩, ⟨by first | exact Kd.R_nil _ _ _ _ _ | exact Kd.N_nil _ _ _ _ _ | exact Kd.V_nil _ _ _ _ _ | exact Kd.Q_nil _ _ _ _ _ | exact Kd.S_nil _ _ _ _ _⟩, ⟨by repeat (first | (with_reducible first | exact HB.out | apply below_alloc | apply pw_below_drewN | apply below_drew1) | exact HB.out)⟩⟩
 case round =>
  clear H'
  try clear p2
  obtain ⟨x5_1, x6_1, rfl, HA, HK1, HO_5, HB⟩ := hrel
  cases gk with
  | zero => exact absurd HA.out (by simp [fastiref20_Of.l0])
  | succ k1 =>
   have H := HA.out
   clear HA
   simp only [fastiref20_Of.l0] at H
   by_cases c3 : x6_1 < (l0.length : Int)
   ·rw [if_pos c3] at H
    have c3b0 : decide (x6_1 < (l0.length : Int)) = true := decide_eq_true c3
    clear c3
    by_cases c4 : 0 ≤ x6_1
    ·rw [if_pos c4] at H
     have c4b0 : decide (0 ≤ x6_1) = true := decide_eq_true c4
     clear c4
     by_cases c5 : ((rd_T37 l0 x6_1).f0) = a1
     ·rw [if_pos c5] at H
      have c5b0 : (((rd_T37 l0 x6_1).f0) == a1) = true := beq_iff_eq.mpr c5
      have c5b1 : (((rd_T37 l0 x6_1).f0) != a1) = false := bne_eq_false_iff_eq.mpr c5
      clear c5
      by_cases c6 : x5_1.length < 5864062014805
      ·rw [if_pos c6] at H
       have LMc6 := Aside0.mk c6
       clear c6
       obtain ⟨y253, hy253⟩ : ∃ y_ : List (S37), y_ = (x5_1 ++ [(⟨(rd_T37 l0 x6_1).f0, (rd_T37 l0 x6_1).f1, (rd_T37 l0 x6_1).f2⟩ : S37)]) := ⟨_, rfl⟩
       replace H : (fastiref20_Of.l0 k1 l0 a1 y253 (wrap64 (x6_1 + 1))) = some r := by first | (rw [hy253]; with_reducible exact H) | (have H2_ := (Option.bind_some _ _).symm.trans H; rw [hy253]; with_reducible exact H2_) | (have H2_ := (Option.bind_some _ _).symm.trans H; with_reducible exact H2_) | with_reducible exact H | (rw [hy253]; exact H) | exact H
       have Ny253 := Aside0.mk hy253
       clear hy253
       have H' := Aside0.mk H
       clear H
       have p251 : 0 ≤ (x6_1 : Int) := of_decide_eq_true (by first | (with_reducible assumption) | assumption)
       have q251 : x6_1 < (l0.length : Int) := of_decide_eq_true (by first | (with_reducible assumption) | assumption)
       obtain ⟨ad251, e251, hx251_0, hx251_1, hx251_2⟩ := at_T37 HR0.out x6_1 p251 q251
       cases e251
       replace hx251_0 := (HB.out.cell (World.block_lt_of_cell? w _ hx251_0)).trans hx251_0
       replace hx251_1 := (HB.out.cell (World.block_lt_of_cell? w _ hx251_1)).trans hx251_1
       replace hx251_2 := (HB.out.cell (World.block_lt_of_cell? w _ hx251_2)).trans hx251_2
       replace p251 := eq_true p251
       replace q251 := eq_true q251
       have p252 : 0 ≤ (x6_1 : Int) := of_decide_eq_true (by first | (with_reducible assumption) | assumption)
       have q252 : x6_1 < (l0.length : Int) := of_decide_eq_true (by first | (with_reducible assumption) | assumption)
       obtain ⟨ad252, e252, hx252_0, hx252_1, hx252_2⟩ := at_T37 HR0.out x6_1 p252 q252
       obtain rfl : ad251 = ad252 := (by injection e252)
       replace hx252_0 := (HB.out.cell (World.block_lt_of_cell? w _ hx252_0)).trans hx252_0
       replace hx252_1 := (HB.out.cell (World.block_lt_of_cell? w _ hx252_1)).trans hx252_1
       replace hx252_2 := (HB.out.cell (World.block_lt_of_cell? w _ hx252_2)).trans hx252_2
       replace p252 := eq_true p252
       replace q252 := eq_true q252
       go_wp2_with (first | ((with_reducible refine gate_builtin (b := .append) (xs := #[.tmp 20, .tmp 25]) rfl ?_); at_builtin; refine Kd.R_append k37 (w0 := w) w.heap.size rfl (.tmp 20) (.tmp 25) 26 37 (.agg #[(.int .i64 0), (.int .i64 0), (.int .i64 0)]) 24 rfl Try.underlying26 info37 rfl (by decide) (by omega) u5 x5_1 (⟨(rd_T37 l0 x6_1).f0, (rd_T37 l0 x6_1).f1, (rd_T37 l0 x6_1).f2⟩ : S37) [.int .i64 ((rd_T37 l0 x6_1).f0), .int .i64 ((rd_T37 l0 x6_1).f1), .int .i64 ((rd_T37 l0 x6_1).f2)] (fun _ => True) (fun _ => False) rfl rfl ?aP (fun _ hk => hk.elim) ?aF ?aO ?aB ?aS ?aL ?_; (case aP => exact k37_mkM _ _ _ (⟨(rd_T37 l0 x6_1).f0, (rd_T37 l0 x6_1).f1, (rd_T37 l0 x6_1).f2⟩ : S37)); (case aB => exact (by repeat (first | (with_reducible first | exact HB.out | apply below_alloc | apply pw_below_drewN | apply below_drew1) | exact HB.out))); (case aF => exact (fun _ _ => trivial)); (case aO => exact (by (with_reducible repeat (first | apply Kd.R_alloc | apply Kd.R_drewN | apply Kd.R_drew)); exact HO_5.out)); (case aS => exact (below_size (by repeat (first | (with_reducible first | exact HB.out | apply below_alloc | apply pw_below_drewN | apply below_drew1) | exact HB.out)))); (case aL => have := LMc6.out; omega); intro v254 w7 ho hb hg hat; rw [← Ny253.out] at ho; have n0_ := Aside0.mk (hb); have n1_ := Aside0.mk (ho); clear HB; clear HO_5; have HB := n0_; have HO255 := n1_; clear n0_ n1_; clear ho hb hg hat))
       go_roundg k1
       case measure => have := HK1.out; omega
       case rel => exact ⟨(y253), (wrap64 (x6_1 + 1)), (by first | rfl | (simp; done) | (simp [*]; done)), H', ⟨by have := HK1.out; omega⟩, ⟨by (with_reducible repeat (first | apply Kd.R_alloc | apply Kd.R_drewN | apply Kd.R_drew)); exact HO255.out⟩, ⟨by repeat (first | (with_reducible first | exact HB.out | apply below_alloc | apply pw_below_drewN | apply below_drew1) | exact HB.out)⟩⟩
      ·rw [if_neg c6] at H
       exact absurd H (by simp)
     ·rw [if_neg c5] at H
      have c5b0 : (((rd_T37 l0 x6_1).f0) == a1) = false := beq_eq_false_iff_ne.mpr c5
      have c5b1 : (((rd_T37 l0 x6_1).f0) != a1) = true := bne_iff_ne.mpr c5
      have H' := Aside0.mk H
      clear H
      have p251 : 0 ≤ (x6_1 : Int) := of_decide_eq_true (by first | (with_reducible assumption) | assumption)
      have q251 : x6_1 < (l0.length : Int) := of_decide_eq_true (by first | (with_reducible assumption) | assumption)
      obtain ⟨ad251, e251, hx251_0, hx251_1, hx251_2⟩ := at_T37 HR0.out x6_1 p251 q251
      cases e251
      replace hx251_0 := (HB.out.cell (World.block_lt_of_cell? w _ hx251_0)).trans hx251_0
      replace hx251_1 := (HB.out.cell (World.block_lt_of_cell? w _ hx251_1)).trans hx251_1
      replace hx251_2 := (HB.out.cell (World.block_lt_of_cell? w _ hx251_2)).trans hx251_2
      replace p251 := eq_true p251
      replace q251 := eq_true q251
      go_wp2
      go_roundg k1
      case measure => have := HK1.out; omega
      case rel => exact ⟨(x5_1), (wrap64 (x6_1 + 1)), (by first | rfl | (simp; done) | (simp [*]; done)), H', ⟨by have := HK1.out; omega⟩, ⟨by (with_reducible repeat (first | apply Kd.R_alloc | apply Kd.R_drewN | apply Kd.R_drew)); exact HO_5.out⟩, ⟨by repeat (first | (with_reducible first | exact HB.out | apply below_alloc | apply pw_below_drewN | apply below_drew1) | exact HB.out)⟩⟩
    ·rw [if_neg c4] at H
     exact absurd H (by simp)
   ·rw [if_neg c3] at H
    have c3b0 : decide (x6_1 < (l0.length : Int)) = false := decide_eq_false c3
    clear c3
    obtain rfl := Option.some.inj H
    go_wp2
    go_ret
    exact ⟨_, by first | rfl | (simp [errW_none, errW_some] <;> rfl) | (simp [*, errW_none, errW_some] <;> rfl), by (with_reducible repeat (first | apply Kd.R_alloc | apply Kd.R_drewN | apply Kd.R_drew)); exact HO_5.out, by repeat (first | (with_reducible first | exact HB.out | apply below_alloc | apply pw_below_drewN | apply below_drew1) | exact HB.out)⟩

end Go.Proofs.Ythddaojdlfifeaa.P
