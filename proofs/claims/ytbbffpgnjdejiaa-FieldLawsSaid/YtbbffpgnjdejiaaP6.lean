-- written by wip/tools/gprint.py, a driver of this session's over the kit's print, out of the translation: Lean checks it.
import Derived.Test.YtbbffpgnjdejiaaP0
import Derived.Test.YtbbffpgnjdejiaaP1
import Derived.Test.YtbbffpgnjdejiaaP2
import Derived.Test.YtbbffpgnjdejiaaP3
import Derived.Test.YtbbffpgnjdejiaaP5
import Derived.Test.YtbbffpgnjdejiaaGInv
namespace Go.Proofs.Ytbbffpgnjdejiaa.P
open Go.RowKit Go.Proofs.YtbbffpgnjdejiaaW.PrintWords Go.Proofs.YtbbffpgnjdejiaaW.PrintLast Go.Proofs.YtbbffpgnjdejiaaW.PrintMore
attribute [local go_sem] max2_int min2_int max_two min_two max_three min_three max_four min_four   -- for this text's walks alone
set_option linter.unusedVariables false
set_option linter.unusedSimpArgs false

/-! ### fastilaw09_FieldLaws: function 5 -/
mutual
def fastilaw09_FieldLaws.j0 : Nat → Int → Int → Int → Int → Int → Bool → Option (Bool)
  | 0, _, _, _, _, _, _ => none
  | k + 1, x0, x1, x2, x7, x8, x49 => if x49 = true then (some false) else ((field_Add.f k x0 x1).bind fun t190 => ((field_Add.f k x8 x7).bind fun t191 => (if t190 = t191 then ((field_Mul.f x0 x1).bind fun t192 => ((field_Mul.f x8 x7).bind fun t193 => (if t192 = t193 then ((field_Add.f k x0 x1).bind fun t194 => ((field_Add.f k t194 x2).bind fun t195 => ((field_Add.f k x1 x2).bind fun t196 => ((field_Add.f k x0 t196).bind fun t197 => (if t195 = t197 then ((field_Mul.f x0 x1).bind fun t198 => ((field_Mul.f t198 x2).bind fun t199 => ((field_Mul.f x1 x2).bind fun t200 => ((field_Mul.f x0 t200).bind fun t201 => (fastilaw09_FieldLaws.j1 k x0 x1 x2 x7 x8 (t199 != t201)))))) else (fastilaw09_FieldLaws.j1 k x0 x1 x2 x7 x8 true)))))) else (fastilaw09_FieldLaws.j1 k x0 x1 x2 x7 x8 true)))) else (fastilaw09_FieldLaws.j1 k x0 x1 x2 x7 x8 true))))
def fastilaw09_FieldLaws.j1 : Nat → Int → Int → Int → Int → Int → Bool → Option (Bool)
  | 0, _, _, _, _, _, _ => none
  | k + 1, x0, x1, x2, x7, x8, x91 => if x91 = true then (some false) else ((field_Add.f k x1 x2).bind fun t202 => ((field_Mul.f x0 t202).bind fun t203 => ((field_Mul.f x0 x1).bind fun t204 => ((field_Mul.f x0 x2).bind fun t205 => ((field_Add.f k t204 t205).bind fun t206 => (if t203 = t206 then ((field_Add.f k x0 0).bind fun t207 => (if t207 = x7 then ((field_Mul.f x0 1).bind fun t208 => (if t208 = x7 then ((field_Add.f k x7 (wrap64 (-x7))).bind fun t209 => (if t209 = 0 then ((field_Mul.f x0 x1).bind fun t210 => (if x7 = 0 then (fastilaw09_FieldLaws.j2 k x0 x7 ((t210 == 0) != true)) else (fastilaw09_FieldLaws.j2 k x0 x7 ((t210 == 0) != (x8 == 0))))) else (fastilaw09_FieldLaws.j2 k x0 x7 true))) else (fastilaw09_FieldLaws.j2 k x0 x7 true))) else (fastilaw09_FieldLaws.j2 k x0 x7 true))) else (fastilaw09_FieldLaws.j2 k x0 x7 true)))))))
def fastilaw09_FieldLaws.j2 : Nat → Int → Int → Bool → Option (Bool)
  | 0, _, _, _ => none
  | k + 1, x0, x7, x136 => if x136 = true then (some false) else ((field_Inverse.f x0).bind fun bt211 => (if x7 = 0 then (if bt211.2 = 90 then (some (bt211.1 == 0)) else (some false)) else (if bt211.2 = 0 then ((fastilaw09_in.f bt211.1).bind fun t213 => (if t213 = true then ((field_Mul.f x0 bt211.1).bind fun t214 => (some (t214 == 1))) else (some false))) else (some false))))
end
def fastilaw09_FieldLaws.f (k : Nat) (a0 : Int) (a1 : Int) (a2 : Int) : Option (Bool) := (fastilaw09_sane.f k).bind fun t182 => (if t182 = true then ((field_Mod.f a0).bind fun t183 => ((field_Mod.f a1).bind fun t184 => ((field_Mod.f a2).bind fun t185 => ((fastilaw09_in.f t183).bind fun t186 => (if t186 = true then ((fastilaw09_in.f t184).bind fun t187 => (if t187 = true then ((fastilaw09_in.f t185).bind fun t188 => (if t188 = true then ((field_Mod.f t183).bind fun t189 => (if t189 = t183 then (if (Int.tmod (wrap64 (a0 - t183)) 1073741789) = 0 then (fastilaw09_FieldLaws.j0 k a0 a1 a2 t183 t184 false) else (fastilaw09_FieldLaws.j0 k a0 a1 a2 t183 t184 (decide (a0 ≥ 0)))) else (fastilaw09_FieldLaws.j0 k a0 a1 a2 t183 t184 true))) else (fastilaw09_FieldLaws.j0 k a0 a1 a2 t183 t184 true))) else (fastilaw09_FieldLaws.j0 k a0 a1 a2 t183 t184 true))) else (fastilaw09_FieldLaws.j0 k a0 a1 a2 t183 t184 true)))))) else (some false))
theorem fastilaw09_FieldLaws.mono_l : ∀ k, (∀ y0 y1 y2 y3 y4 y5, LeO (fastilaw09_FieldLaws.j0 k y0 y1 y2 y3 y4 y5) (fastilaw09_FieldLaws.j0 (k + 1) y0 y1 y2 y3 y4 y5)) ∧ (∀ y0 y1 y2 y3 y4 y5, LeO (fastilaw09_FieldLaws.j1 k y0 y1 y2 y3 y4 y5) (fastilaw09_FieldLaws.j1 (k + 1) y0 y1 y2 y3 y4 y5)) ∧ (∀ y0 y1 y2, LeO (fastilaw09_FieldLaws.j2 k y0 y1 y2) (fastilaw09_FieldLaws.j2 (k + 1) y0 y1 y2))
  | 0 => ⟨fun _ _ _ _ _ _ r h => by simp [fastilaw09_FieldLaws.j0] at h, fun _ _ _ _ _ _ r h => by simp [fastilaw09_FieldLaws.j1] at h, fun _ _ _ r h => by simp [fastilaw09_FieldLaws.j2] at h⟩
  | k + 1 => by
    obtain ⟨ih0, ih1, ih2⟩ := fastilaw09_FieldLaws.mono_l k
    refine ⟨?_, ?_, ?_⟩
    · intro y0 y1 y2 y3 y4 y5
      unfold fastilaw09_FieldLaws.j0
      repeat' first
      | (with_reducible exact ih0 _ _ _ _ _ _)
      | (with_reducible exact ih1 _ _ _ _ _ _)
      | (with_reducible exact ih2 _ _ _)
      | (with_reducible exact fastilaw09_sane.mono _)
      | (with_reducible exact field_Add.mono _ _ _)
      | (with_reducible exact LeO.refl _)
      | (with_reducible exact LeO.none _)
      | (with_reducible refine LeO.ite ?_ ?_)
      | (with_reducible refine LeO.bind ?_ (fun _ => ?_))
      | exact ih0 _ _ _ _ _ _
      | exact ih1 _ _ _ _ _ _
      | exact ih2 _ _ _
      | exact fastilaw09_sane.mono _
      | exact field_Add.mono _ _ _
      | exact LeO.none _
      | refine LeO.ite ?_ ?_
      | refine LeO.bind ?_ (fun _ => ?_)
    · intro y0 y1 y2 y3 y4 y5
      unfold fastilaw09_FieldLaws.j1
      repeat' first
      | (with_reducible exact ih0 _ _ _ _ _ _)
      | (with_reducible exact ih1 _ _ _ _ _ _)
      | (with_reducible exact ih2 _ _ _)
      | (with_reducible exact fastilaw09_sane.mono _)
      | (with_reducible exact field_Add.mono _ _ _)
      | (with_reducible exact LeO.refl _)
      | (with_reducible exact LeO.none _)
      | (with_reducible refine LeO.ite ?_ ?_)
      | (with_reducible refine LeO.bind ?_ (fun _ => ?_))
      | exact ih0 _ _ _ _ _ _
      | exact ih1 _ _ _ _ _ _
      | exact ih2 _ _ _
      | exact fastilaw09_sane.mono _
      | exact field_Add.mono _ _ _
      | exact LeO.none _
      | refine LeO.ite ?_ ?_
      | refine LeO.bind ?_ (fun _ => ?_)
    · intro y0 y1 y2
      unfold fastilaw09_FieldLaws.j2
      repeat' first
      | (with_reducible exact ih0 _ _ _ _ _ _)
      | (with_reducible exact ih1 _ _ _ _ _ _)
      | (with_reducible exact ih2 _ _ _)
      | (with_reducible exact fastilaw09_sane.mono _)
      | (with_reducible exact field_Add.mono _ _ _)
      | (with_reducible exact LeO.refl _)
      | (with_reducible exact LeO.none _)
      | (with_reducible refine LeO.ite ?_ ?_)
      | (with_reducible refine LeO.bind ?_ (fun _ => ?_))
      | exact ih0 _ _ _ _ _ _
      | exact ih1 _ _ _ _ _ _
      | exact ih2 _ _ _
      | exact fastilaw09_sane.mono _
      | exact field_Add.mono _ _ _
      | exact LeO.none _
      | refine LeO.ite ?_ ?_
      | refine LeO.bind ?_ (fun _ => ?_)
theorem fastilaw09_FieldLaws.mono : ∀ a0 a1 a2 k, LeO (fastilaw09_FieldLaws.f k a0 a1 a2) (fastilaw09_FieldLaws.f (k + 1) a0 a1 a2) := by
  intro a0 a1 a2 k
  obtain ⟨ih0, ih1, ih2⟩ := fastilaw09_FieldLaws.mono_l k
  unfold fastilaw09_FieldLaws.f
  repeat' first
      | (with_reducible exact ih0 _ _ _ _ _ _)
      | (with_reducible exact ih1 _ _ _ _ _ _)
      | (with_reducible exact ih2 _ _ _)
      | (with_reducible exact fastilaw09_sane.mono _)
      | (with_reducible exact field_Add.mono _ _ _)
      | (with_reducible exact LeO.refl _)
      | (with_reducible exact LeO.none _)
      | (with_reducible refine LeO.ite ?_ ?_)
      | (with_reducible refine LeO.bind ?_ (fun _ => ?_))
      | exact ih0 _ _ _ _ _ _
      | exact ih1 _ _ _ _ _ _
      | exact ih2 _ _ _
      | exact fastilaw09_sane.mono _
      | exact field_Add.mono _ _ _
      | exact LeO.none _
      | refine LeO.ite ?_ ?_
      | refine LeO.bind ?_ (fun _ => ?_)
set_option maxHeartbeats 8000000 in
set_option maxRecDepth 100000 in
theorem fastilaw09_FieldLaws.calls (k : Nat) (a0 : Int) (a1 : Int) (a2 : Int) (r : Bool) (w : World) (h : fastilaw09_FieldLaws.f k a0 a1 a2 = some r) :
    Calls Try.prog 5 #[.int .i64 a0, .int .i64 a1, .int .i64 a2] w fun e w' => e = .returned (.bool r) ∧ Below w.heap.size w w' := by
  have HB := Aside0.mk (Below.refl w.heap.size w)
  have H : ((fastilaw09_sane.f k).bind fun t182 => (if t182 = true then ((field_Mod.f a0).bind fun t183 => ((field_Mod.f a1).bind fun t184 => ((field_Mod.f a2).bind fun t185 => ((fastilaw09_in.f t183).bind fun t186 => (if t186 = true then ((fastilaw09_in.f t184).bind fun t187 => (if t187 = true then ((fastilaw09_in.f t185).bind fun t188 => (if t188 = true then ((field_Mod.f t183).bind fun t189 => (if t189 = t183 then (if (Int.tmod (wrap64 (a0 - t183)) 1073741789) = 0 then (fastilaw09_FieldLaws.j0 k a0 a1 a2 t183 t184 false) else (fastilaw09_FieldLaws.j0 k a0 a1 a2 t183 t184 (decide (a0 ≥ 0)))) else (fastilaw09_FieldLaws.j0 k a0 a1 a2 t183 t184 true))) else (fastilaw09_FieldLaws.j0 k a0 a1 a2 t183 t184 true))) else (fastilaw09_FieldLaws.j0 k a0 a1 a2 t183 t184 true))) else (fastilaw09_FieldLaws.j0 k a0 a1 a2 t183 t184 true)))))) else (some false))) = some r := h
  clear h
  replace H := Option.bind_eq_some_iff.mp H
  obtain ⟨t182, A40, H⟩ := H
  replace H : (if t182 = true then ((field_Mod.f a0).bind fun t183 => ((field_Mod.f a1).bind fun t184 => ((field_Mod.f a2).bind fun t185 => ((fastilaw09_in.f t183).bind fun t186 => (if t186 = true then ((fastilaw09_in.f t184).bind fun t187 => (if t187 = true then ((fastilaw09_in.f t185).bind fun t188 => (if t188 = true then ((field_Mod.f t183).bind fun t189 => (if t189 = t183 then (if (Int.tmod (wrap64 (a0 - t183)) 1073741789) = 0 then (fastilaw09_FieldLaws.j0 k a0 a1 a2 t183 t184 false) else (fastilaw09_FieldLaws.j0 k a0 a1 a2 t183 t184 (decide (a0 ≥ 0)))) else (fastilaw09_FieldLaws.j0 k a0 a1 a2 t183 t184 true))) else (fastilaw09_FieldLaws.j0 k a0 a1 a2 t183 t184 true))) else (fastilaw09_FieldLaws.j0 k a0 a1 a2 t183 t184 true))) else (fastilaw09_FieldLaws.j0 k a0 a1 a2 t183 t184 true)))))) else (some false)) = some r := H
  have A4 := Aside0.mk A40
  clear A40
  by_cases c5 : t182 = true
  · subst c5
    have H1 : ((field_Mod.f a0).bind fun t183 => ((field_Mod.f a1).bind fun t184 => ((field_Mod.f a2).bind fun t185 => ((fastilaw09_in.f t183).bind fun t186 => (if t186 = true then ((fastilaw09_in.f t184).bind fun t187 => (if t187 = true then ((fastilaw09_in.f t185).bind fun t188 => (if t188 = true then ((field_Mod.f t183).bind fun t189 => (if t189 = t183 then (if (Int.tmod (wrap64 (a0 - t183)) 1073741789) = 0 then (fastilaw09_FieldLaws.j0 k a0 a1 a2 t183 t184 false) else (fastilaw09_FieldLaws.j0 k a0 a1 a2 t183 t184 (decide (a0 ≥ 0)))) else (fastilaw09_FieldLaws.j0 k a0 a1 a2 t183 t184 true))) else (fastilaw09_FieldLaws.j0 k a0 a1 a2 t183 t184 true))) else (fastilaw09_FieldLaws.j0 k a0 a1 a2 t183 t184 true))) else (fastilaw09_FieldLaws.j0 k a0 a1 a2 t183 t184 true)))))) = some r := by rw [if_pos rfl] at H; exact H
    clear H
    have H := H1
    clear H1
    replace H := Option.bind_eq_some_iff.mp H
    obtain ⟨t183, A60, H⟩ := H
    replace H : ((field_Mod.f a1).bind fun t184 => ((field_Mod.f a2).bind fun t185 => ((fastilaw09_in.f t183).bind fun t186 => (if t186 = true then ((fastilaw09_in.f t184).bind fun t187 => (if t187 = true then ((fastilaw09_in.f t185).bind fun t188 => (if t188 = true then ((field_Mod.f t183).bind fun t189 => (if t189 = t183 then (if (Int.tmod (wrap64 (a0 - t183)) 1073741789) = 0 then (fastilaw09_FieldLaws.j0 k a0 a1 a2 t183 t184 false) else (fastilaw09_FieldLaws.j0 k a0 a1 a2 t183 t184 (decide (a0 ≥ 0)))) else (fastilaw09_FieldLaws.j0 k a0 a1 a2 t183 t184 true))) else (fastilaw09_FieldLaws.j0 k a0 a1 a2 t183 t184 true))) else (fastilaw09_FieldLaws.j0 k a0 a1 a2 t183 t184 true))) else (fastilaw09_FieldLaws.j0 k a0 a1 a2 t183 t184 true))))) = some r := H
    have A6 := Aside0.mk A60
    clear A60
    replace H := Option.bind_eq_some_iff.mp H
    obtain ⟨t184, A70, H⟩ := H
    replace H : ((field_Mod.f a2).bind fun t185 => ((fastilaw09_in.f t183).bind fun t186 => (if t186 = true then ((fastilaw09_in.f t184).bind fun t187 => (if t187 = true then ((fastilaw09_in.f t185).bind fun t188 => (if t188 = true then ((field_Mod.f t183).bind fun t189 => (if t189 = t183 then (if (Int.tmod (wrap64 (a0 - t183)) 1073741789) = 0 then (fastilaw09_FieldLaws.j0 k a0 a1 a2 t183 t184 false) else (fastilaw09_FieldLaws.j0 k a0 a1 a2 t183 t184 (decide (a0 ≥ 0)))) else (fastilaw09_FieldLaws.j0 k a0 a1 a2 t183 t184 true))) else (fastilaw09_FieldLaws.j0 k a0 a1 a2 t183 t184 true))) else (fastilaw09_FieldLaws.j0 k a0 a1 a2 t183 t184 true))) else (fastilaw09_FieldLaws.j0 k a0 a1 a2 t183 t184 true)))) = some r := H
    have A7 := Aside0.mk A70
    clear A70
    replace H := Option.bind_eq_some_iff.mp H
    obtain ⟨t185, A80, H⟩ := H
    replace H : ((fastilaw09_in.f t183).bind fun t186 => (if t186 = true then ((fastilaw09_in.f t184).bind fun t187 => (if t187 = true then ((fastilaw09_in.f t185).bind fun t188 => (if t188 = true then ((field_Mod.f t183).bind fun t189 => (if t189 = t183 then (if (Int.tmod (wrap64 (a0 - t183)) 1073741789) = 0 then (fastilaw09_FieldLaws.j0 k a0 a1 a2 t183 t184 false) else (fastilaw09_FieldLaws.j0 k a0 a1 a2 t183 t184 (decide (a0 ≥ 0)))) else (fastilaw09_FieldLaws.j0 k a0 a1 a2 t183 t184 true))) else (fastilaw09_FieldLaws.j0 k a0 a1 a2 t183 t184 true))) else (fastilaw09_FieldLaws.j0 k a0 a1 a2 t183 t184 true))) else (fastilaw09_FieldLaws.j0 k a0 a1 a2 t183 t184 true))) = some r := H
    have A8 := Aside0.mk A80
    clear A80
    have HC9 := Aside0.mk H
    clear H
    go_enter Try.func5, Try.ntmps5
    go_upto_region 4 with (first | ((with_reducible refine gate_callee (f := 9) rfl ?_); refine goesL_ (some 12) rfl rfl Try.func9 (by kernel_rfl) rfl #[] rfl (by (try simp only [List.map_toArray, List.map_cons, List.map_nil]); first | done | rfl | (simp only [List.length_drop, List.length_take]; rfl)) ?_; (with_reducible refine (fastilaw09_sane.calls k  true _ A4.out).mono ?_); rintro e w10 ⟨rfl, hb⟩; refine ⟨_, rfl, ?_⟩; have n0_ := Aside0.mk (below_step (by repeat (first | (with_reducible first | exact HB.out | apply below_alloc | apply pw_below_drewN | apply below_drew1) | exact HB.out)) hb); clear HB; have HB := n0_; clear n0_; (try clear hb); (try clear hb2); (try clear hk); (try clear hi)) | ((with_reducible refine gate_callee (f := 12) rfl ?_); refine goesL_ (some 15) rfl rfl Try.func12 (by kernel_rfl) rfl #[.int .i64 a0] rfl (by (try simp only [List.map_toArray, List.map_cons, List.map_nil]); first | done | rfl | (simp only [List.length_drop, List.length_take]; rfl)) ?_; (with_reducible refine (field_Mod.calls a0 t183 _ A6.out).mono ?_); rintro e w' ⟨rfl, ⟨nd, rfl⟩⟩; refine ⟨_, rfl, ?_⟩) | ((with_reducible refine gate_callee (f := 12) rfl ?_); refine goesL_ (some 17) rfl rfl Try.func12 (by kernel_rfl) rfl #[.int .i64 a1] rfl (by (try simp only [List.map_toArray, List.map_cons, List.map_nil]); first | done | rfl | (simp only [List.length_drop, List.length_take]; rfl)) ?_; (with_reducible refine (field_Mod.calls a1 t184 _ A7.out).mono ?_); rintro e w' ⟨rfl, ⟨nd, rfl⟩⟩; refine ⟨_, rfl, ?_⟩) | ((with_reducible refine gate_callee (f := 12) rfl ?_); refine goesL_ (some 19) rfl rfl Try.func12 (by kernel_rfl) rfl #[.int .i64 a2] rfl (by (try simp only [List.map_toArray, List.map_cons, List.map_nil]); first | done | rfl | (simp only [List.length_drop, List.length_take]; rfl)) ?_; (with_reducible refine (field_Mod.calls a2 t185 _ A8.out).mono ?_); rintro e w' ⟨rfl, ⟨nd, rfl⟩⟩; refine ⟨_, rfl, ?_⟩))
    (try simp only [Act.put, List.setIfInBounds_toArray, List.set_cons_zero, List.set_cons_succ])
    go_cut [49] (fun v49 wc => ∃ (kq : Nat) (x49_8 : Bool), v49 = .bool x49_8 ∧ Aside0 (fastilaw09_FieldLaws.j0 kq a0 a1 a2 t183 t184 x49_8 = some r) ∧ Aside0 (kq ≤ k) ∧ Aside0 (Below w.heap.size w wc))
    case first =>
      have H := HC9.out
      clear HC9
      replace H := Option.bind_eq_some_iff.mp H
      obtain ⟨t186, A110, H⟩ := H
      replace H : (if t186 = true then ((fastilaw09_in.f t184).bind fun t187 => (if t187 = true then ((fastilaw09_in.f t185).bind fun t188 => (if t188 = true then ((field_Mod.f t183).bind fun t189 => (if t189 = t183 then (if (Int.tmod (wrap64 (a0 - t183)) 1073741789) = 0 then (fastilaw09_FieldLaws.j0 k a0 a1 a2 t183 t184 false) else (fastilaw09_FieldLaws.j0 k a0 a1 a2 t183 t184 (decide (a0 ≥ 0)))) else (fastilaw09_FieldLaws.j0 k a0 a1 a2 t183 t184 true))) else (fastilaw09_FieldLaws.j0 k a0 a1 a2 t183 t184 true))) else (fastilaw09_FieldLaws.j0 k a0 a1 a2 t183 t184 true))) else (fastilaw09_FieldLaws.j0 k a0 a1 a2 t183 t184 true)) = some r := H
      have A11 := Aside0.mk A110
      clear A110
      by_cases c12 : t186 = true
      · subst c12
        have H1 : ((fastilaw09_in.f t184).bind fun t187 => (if t187 = true then ((fastilaw09_in.f t185).bind fun t188 => (if t188 = true then ((field_Mod.f t183).bind fun t189 => (if t189 = t183 then (if (Int.tmod (wrap64 (a0 - t183)) 1073741789) = 0 then (fastilaw09_FieldLaws.j0 k a0 a1 a2 t183 t184 false) else (fastilaw09_FieldLaws.j0 k a0 a1 a2 t183 t184 (decide (a0 ≥ 0)))) else (fastilaw09_FieldLaws.j0 k a0 a1 a2 t183 t184 true))) else (fastilaw09_FieldLaws.j0 k a0 a1 a2 t183 t184 true))) else (fastilaw09_FieldLaws.j0 k a0 a1 a2 t183 t184 true))) = some r := by rw [if_pos rfl] at H; exact H
        clear H
        have H := H1
        clear H1
        replace H := Option.bind_eq_some_iff.mp H
        obtain ⟨t187, A130, H⟩ := H
        replace H : (if t187 = true then ((fastilaw09_in.f t185).bind fun t188 => (if t188 = true then ((field_Mod.f t183).bind fun t189 => (if t189 = t183 then (if (Int.tmod (wrap64 (a0 - t183)) 1073741789) = 0 then (fastilaw09_FieldLaws.j0 k a0 a1 a2 t183 t184 false) else (fastilaw09_FieldLaws.j0 k a0 a1 a2 t183 t184 (decide (a0 ≥ 0)))) else (fastilaw09_FieldLaws.j0 k a0 a1 a2 t183 t184 true))) else (fastilaw09_FieldLaws.j0 k a0 a1 a2 t183 t184 true))) else (fastilaw09_FieldLaws.j0 k a0 a1 a2 t183 t184 true)) = some r := H
        have A13 := Aside0.mk A130
        clear A130
        by_cases c14 : t187 = true
        · subst c14
          have H1 : ((fastilaw09_in.f t185).bind fun t188 => (if t188 = true then ((field_Mod.f t183).bind fun t189 => (if t189 = t183 then (if (Int.tmod (wrap64 (a0 - t183)) 1073741789) = 0 then (fastilaw09_FieldLaws.j0 k a0 a1 a2 t183 t184 false) else (fastilaw09_FieldLaws.j0 k a0 a1 a2 t183 t184 (decide (a0 ≥ 0)))) else (fastilaw09_FieldLaws.j0 k a0 a1 a2 t183 t184 true))) else (fastilaw09_FieldLaws.j0 k a0 a1 a2 t183 t184 true))) = some r := by rw [if_pos rfl] at H; exact H
          clear H
          have H := H1
          clear H1
          replace H := Option.bind_eq_some_iff.mp H
          obtain ⟨t188, A150, H⟩ := H
          replace H : (if t188 = true then ((field_Mod.f t183).bind fun t189 => (if t189 = t183 then (if (Int.tmod (wrap64 (a0 - t183)) 1073741789) = 0 then (fastilaw09_FieldLaws.j0 k a0 a1 a2 t183 t184 false) else (fastilaw09_FieldLaws.j0 k a0 a1 a2 t183 t184 (decide (a0 ≥ 0)))) else (fastilaw09_FieldLaws.j0 k a0 a1 a2 t183 t184 true))) else (fastilaw09_FieldLaws.j0 k a0 a1 a2 t183 t184 true)) = some r := H
          have A15 := Aside0.mk A150
          clear A150
          by_cases c16 : t188 = true
          · subst c16
            have H1 : ((field_Mod.f t183).bind fun t189 => (if t189 = t183 then (if (Int.tmod (wrap64 (a0 - t183)) 1073741789) = 0 then (fastilaw09_FieldLaws.j0 k a0 a1 a2 t183 t184 false) else (fastilaw09_FieldLaws.j0 k a0 a1 a2 t183 t184 (decide (a0 ≥ 0)))) else (fastilaw09_FieldLaws.j0 k a0 a1 a2 t183 t184 true))) = some r := by rw [if_pos rfl] at H; exact H
            clear H
            have H := H1
            clear H1
            replace H := Option.bind_eq_some_iff.mp H
            obtain ⟨t189, A170, H⟩ := H
            replace H : (if t189 = t183 then (if (Int.tmod (wrap64 (a0 - t183)) 1073741789) = 0 then (fastilaw09_FieldLaws.j0 k a0 a1 a2 t183 t184 false) else (fastilaw09_FieldLaws.j0 k a0 a1 a2 t183 t184 (decide (a0 ≥ 0)))) else (fastilaw09_FieldLaws.j0 k a0 a1 a2 t183 t184 true)) = some r := H
            have A17 := Aside0.mk A170
            clear A170
            by_cases c18 : t189 = t183
            · rw [if_pos c18] at H
              have c18b0 : (t189 == t183) = true := beq_iff_eq.mpr c18
              have c18b1 : (t189 != t183) = false := bne_eq_false_iff_eq.mpr c18
              clear c18
              (first | rw [c18b0] | (simp only [i64_w, i32_w]; rw [c18b0]) | skip)
              by_cases c19 : (Int.tmod (wrap64 (a0 - t183)) 1073741789) = 0
              · rw [if_pos c19] at H
                have c19b0 : ((Int.tmod (wrap64 (a0 - t183)) 1073741789) == 0) = true := beq_iff_eq.mpr c19
                have c19b1 : ((Int.tmod (wrap64 (a0 - t183)) 1073741789) != 0) = false := bne_eq_false_iff_eq.mpr c19
                clear c19
                have H' := Aside0.mk H
                clear H
                go_wp2_with (first | ((with_reducible refine gate_callee (f := 23) rfl ?_); refine goesL_ (some 21) rfl rfl Try.func23 (by kernel_rfl) rfl #[.int .i64 t183] rfl (by (try simp only [List.map_toArray, List.map_cons, List.map_nil]); first | done | rfl | (simp only [List.length_drop, List.length_take]; rfl)) ?_; (with_reducible refine (fastilaw09_in.calls t183 true _ A11.out).mono ?_); rintro e w' ⟨rfl, ⟨nd, rfl⟩⟩; refine ⟨_, rfl, ?_⟩) | (go_at_call 23; (with_reducible refine (fastilaw09_in.calls t184 true _ A13.out).mono ?_); rintro e w' ⟨rfl, ⟨nd, rfl⟩⟩) | (go_at_call 23; (with_reducible refine (fastilaw09_in.calls t185 true _ A15.out).mono ?_); rintro e w' ⟨rfl, ⟨nd, rfl⟩⟩) | (go_at_call 12; (with_reducible refine (field_Mod.calls t183 t189 _ A17.out).mono ?_); rintro e w' ⟨rfl, ⟨nd, rfl⟩⟩))
                go_meet
                case rel => exact ⟨_, (false), (by first | rfl | (simp; done) | (simp [*]; done)), H', ⟨by first | omega | exact Nat.le_refl _⟩, ⟨by repeat (first | (with_reducible first | exact HB.out | apply below_alloc | apply pw_below_drewN | apply below_drew1) | exact HB.out)⟩⟩
              · rw [if_neg c19] at H
                have c19b0 : ((Int.tmod (wrap64 (a0 - t183)) 1073741789) == 0) = false := beq_eq_false_iff_ne.mpr c19
                have c19b1 : ((Int.tmod (wrap64 (a0 - t183)) 1073741789) != 0) = true := bne_iff_ne.mpr c19
                have H' := Aside0.mk H
                clear H
                go_wp2_with (first | ((with_reducible refine gate_callee (f := 23) rfl ?_); refine goesL_ (some 21) rfl rfl Try.func23 (by kernel_rfl) rfl #[.int .i64 t183] rfl (by (try simp only [List.map_toArray, List.map_cons, List.map_nil]); first | done | rfl | (simp only [List.length_drop, List.length_take]; rfl)) ?_; (with_reducible refine (fastilaw09_in.calls t183 true _ A11.out).mono ?_); rintro e w' ⟨rfl, ⟨nd, rfl⟩⟩; refine ⟨_, rfl, ?_⟩) | (go_at_call 23; (with_reducible refine (fastilaw09_in.calls t184 true _ A13.out).mono ?_); rintro e w' ⟨rfl, ⟨nd, rfl⟩⟩) | (go_at_call 23; (with_reducible refine (fastilaw09_in.calls t185 true _ A15.out).mono ?_); rintro e w' ⟨rfl, ⟨nd, rfl⟩⟩) | (go_at_call 12; (with_reducible refine (field_Mod.calls t183 t189 _ A17.out).mono ?_); rintro e w' ⟨rfl, ⟨nd, rfl⟩⟩))
                go_meet
                case rel => exact ⟨_, (decide (a0 ≥ 0)), (by first | rfl | (simp; done) | (simp [*]; done)), H', ⟨by first | omega | exact Nat.le_refl _⟩, ⟨by repeat (first | (with_reducible first | exact HB.out | apply below_alloc | apply pw_below_drewN | apply below_drew1) | exact HB.out)⟩⟩
            · rw [if_neg c18] at H
              have c18b0 : (t189 == t183) = false := beq_eq_false_iff_ne.mpr c18
              have c18b1 : (t189 != t183) = true := bne_iff_ne.mpr c18
              (first | rw [c18b0] | (simp only [i64_w, i32_w]; rw [c18b0]) | skip)
              have H' := Aside0.mk H
              clear H
              go_wp2_with (first | ((with_reducible refine gate_callee (f := 23) rfl ?_); refine goesL_ (some 21) rfl rfl Try.func23 (by kernel_rfl) rfl #[.int .i64 t183] rfl (by (try simp only [List.map_toArray, List.map_cons, List.map_nil]); first | done | rfl | (simp only [List.length_drop, List.length_take]; rfl)) ?_; (with_reducible refine (fastilaw09_in.calls t183 true _ A11.out).mono ?_); rintro e w' ⟨rfl, ⟨nd, rfl⟩⟩; refine ⟨_, rfl, ?_⟩) | (go_at_call 23; (with_reducible refine (fastilaw09_in.calls t184 true _ A13.out).mono ?_); rintro e w' ⟨rfl, ⟨nd, rfl⟩⟩) | (go_at_call 23; (with_reducible refine (fastilaw09_in.calls t185 true _ A15.out).mono ?_); rintro e w' ⟨rfl, ⟨nd, rfl⟩⟩) | (go_at_call 12; (with_reducible refine (field_Mod.calls t183 t189 _ A17.out).mono ?_); rintro e w' ⟨rfl, ⟨nd, rfl⟩⟩))
              go_meet
              case rel => exact ⟨_, (true), (by first | rfl | (simp; done) | (simp [*]; done)), H', ⟨by first | omega | exact Nat.le_refl _⟩, ⟨by repeat (first | (with_reducible first | exact HB.out | apply below_alloc | apply pw_below_drewN | apply below_drew1) | exact HB.out)⟩⟩
          · replace c16 := Bool.eq_false_iff.mpr c16
            subst c16
            have H1 : (fastilaw09_FieldLaws.j0 k a0 a1 a2 t183 t184 true) = some r := by rw [if_neg (show ¬ (false = true) by decide)] at H; exact H
            clear H
            have H := H1
            clear H1
            have H' := Aside0.mk H
            clear H
            go_wp2_with (first | ((with_reducible refine gate_callee (f := 23) rfl ?_); refine goesL_ (some 21) rfl rfl Try.func23 (by kernel_rfl) rfl #[.int .i64 t183] rfl (by (try simp only [List.map_toArray, List.map_cons, List.map_nil]); first | done | rfl | (simp only [List.length_drop, List.length_take]; rfl)) ?_; (with_reducible refine (fastilaw09_in.calls t183 true _ A11.out).mono ?_); rintro e w' ⟨rfl, ⟨nd, rfl⟩⟩; refine ⟨_, rfl, ?_⟩) | (go_at_call 23; (with_reducible refine (fastilaw09_in.calls t184 true _ A13.out).mono ?_); rintro e w' ⟨rfl, ⟨nd, rfl⟩⟩) | (go_at_call 23; (with_reducible refine (fastilaw09_in.calls t185 false _ A15.out).mono ?_); rintro e w' ⟨rfl, ⟨nd, rfl⟩⟩))
            go_meet
            case rel => exact ⟨_, (true), (by first | rfl | (simp; done) | (simp [*]; done)), H', ⟨by first | omega | exact Nat.le_refl _⟩, ⟨by repeat (first | (with_reducible first | exact HB.out | apply below_alloc | apply pw_below_drewN | apply below_drew1) | exact HB.out)⟩⟩
        · replace c14 := Bool.eq_false_iff.mpr c14
          subst c14
          have H1 : (fastilaw09_FieldLaws.j0 k a0 a1 a2 t183 t184 true) = some r := by rw [if_neg (show ¬ (false = true) by decide)] at H; exact H
          clear H
          have H := H1
          clear H1
          have H' := Aside0.mk H
          clear H
          go_wp2_with (first | ((with_reducible refine gate_callee (f := 23) rfl ?_); refine goesL_ (some 21) rfl rfl Try.func23 (by kernel_rfl) rfl #[.int .i64 t183] rfl (by (try simp only [List.map_toArray, List.map_cons, List.map_nil]); first | done | rfl | (simp only [List.length_drop, List.length_take]; rfl)) ?_; (with_reducible refine (fastilaw09_in.calls t183 true _ A11.out).mono ?_); rintro e w' ⟨rfl, ⟨nd, rfl⟩⟩; refine ⟨_, rfl, ?_⟩) | (go_at_call 23; (with_reducible refine (fastilaw09_in.calls t184 false _ A13.out).mono ?_); rintro e w' ⟨rfl, ⟨nd, rfl⟩⟩))
          go_meet
          case rel => exact ⟨_, (true), (by first | rfl | (simp; done) | (simp [*]; done)), H', ⟨by first | omega | exact Nat.le_refl _⟩, ⟨by repeat (first | (with_reducible first | exact HB.out | apply below_alloc | apply pw_below_drewN | apply below_drew1) | exact HB.out)⟩⟩
      · replace c12 := Bool.eq_false_iff.mpr c12
        subst c12
        have H1 : (fastilaw09_FieldLaws.j0 k a0 a1 a2 t183 t184 true) = some r := by rw [if_neg (show ¬ (false = true) by decide)] at H; exact H
        clear H
        have H := H1
        clear H1
        have H' := Aside0.mk H
        clear H
        go_wp2_with (first | ((with_reducible refine gate_callee (f := 23) rfl ?_); refine goesL_ (some 21) rfl rfl Try.func23 (by kernel_rfl) rfl #[.int .i64 t183] rfl (by (try simp only [List.map_toArray, List.map_cons, List.map_nil]); first | done | rfl | (simp only [List.length_drop, List.length_take]; rfl)) ?_; (with_reducible refine (fastilaw09_in.calls t183 false _ A11.out).mono ?_); rintro e w' ⟨rfl, ⟨nd, rfl⟩⟩; refine ⟨_, rfl, ?_⟩))
        go_meet
        case rel => exact ⟨_, (true), (by first | rfl | (simp; done) | (simp [*]; done)), H', ⟨by first | omega | exact Nat.le_refl _⟩, ⟨by repeat (first | (with_reducible first | exact HB.out | apply below_alloc | apply pw_below_drewN | apply below_drew1) | exact HB.out)⟩⟩
    case rest =>
      clear HC9
      try clear c1
      try clear c2
      try clear p2
      try clear c5
      try clear p6
      try clear c9
      try clear c12
      try clear c14
      try clear c16
      try clear c18
      try clear c18b0
      try clear c18b1
      try clear c19
      try clear c19b0
      try clear c19b1
      obtain ⟨kq, x49_8, rfl, HA, HJ8, HB⟩ := hcut
      cases kq with
      | zero => exact absurd HA.out (by simp [fastilaw09_FieldLaws.j0])
      | succ kj8 =>
        have H := HA.out
        clear HA
        simp only [fastilaw09_FieldLaws.j0] at H
        by_cases c20 : x49_8 = true
        · subst c20
          have H1 : (some false) = some r := by rw [if_pos rfl] at H; exact H
          clear H
          have H := H1
          clear H1
          obtain rfl := Option.some.inj H
          go_wp2
          go_ret
          exact ⟨by first | rfl | (simp [errW_none, errW_some] <;> rfl) | (simp [*, errW_none, errW_some] <;> rfl), by repeat (first | (with_reducible first | exact HB.out | apply below_alloc | apply pw_below_drewN | apply below_drew1) | exact HB.out)⟩
        · replace c20 := Bool.eq_false_iff.mpr c20
          subst c20
          have H1 : ((field_Add.f kj8 a0 a1).bind fun t190 => ((field_Add.f kj8 t184 t183).bind fun t191 => (if t190 = t191 then ((field_Mul.f a0 a1).bind fun t192 => ((field_Mul.f t184 t183).bind fun t193 => (if t192 = t193 then ((field_Add.f kj8 a0 a1).bind fun t194 => ((field_Add.f kj8 t194 a2).bind fun t195 => ((field_Add.f kj8 a1 a2).bind fun t196 => ((field_Add.f kj8 a0 t196).bind fun t197 => (if t195 = t197 then ((field_Mul.f a0 a1).bind fun t198 => ((field_Mul.f t198 a2).bind fun t199 => ((field_Mul.f a1 a2).bind fun t200 => ((field_Mul.f a0 t200).bind fun t201 => (fastilaw09_FieldLaws.j1 kj8 a0 a1 a2 t183 t184 (t199 != t201)))))) else (fastilaw09_FieldLaws.j1 kj8 a0 a1 a2 t183 t184 true)))))) else (fastilaw09_FieldLaws.j1 kj8 a0 a1 a2 t183 t184 true)))) else (fastilaw09_FieldLaws.j1 kj8 a0 a1 a2 t183 t184 true)))) = some r := by rw [if_neg (show ¬ (false = true) by decide)] at H; exact H
          clear H
          have H := H1
          clear H1
          have HC21 := Aside0.mk H
          clear H
          go_upto_region 6 with (fail)
          go_cut [91] (fun v91 wc => ∃ (kq : Nat) (x91_20 : Bool), v91 = .bool x91_20 ∧ Aside0 (fastilaw09_FieldLaws.j1 kq a0 a1 a2 t183 t184 x91_20 = some r) ∧ Aside0 (kq ≤ kj8) ∧ Aside0 (Below w.heap.size w wc))
          case first =>
            have H := HC21.out
            clear HC21
            replace H := Option.bind_eq_some_iff.mp H
            obtain ⟨t190, A220, H⟩ := H
            replace H : ((field_Add.f kj8 t184 t183).bind fun t191 => (if t190 = t191 then ((field_Mul.f a0 a1).bind fun t192 => ((field_Mul.f t184 t183).bind fun t193 => (if t192 = t193 then ((field_Add.f kj8 a0 a1).bind fun t194 => ((field_Add.f kj8 t194 a2).bind fun t195 => ((field_Add.f kj8 a1 a2).bind fun t196 => ((field_Add.f kj8 a0 t196).bind fun t197 => (if t195 = t197 then ((field_Mul.f a0 a1).bind fun t198 => ((field_Mul.f t198 a2).bind fun t199 => ((field_Mul.f a1 a2).bind fun t200 => ((field_Mul.f a0 t200).bind fun t201 => (fastilaw09_FieldLaws.j1 kj8 a0 a1 a2 t183 t184 (t199 != t201)))))) else (fastilaw09_FieldLaws.j1 kj8 a0 a1 a2 t183 t184 true)))))) else (fastilaw09_FieldLaws.j1 kj8 a0 a1 a2 t183 t184 true)))) else (fastilaw09_FieldLaws.j1 kj8 a0 a1 a2 t183 t184 true))) = some r := H
            have A22 := Aside0.mk A220
            clear A220
            replace H := Option.bind_eq_some_iff.mp H
            obtain ⟨t191, A230, H⟩ := H
            replace H : (if t190 = t191 then ((field_Mul.f a0 a1).bind fun t192 => ((field_Mul.f t184 t183).bind fun t193 => (if t192 = t193 then ((field_Add.f kj8 a0 a1).bind fun t194 => ((field_Add.f kj8 t194 a2).bind fun t195 => ((field_Add.f kj8 a1 a2).bind fun t196 => ((field_Add.f kj8 a0 t196).bind fun t197 => (if t195 = t197 then ((field_Mul.f a0 a1).bind fun t198 => ((field_Mul.f t198 a2).bind fun t199 => ((field_Mul.f a1 a2).bind fun t200 => ((field_Mul.f a0 t200).bind fun t201 => (fastilaw09_FieldLaws.j1 kj8 a0 a1 a2 t183 t184 (t199 != t201)))))) else (fastilaw09_FieldLaws.j1 kj8 a0 a1 a2 t183 t184 true)))))) else (fastilaw09_FieldLaws.j1 kj8 a0 a1 a2 t183 t184 true)))) else (fastilaw09_FieldLaws.j1 kj8 a0 a1 a2 t183 t184 true)) = some r := H
            have A23 := Aside0.mk A230
            clear A230
            by_cases c24 : t190 = t191
            · rw [if_pos c24] at H
              have c24b0 : (t190 == t191) = true := beq_iff_eq.mpr c24
              have c24b1 : (t190 != t191) = false := bne_eq_false_iff_eq.mpr c24
              clear c24
              (first | rw [c24b0] | (simp only [i64_w, i32_w]; rw [c24b0]) | skip)
              replace H := Option.bind_eq_some_iff.mp H
              obtain ⟨t192, A250, H⟩ := H
              replace H : ((field_Mul.f t184 t183).bind fun t193 => (if t192 = t193 then ((field_Add.f kj8 a0 a1).bind fun t194 => ((field_Add.f kj8 t194 a2).bind fun t195 => ((field_Add.f kj8 a1 a2).bind fun t196 => ((field_Add.f kj8 a0 t196).bind fun t197 => (if t195 = t197 then ((field_Mul.f a0 a1).bind fun t198 => ((field_Mul.f t198 a2).bind fun t199 => ((field_Mul.f a1 a2).bind fun t200 => ((field_Mul.f a0 t200).bind fun t201 => (fastilaw09_FieldLaws.j1 kj8 a0 a1 a2 t183 t184 (t199 != t201)))))) else (fastilaw09_FieldLaws.j1 kj8 a0 a1 a2 t183 t184 true)))))) else (fastilaw09_FieldLaws.j1 kj8 a0 a1 a2 t183 t184 true))) = some r := H
              have A25 := Aside0.mk A250
              clear A250
              replace H := Option.bind_eq_some_iff.mp H
              obtain ⟨t193, A260, H⟩ := H
              replace H : (if t192 = t193 then ((field_Add.f kj8 a0 a1).bind fun t194 => ((field_Add.f kj8 t194 a2).bind fun t195 => ((field_Add.f kj8 a1 a2).bind fun t196 => ((field_Add.f kj8 a0 t196).bind fun t197 => (if t195 = t197 then ((field_Mul.f a0 a1).bind fun t198 => ((field_Mul.f t198 a2).bind fun t199 => ((field_Mul.f a1 a2).bind fun t200 => ((field_Mul.f a0 t200).bind fun t201 => (fastilaw09_FieldLaws.j1 kj8 a0 a1 a2 t183 t184 (t199 != t201)))))) else (fastilaw09_FieldLaws.j1 kj8 a0 a1 a2 t183 t184 true)))))) else (fastilaw09_FieldLaws.j1 kj8 a0 a1 a2 t183 t184 true)) = some r := H
              have A26 := Aside0.mk A260
              clear A260
              by_cases c27 : t192 = t193
              · rw [if_pos c27] at H
                have c27b0 : (t192 == t193) = true := beq_iff_eq.mpr c27
                have c27b1 : (t192 != t193) = false := bne_eq_false_iff_eq.mpr c27
                clear c27
                replace H := Option.bind_eq_some_iff.mp H
                obtain ⟨t194, A280, H⟩ := H
                replace H : ((field_Add.f kj8 t194 a2).bind fun t195 => ((field_Add.f kj8 a1 a2).bind fun t196 => ((field_Add.f kj8 a0 t196).bind fun t197 => (if t195 = t197 then ((field_Mul.f a0 a1).bind fun t198 => ((field_Mul.f t198 a2).bind fun t199 => ((field_Mul.f a1 a2).bind fun t200 => ((field_Mul.f a0 t200).bind fun t201 => (fastilaw09_FieldLaws.j1 kj8 a0 a1 a2 t183 t184 (t199 != t201)))))) else (fastilaw09_FieldLaws.j1 kj8 a0 a1 a2 t183 t184 true))))) = some r := H
                have A28 := Aside0.mk A280
                clear A280
                replace H := Option.bind_eq_some_iff.mp H
                obtain ⟨t195, A290, H⟩ := H
                replace H : ((field_Add.f kj8 a1 a2).bind fun t196 => ((field_Add.f kj8 a0 t196).bind fun t197 => (if t195 = t197 then ((field_Mul.f a0 a1).bind fun t198 => ((field_Mul.f t198 a2).bind fun t199 => ((field_Mul.f a1 a2).bind fun t200 => ((field_Mul.f a0 t200).bind fun t201 => (fastilaw09_FieldLaws.j1 kj8 a0 a1 a2 t183 t184 (t199 != t201)))))) else (fastilaw09_FieldLaws.j1 kj8 a0 a1 a2 t183 t184 true)))) = some r := H
                have A29 := Aside0.mk A290
                clear A290
                replace H := Option.bind_eq_some_iff.mp H
                obtain ⟨t196, A300, H⟩ := H
                replace H : ((field_Add.f kj8 a0 t196).bind fun t197 => (if t195 = t197 then ((field_Mul.f a0 a1).bind fun t198 => ((field_Mul.f t198 a2).bind fun t199 => ((field_Mul.f a1 a2).bind fun t200 => ((field_Mul.f a0 t200).bind fun t201 => (fastilaw09_FieldLaws.j1 kj8 a0 a1 a2 t183 t184 (t199 != t201)))))) else (fastilaw09_FieldLaws.j1 kj8 a0 a1 a2 t183 t184 true))) = some r := H
                have A30 := Aside0.mk A300
                clear A300
                replace H := Option.bind_eq_some_iff.mp H
                obtain ⟨t197, A310, H⟩ := H
                replace H : (if t195 = t197 then ((field_Mul.f a0 a1).bind fun t198 => ((field_Mul.f t198 a2).bind fun t199 => ((field_Mul.f a1 a2).bind fun t200 => ((field_Mul.f a0 t200).bind fun t201 => (fastilaw09_FieldLaws.j1 kj8 a0 a1 a2 t183 t184 (t199 != t201)))))) else (fastilaw09_FieldLaws.j1 kj8 a0 a1 a2 t183 t184 true)) = some r := H
                have A31 := Aside0.mk A310
                clear A310
                by_cases c32 : t195 = t197
                · rw [if_pos c32] at H
                  have c32b0 : (t195 == t197) = true := beq_iff_eq.mpr c32
                  have c32b1 : (t195 != t197) = false := bne_eq_false_iff_eq.mpr c32
                  clear c32
                  replace H := Option.bind_eq_some_iff.mp H
                  obtain ⟨t198, A330, H⟩ := H
                  replace H : ((field_Mul.f t198 a2).bind fun t199 => ((field_Mul.f a1 a2).bind fun t200 => ((field_Mul.f a0 t200).bind fun t201 => (fastilaw09_FieldLaws.j1 kj8 a0 a1 a2 t183 t184 (t199 != t201))))) = some r := H
                  have A33 := Aside0.mk A330
                  have e198 : t198 = t192 := Option.some.inj (A330.symm.trans A25.out)
                  clear A330
                  replace H := Option.bind_eq_some_iff.mp H
                  obtain ⟨t199, A340, H⟩ := H
                  replace H : ((field_Mul.f a1 a2).bind fun t200 => ((field_Mul.f a0 t200).bind fun t201 => (fastilaw09_FieldLaws.j1 kj8 a0 a1 a2 t183 t184 (t199 != t201)))) = some r := H
                  have A34 := Aside0.mk A340
                  clear A340
                  replace H := Option.bind_eq_some_iff.mp H
                  obtain ⟨t200, A350, H⟩ := H
                  replace H : ((field_Mul.f a0 t200).bind fun t201 => (fastilaw09_FieldLaws.j1 kj8 a0 a1 a2 t183 t184 (t199 != t201))) = some r := H
                  have A35 := Aside0.mk A350
                  clear A350
                  replace H := Option.bind_eq_some_iff.mp H
                  obtain ⟨t201, A360, H⟩ := H
                  replace H : (fastilaw09_FieldLaws.j1 kj8 a0 a1 a2 t183 t184 (t199 != t201)) = some r := H
                  have A36 := Aside0.mk A360
                  clear A360
                  have H' := Aside0.mk H
                  clear H
                  go_wp2_with (first | ((with_reducible refine gate_callee (f := 14) rfl ?_); refine goesL_ (some 52) rfl rfl Try.func14 (by kernel_rfl) rfl #[.int .i64 a0, .int .i64 a1] rfl (by (try simp only [List.map_toArray, List.map_cons, List.map_nil]); first | done | rfl | (simp only [List.length_drop, List.length_take]; rfl)) ?_; (with_reducible refine (field_Add.calls kj8 a0 a1 t190 _ A22.out).mono ?_); rintro e w37 ⟨rfl, hb⟩; refine ⟨_, rfl, ?_⟩; have n0_ := Aside0.mk (below_step (by repeat (first | (with_reducible first | exact HB.out | apply below_alloc | apply pw_below_drewN | apply below_drew1) | exact HB.out)) hb); clear HB; have HB := n0_; clear n0_; (try clear hb); (try clear hb2); (try clear hk); (try clear hi)) | ((with_reducible refine gate_callee (f := 14) rfl ?_); refine goesL_ (some 55) rfl rfl Try.func14 (by kernel_rfl) rfl #[.int .i64 t184, .int .i64 t183] rfl (by (try simp only [List.map_toArray, List.map_cons, List.map_nil]); first | done | rfl | (simp only [List.length_drop, List.length_take]; rfl)) ?_; (with_reducible refine (field_Add.calls kj8 t184 t183 t191 _ A23.out).mono ?_); rintro e w38 ⟨rfl, hb⟩; refine ⟨_, rfl, ?_⟩; have n0_ := Aside0.mk (below_step (by repeat (first | (with_reducible first | exact HB.out | apply below_alloc | apply pw_below_drewN | apply below_drew1) | exact HB.out)) hb); clear HB; have HB := n0_; clear n0_; (try clear hb); (try clear hb2); (try clear hk); (try clear hi)) | (go_at_call 16; (with_reducible refine (field_Mul.calls a0 a1 t192 _ A25.out).mono ?_); rintro e w' ⟨rfl, ⟨nd, rfl⟩⟩) | (go_at_call 16; (with_reducible refine (field_Mul.calls t184 t183 t193 _ A26.out).mono ?_); rintro e w' ⟨rfl, ⟨nd, rfl⟩⟩) | (go_at_call 14; (with_reducible refine (field_Add.calls kj8 a0 a1 t194 _ A28.out).mono ?_); rintro e w39 ⟨rfl, hb⟩; have n0_ := Aside0.mk (below_step (by repeat (first | (with_reducible first | exact HB.out | apply below_alloc | apply pw_below_drewN | apply below_drew1) | exact HB.out)) hb); clear HB; have HB := n0_; clear n0_; (try clear hb); (try clear hb2); (try clear hk); (try clear hi)) | (go_at_call 14; (with_reducible refine (field_Add.calls kj8 t194 a2 t195 _ A29.out).mono ?_); rintro e w40 ⟨rfl, hb⟩; have n0_ := Aside0.mk (below_step (by repeat (first | (with_reducible first | exact HB.out | apply below_alloc | apply pw_below_drewN | apply below_drew1) | exact HB.out)) hb); clear HB; have HB := n0_; clear n0_; (try clear hb); (try clear hb2); (try clear hk); (try clear hi)) | (go_at_call 14; (with_reducible refine (field_Add.calls kj8 a1 a2 t196 _ A30.out).mono ?_); rintro e w41 ⟨rfl, hb⟩; have n0_ := Aside0.mk (below_step (by repeat (first | (with_reducible first | exact HB.out | apply below_alloc | apply pw_below_drewN | apply below_drew1) | exact HB.out)) hb); clear HB; have HB := n0_; clear n0_; (try clear hb); (try clear hb2); (try clear hk); (try clear hi)) | (go_at_call 14; (with_reducible refine (field_Add.calls kj8 a0 t196 t197 _ A31.out).mono ?_); rintro e w42 ⟨rfl, hb⟩; have n0_ := Aside0.mk (below_step (by repeat (first | (with_reducible first | exact HB.out | apply below_alloc | apply pw_below_drewN | apply below_drew1) | exact HB.out)) hb); clear HB; have HB := n0_; clear n0_; (try clear hb); (try clear hb2); (try clear hk); (try clear hi)) | (go_at_call 16; (with_reducible refine (field_Mul.calls a0 a1 t198 _ A33.out).mono ?_); rintro e w' ⟨rfl, ⟨nd, rfl⟩⟩) | (go_at_call 16; (with_reducible refine (field_Mul.calls t192 a2 t199 _ (e198 ▸ A34.out)).mono ?_); rintro e w' ⟨rfl, ⟨nd, rfl⟩⟩) | (go_at_call 16; (with_reducible refine (field_Mul.calls a1 a2 t200 _ A35.out).mono ?_); rintro e w' ⟨rfl, ⟨nd, rfl⟩⟩) | (go_at_call 16; (with_reducible refine (field_Mul.calls a0 t200 t201 _ A36.out).mono ?_); rintro e w' ⟨rfl, ⟨nd, rfl⟩⟩))
                  go_meet
                  case rel => exact ⟨_, ((t199 != t201)), (by first | rfl | (simp; done) | (simp [*]; done)), H', ⟨by have := HJ8.out; first | omega | exact Nat.le_refl _⟩, ⟨by repeat (first | (with_reducible first | exact HB.out | apply below_alloc | apply pw_below_drewN | apply below_drew1) | exact HB.out)⟩⟩
                · rw [if_neg c32] at H
                  have c32b0 : (t195 == t197) = false := beq_eq_false_iff_ne.mpr c32
                  have c32b1 : (t195 != t197) = true := bne_iff_ne.mpr c32
                  have H' := Aside0.mk H
                  clear H
                  go_wp2_with (first | ((with_reducible refine gate_callee (f := 14) rfl ?_); refine goesL_ (some 52) rfl rfl Try.func14 (by kernel_rfl) rfl #[.int .i64 a0, .int .i64 a1] rfl (by (try simp only [List.map_toArray, List.map_cons, List.map_nil]); first | done | rfl | (simp only [List.length_drop, List.length_take]; rfl)) ?_; (with_reducible refine (field_Add.calls kj8 a0 a1 t190 _ A22.out).mono ?_); rintro e w43 ⟨rfl, hb⟩; refine ⟨_, rfl, ?_⟩; have n0_ := Aside0.mk (below_step (by repeat (first | (with_reducible first | exact HB.out | apply below_alloc | apply pw_below_drewN | apply below_drew1) | exact HB.out)) hb); clear HB; have HB := n0_; clear n0_; (try clear hb); (try clear hb2); (try clear hk); (try clear hi)) | ((with_reducible refine gate_callee (f := 14) rfl ?_); refine goesL_ (some 55) rfl rfl Try.func14 (by kernel_rfl) rfl #[.int .i64 t184, .int .i64 t183] rfl (by (try simp only [List.map_toArray, List.map_cons, List.map_nil]); first | done | rfl | (simp only [List.length_drop, List.length_take]; rfl)) ?_; (with_reducible refine (field_Add.calls kj8 t184 t183 t191 _ A23.out).mono ?_); rintro e w44 ⟨rfl, hb⟩; refine ⟨_, rfl, ?_⟩; have n0_ := Aside0.mk (below_step (by repeat (first | (with_reducible first | exact HB.out | apply below_alloc | apply pw_below_drewN | apply below_drew1) | exact HB.out)) hb); clear HB; have HB := n0_; clear n0_; (try clear hb); (try clear hb2); (try clear hk); (try clear hi)) | (go_at_call 16; (with_reducible refine (field_Mul.calls a0 a1 t192 _ A25.out).mono ?_); rintro e w' ⟨rfl, ⟨nd, rfl⟩⟩) | (go_at_call 16; (with_reducible refine (field_Mul.calls t184 t183 t193 _ A26.out).mono ?_); rintro e w' ⟨rfl, ⟨nd, rfl⟩⟩) | (go_at_call 14; (with_reducible refine (field_Add.calls kj8 a0 a1 t194 _ A28.out).mono ?_); rintro e w45 ⟨rfl, hb⟩; have n0_ := Aside0.mk (below_step (by repeat (first | (with_reducible first | exact HB.out | apply below_alloc | apply pw_below_drewN | apply below_drew1) | exact HB.out)) hb); clear HB; have HB := n0_; clear n0_; (try clear hb); (try clear hb2); (try clear hk); (try clear hi)) | (go_at_call 14; (with_reducible refine (field_Add.calls kj8 t194 a2 t195 _ A29.out).mono ?_); rintro e w46 ⟨rfl, hb⟩; have n0_ := Aside0.mk (below_step (by repeat (first | (with_reducible first | exact HB.out | apply below_alloc | apply pw_below_drewN | apply below_drew1) | exact HB.out)) hb); clear HB; have HB := n0_; clear n0_; (try clear hb); (try clear hb2); (try clear hk); (try clear hi)) | (go_at_call 14; (with_reducible refine (field_Add.calls kj8 a1 a2 t196 _ A30.out).mono ?_); rintro e w47 ⟨rfl, hb⟩; have n0_ := Aside0.mk (below_step (by repeat (first | (with_reducible first | exact HB.out | apply below_alloc | apply pw_below_drewN | apply below_drew1) | exact HB.out)) hb); clear HB; have HB := n0_; clear n0_; (try clear hb); (try clear hb2); (try clear hk); (try clear hi)) | (go_at_call 14; (with_reducible refine (field_Add.calls kj8 a0 t196 t197 _ A31.out).mono ?_); rintro e w48 ⟨rfl, hb⟩; have n0_ := Aside0.mk (below_step (by repeat (first | (with_reducible first | exact HB.out | apply below_alloc | apply pw_below_drewN | apply below_drew1) | exact HB.out)) hb); clear HB; have HB := n0_; clear n0_; (try clear hb); (try clear hb2); (try clear hk); (try clear hi)))
                  go_meet
                  case rel => exact ⟨_, (true), (by first | rfl | (simp; done) | (simp [*]; done)), H', ⟨by have := HJ8.out; first | omega | exact Nat.le_refl _⟩, ⟨by repeat (first | (with_reducible first | exact HB.out | apply below_alloc | apply pw_below_drewN | apply below_drew1) | exact HB.out)⟩⟩
              · rw [if_neg c27] at H
                have c27b0 : (t192 == t193) = false := beq_eq_false_iff_ne.mpr c27
                have c27b1 : (t192 != t193) = true := bne_iff_ne.mpr c27
                have H' := Aside0.mk H
                clear H
                go_wp2_with (first | ((with_reducible refine gate_callee (f := 14) rfl ?_); refine goesL_ (some 52) rfl rfl Try.func14 (by kernel_rfl) rfl #[.int .i64 a0, .int .i64 a1] rfl (by (try simp only [List.map_toArray, List.map_cons, List.map_nil]); first | done | rfl | (simp only [List.length_drop, List.length_take]; rfl)) ?_; (with_reducible refine (field_Add.calls kj8 a0 a1 t190 _ A22.out).mono ?_); rintro e w49 ⟨rfl, hb⟩; refine ⟨_, rfl, ?_⟩; have n0_ := Aside0.mk (below_step (by repeat (first | (with_reducible first | exact HB.out | apply below_alloc | apply pw_below_drewN | apply below_drew1) | exact HB.out)) hb); clear HB; have HB := n0_; clear n0_; (try clear hb); (try clear hb2); (try clear hk); (try clear hi)) | ((with_reducible refine gate_callee (f := 14) rfl ?_); refine goesL_ (some 55) rfl rfl Try.func14 (by kernel_rfl) rfl #[.int .i64 t184, .int .i64 t183] rfl (by (try simp only [List.map_toArray, List.map_cons, List.map_nil]); first | done | rfl | (simp only [List.length_drop, List.length_take]; rfl)) ?_; (with_reducible refine (field_Add.calls kj8 t184 t183 t191 _ A23.out).mono ?_); rintro e w50 ⟨rfl, hb⟩; refine ⟨_, rfl, ?_⟩; have n0_ := Aside0.mk (below_step (by repeat (first | (with_reducible first | exact HB.out | apply below_alloc | apply pw_below_drewN | apply below_drew1) | exact HB.out)) hb); clear HB; have HB := n0_; clear n0_; (try clear hb); (try clear hb2); (try clear hk); (try clear hi)) | (go_at_call 16; (with_reducible refine (field_Mul.calls a0 a1 t192 _ A25.out).mono ?_); rintro e w' ⟨rfl, ⟨nd, rfl⟩⟩) | (go_at_call 16; (with_reducible refine (field_Mul.calls t184 t183 t193 _ A26.out).mono ?_); rintro e w' ⟨rfl, ⟨nd, rfl⟩⟩))
                go_meet
                case rel => exact ⟨_, (true), (by first | rfl | (simp; done) | (simp [*]; done)), H', ⟨by have := HJ8.out; first | omega | exact Nat.le_refl _⟩, ⟨by repeat (first | (with_reducible first | exact HB.out | apply below_alloc | apply pw_below_drewN | apply below_drew1) | exact HB.out)⟩⟩
            · rw [if_neg c24] at H
              have c24b0 : (t190 == t191) = false := beq_eq_false_iff_ne.mpr c24
              have c24b1 : (t190 != t191) = true := bne_iff_ne.mpr c24
              (first | rw [c24b0] | (simp only [i64_w, i32_w]; rw [c24b0]) | skip)
              have H' := Aside0.mk H
              clear H
              go_wp2_with (first | ((with_reducible refine gate_callee (f := 14) rfl ?_); refine goesL_ (some 52) rfl rfl Try.func14 (by kernel_rfl) rfl #[.int .i64 a0, .int .i64 a1] rfl (by (try simp only [List.map_toArray, List.map_cons, List.map_nil]); first | done | rfl | (simp only [List.length_drop, List.length_take]; rfl)) ?_; (with_reducible refine (field_Add.calls kj8 a0 a1 t190 _ A22.out).mono ?_); rintro e w51 ⟨rfl, hb⟩; refine ⟨_, rfl, ?_⟩; have n0_ := Aside0.mk (below_step (by repeat (first | (with_reducible first | exact HB.out | apply below_alloc | apply pw_below_drewN | apply below_drew1) | exact HB.out)) hb); clear HB; have HB := n0_; clear n0_; (try clear hb); (try clear hb2); (try clear hk); (try clear hi)) | ((with_reducible refine gate_callee (f := 14) rfl ?_); refine goesL_ (some 55) rfl rfl Try.func14 (by kernel_rfl) rfl #[.int .i64 t184, .int .i64 t183] rfl (by (try simp only [List.map_toArray, List.map_cons, List.map_nil]); first | done | rfl | (simp only [List.length_drop, List.length_take]; rfl)) ?_; (with_reducible refine (field_Add.calls kj8 t184 t183 t191 _ A23.out).mono ?_); rintro e w52 ⟨rfl, hb⟩; refine ⟨_, rfl, ?_⟩; have n0_ := Aside0.mk (below_step (by repeat (first | (with_reducible first | exact HB.out | apply below_alloc | apply pw_below_drewN | apply below_drew1) | exact HB.out)) hb); clear HB; have HB := n0_; clear n0_; (try clear hb); (try clear hb2); (try clear hk); (try clear hi)))
              go_meet
              case rel => exact ⟨_, (true), (by first | rfl | (simp; done) | (simp [*]; done)), H', ⟨by have := HJ8.out; first | omega | exact Nat.le_refl _⟩, ⟨by repeat (first | (with_reducible first | exact HB.out | apply below_alloc | apply pw_below_drewN | apply below_drew1) | exact HB.out)⟩⟩
          case rest =>
            clear HC21
            try clear c1
            try clear c2
            try clear p2
            try clear c3
            try clear c5
            try clear p6
            try clear c9
            try clear c12
            try clear c14
            try clear c16
            try clear c18
            try clear c18b0
            try clear c18b1
            try clear c19
            try clear c19b0
            try clear c19b1
            try clear c20
            try clear c23
            try clear c24
            try clear c24b0
            try clear c24b1
            try clear c27
            try clear c27b0
            try clear c27b1
            try clear c32
            try clear c32b0
            try clear c32b1
            try clear p2
            try clear p6
            obtain ⟨kq, x91_20, rfl, HA, HJ20, HB⟩ := hcut
            cases kq with
            | zero => exact absurd HA.out (by simp [fastilaw09_FieldLaws.j1])
            | succ kj20 =>
              have H := HA.out
              clear HA
              simp only [fastilaw09_FieldLaws.j1] at H
              by_cases c53 : x91_20 = true
              · subst c53
                have H1 : (some false) = some r := by rw [if_pos rfl] at H; exact H
                clear H
                have H := H1
                clear H1
                obtain rfl := Option.some.inj H
                go_wp2
                go_ret
                exact ⟨by first | rfl | (simp [errW_none, errW_some] <;> rfl) | (simp [*, errW_none, errW_some] <;> rfl), by repeat (first | (with_reducible first | exact HB.out | apply below_alloc | apply pw_below_drewN | apply below_drew1) | exact HB.out)⟩
              · replace c53 := Bool.eq_false_iff.mpr c53
                subst c53
                have H1 : ((field_Add.f kj20 a1 a2).bind fun t202 => ((field_Mul.f a0 t202).bind fun t203 => ((field_Mul.f a0 a1).bind fun t204 => ((field_Mul.f a0 a2).bind fun t205 => ((field_Add.f kj20 t204 t205).bind fun t206 => (if t203 = t206 then ((field_Add.f kj20 a0 0).bind fun t207 => (if t207 = t183 then ((field_Mul.f a0 1).bind fun t208 => (if t208 = t183 then ((field_Add.f kj20 t183 (wrap64 (-t183))).bind fun t209 => (if t209 = 0 then ((field_Mul.f a0 a1).bind fun t210 => (if t183 = 0 then (fastilaw09_FieldLaws.j2 kj20 a0 t183 ((t210 == 0) != true)) else (fastilaw09_FieldLaws.j2 kj20 a0 t183 ((t210 == 0) != (t184 == 0))))) else (fastilaw09_FieldLaws.j2 kj20 a0 t183 true))) else (fastilaw09_FieldLaws.j2 kj20 a0 t183 true))) else (fastilaw09_FieldLaws.j2 kj20 a0 t183 true))) else (fastilaw09_FieldLaws.j2 kj20 a0 t183 true))))))) = some r := by rw [if_neg (show ¬ (false = true) by decide)] at H; exact H
                clear H
                have H := H1
                clear H1
                have HC54 := Aside0.mk H
                clear H
                go_upto_region 8 with (fail)
                go_cut [136] (fun v136 wc => ∃ (kq : Nat) (x136_53 : Bool), v136 = .bool x136_53 ∧ Aside0 (fastilaw09_FieldLaws.j2 kq a0 t183 x136_53 = some r) ∧ Aside0 (kq ≤ kj20) ∧ Aside0 (Below w.heap.size w wc))
                case first =>
                  have H := HC54.out
                  clear HC54
                  replace H := Option.bind_eq_some_iff.mp H
                  obtain ⟨t202, A550, H⟩ := H
                  replace H : ((field_Mul.f a0 t202).bind fun t203 => ((field_Mul.f a0 a1).bind fun t204 => ((field_Mul.f a0 a2).bind fun t205 => ((field_Add.f kj20 t204 t205).bind fun t206 => (if t203 = t206 then ((field_Add.f kj20 a0 0).bind fun t207 => (if t207 = t183 then ((field_Mul.f a0 1).bind fun t208 => (if t208 = t183 then ((field_Add.f kj20 t183 (wrap64 (-t183))).bind fun t209 => (if t209 = 0 then ((field_Mul.f a0 a1).bind fun t210 => (if t183 = 0 then (fastilaw09_FieldLaws.j2 kj20 a0 t183 ((t210 == 0) != true)) else (fastilaw09_FieldLaws.j2 kj20 a0 t183 ((t210 == 0) != (t184 == 0))))) else (fastilaw09_FieldLaws.j2 kj20 a0 t183 true))) else (fastilaw09_FieldLaws.j2 kj20 a0 t183 true))) else (fastilaw09_FieldLaws.j2 kj20 a0 t183 true))) else (fastilaw09_FieldLaws.j2 kj20 a0 t183 true)))))) = some r := H
                  have A55 := Aside0.mk A550
                  clear A550
                  replace H := Option.bind_eq_some_iff.mp H
                  obtain ⟨t203, A560, H⟩ := H
                  replace H : ((field_Mul.f a0 a1).bind fun t204 => ((field_Mul.f a0 a2).bind fun t205 => ((field_Add.f kj20 t204 t205).bind fun t206 => (if t203 = t206 then ((field_Add.f kj20 a0 0).bind fun t207 => (if t207 = t183 then ((field_Mul.f a0 1).bind fun t208 => (if t208 = t183 then ((field_Add.f kj20 t183 (wrap64 (-t183))).bind fun t209 => (if t209 = 0 then ((field_Mul.f a0 a1).bind fun t210 => (if t183 = 0 then (fastilaw09_FieldLaws.j2 kj20 a0 t183 ((t210 == 0) != true)) else (fastilaw09_FieldLaws.j2 kj20 a0 t183 ((t210 == 0) != (t184 == 0))))) else (fastilaw09_FieldLaws.j2 kj20 a0 t183 true))) else (fastilaw09_FieldLaws.j2 kj20 a0 t183 true))) else (fastilaw09_FieldLaws.j2 kj20 a0 t183 true))) else (fastilaw09_FieldLaws.j2 kj20 a0 t183 true))))) = some r := H
                  have A56 := Aside0.mk A560
                  clear A560
                  replace H := Option.bind_eq_some_iff.mp H
                  obtain ⟨t204, A570, H⟩ := H
                  replace H : ((field_Mul.f a0 a2).bind fun t205 => ((field_Add.f kj20 t204 t205).bind fun t206 => (if t203 = t206 then ((field_Add.f kj20 a0 0).bind fun t207 => (if t207 = t183 then ((field_Mul.f a0 1).bind fun t208 => (if t208 = t183 then ((field_Add.f kj20 t183 (wrap64 (-t183))).bind fun t209 => (if t209 = 0 then ((field_Mul.f a0 a1).bind fun t210 => (if t183 = 0 then (fastilaw09_FieldLaws.j2 kj20 a0 t183 ((t210 == 0) != true)) else (fastilaw09_FieldLaws.j2 kj20 a0 t183 ((t210 == 0) != (t184 == 0))))) else (fastilaw09_FieldLaws.j2 kj20 a0 t183 true))) else (fastilaw09_FieldLaws.j2 kj20 a0 t183 true))) else (fastilaw09_FieldLaws.j2 kj20 a0 t183 true))) else (fastilaw09_FieldLaws.j2 kj20 a0 t183 true)))) = some r := H
                  have A57 := Aside0.mk A570
                  clear A570
                  replace H := Option.bind_eq_some_iff.mp H
                  obtain ⟨t205, A580, H⟩ := H
                  replace H : ((field_Add.f kj20 t204 t205).bind fun t206 => (if t203 = t206 then ((field_Add.f kj20 a0 0).bind fun t207 => (if t207 = t183 then ((field_Mul.f a0 1).bind fun t208 => (if t208 = t183 then ((field_Add.f kj20 t183 (wrap64 (-t183))).bind fun t209 => (if t209 = 0 then ((field_Mul.f a0 a1).bind fun t210 => (if t183 = 0 then (fastilaw09_FieldLaws.j2 kj20 a0 t183 ((t210 == 0) != true)) else (fastilaw09_FieldLaws.j2 kj20 a0 t183 ((t210 == 0) != (t184 == 0))))) else (fastilaw09_FieldLaws.j2 kj20 a0 t183 true))) else (fastilaw09_FieldLaws.j2 kj20 a0 t183 true))) else (fastilaw09_FieldLaws.j2 kj20 a0 t183 true))) else (fastilaw09_FieldLaws.j2 kj20 a0 t183 true))) = some r := H
                  have A58 := Aside0.mk A580
                  clear A580
                  replace H := Option.bind_eq_some_iff.mp H
                  obtain ⟨t206, A590, H⟩ := H
                  replace H : (if t203 = t206 then ((field_Add.f kj20 a0 0).bind fun t207 => (if t207 = t183 then ((field_Mul.f a0 1).bind fun t208 => (if t208 = t183 then ((field_Add.f kj20 t183 (wrap64 (-t183))).bind fun t209 => (if t209 = 0 then ((field_Mul.f a0 a1).bind fun t210 => (if t183 = 0 then (fastilaw09_FieldLaws.j2 kj20 a0 t183 ((t210 == 0) != true)) else (fastilaw09_FieldLaws.j2 kj20 a0 t183 ((t210 == 0) != (t184 == 0))))) else (fastilaw09_FieldLaws.j2 kj20 a0 t183 true))) else (fastilaw09_FieldLaws.j2 kj20 a0 t183 true))) else (fastilaw09_FieldLaws.j2 kj20 a0 t183 true))) else (fastilaw09_FieldLaws.j2 kj20 a0 t183 true)) = some r := H
                  have A59 := Aside0.mk A590
                  clear A590
                  by_cases c60 : t203 = t206
                  · rw [if_pos c60] at H
                    have c60b0 : (t203 == t206) = true := beq_iff_eq.mpr c60
                    have c60b1 : (t203 != t206) = false := bne_eq_false_iff_eq.mpr c60
                    clear c60
                    (first | rw [c60b0] | (simp only [i64_w, i32_w]; rw [c60b0]) | skip)
                    replace H := Option.bind_eq_some_iff.mp H
                    obtain ⟨t207, A610, H⟩ := H
                    replace H : (if t207 = t183 then ((field_Mul.f a0 1).bind fun t208 => (if t208 = t183 then ((field_Add.f kj20 t183 (wrap64 (-t183))).bind fun t209 => (if t209 = 0 then ((field_Mul.f a0 a1).bind fun t210 => (if t183 = 0 then (fastilaw09_FieldLaws.j2 kj20 a0 t183 ((t210 == 0) != true)) else (fastilaw09_FieldLaws.j2 kj20 a0 t183 ((t210 == 0) != (t184 == 0))))) else (fastilaw09_FieldLaws.j2 kj20 a0 t183 true))) else (fastilaw09_FieldLaws.j2 kj20 a0 t183 true))) else (fastilaw09_FieldLaws.j2 kj20 a0 t183 true)) = some r := H
                    have A61 := Aside0.mk A610
                    clear A610
                    by_cases c62 : t207 = t183
                    · rw [if_pos c62] at H
                      have c62b0 : (t207 == t183) = true := beq_iff_eq.mpr c62
                      have c62b1 : (t207 != t183) = false := bne_eq_false_iff_eq.mpr c62
                      clear c62
                      replace H := Option.bind_eq_some_iff.mp H
                      obtain ⟨t208, A630, H⟩ := H
                      replace H : (if t208 = t183 then ((field_Add.f kj20 t183 (wrap64 (-t183))).bind fun t209 => (if t209 = 0 then ((field_Mul.f a0 a1).bind fun t210 => (if t183 = 0 then (fastilaw09_FieldLaws.j2 kj20 a0 t183 ((t210 == 0) != true)) else (fastilaw09_FieldLaws.j2 kj20 a0 t183 ((t210 == 0) != (t184 == 0))))) else (fastilaw09_FieldLaws.j2 kj20 a0 t183 true))) else (fastilaw09_FieldLaws.j2 kj20 a0 t183 true)) = some r := H
                      have A63 := Aside0.mk A630
                      clear A630
                      by_cases c64 : t208 = t183
                      · rw [if_pos c64] at H
                        have c64b0 : (t208 == t183) = true := beq_iff_eq.mpr c64
                        have c64b1 : (t208 != t183) = false := bne_eq_false_iff_eq.mpr c64
                        clear c64
                        replace H := Option.bind_eq_some_iff.mp H
                        obtain ⟨t209, A650, H⟩ := H
                        replace H : (if t209 = 0 then ((field_Mul.f a0 a1).bind fun t210 => (if t183 = 0 then (fastilaw09_FieldLaws.j2 kj20 a0 t183 ((t210 == 0) != true)) else (fastilaw09_FieldLaws.j2 kj20 a0 t183 ((t210 == 0) != (t184 == 0))))) else (fastilaw09_FieldLaws.j2 kj20 a0 t183 true)) = some r := H
                        have A65 := Aside0.mk A650
                        clear A650
                        by_cases c66 : t209 = 0
                        · rw [if_pos c66] at H
                          have c66b0 : (t209 == 0) = true := beq_iff_eq.mpr c66
                          have c66b1 : (t209 != 0) = false := bne_eq_false_iff_eq.mpr c66
                          clear c66
                          replace H := Option.bind_eq_some_iff.mp H
                          obtain ⟨t210, A670, H⟩ := H
                          have e210 : Aside0 (t204 = t210) := Aside0.mk (Option.some.inj (A57.out.symm.trans A670))
                          replace H : (if t183 = 0 then (fastilaw09_FieldLaws.j2 kj20 a0 t183 ((t210 == 0) != true)) else (fastilaw09_FieldLaws.j2 kj20 a0 t183 ((t210 == 0) != (t184 == 0)))) = some r := H
                          have A67 := Aside0.mk A670
                          clear A670
                          by_cases c68 : t183 = 0
                          · rw [if_pos c68] at H
                            have c68b0 : (t183 == 0) = true := beq_iff_eq.mpr c68
                            have c68b1 : (t183 != 0) = false := bne_eq_false_iff_eq.mpr c68
                            clear c68
                            have H' := Aside0.mk H
                            clear H
                            go_wp2_with (first | ((with_reducible refine gate_callee (f := 14) rfl ?_); refine goesL_ (some 95) rfl rfl Try.func14 (by kernel_rfl) rfl #[.int .i64 a1, .int .i64 a2] rfl (by (try simp only [List.map_toArray, List.map_cons, List.map_nil]); first | done | rfl | (simp only [List.length_drop, List.length_take]; rfl)) ?_; (with_reducible refine (field_Add.calls kj20 a1 a2 t202 _ A55.out).mono ?_); rintro e w69 ⟨rfl, hb⟩; refine ⟨_, rfl, ?_⟩; have n0_ := Aside0.mk (below_step (by repeat (first | (with_reducible first | exact HB.out | apply below_alloc | apply pw_below_drewN | apply below_drew1) | exact HB.out)) hb); clear HB; have HB := n0_; clear n0_; (try clear hb); (try clear hb2); (try clear hk); (try clear hi)) | ((with_reducible refine gate_callee (f := 16) rfl ?_); refine goesL_ (some 96) rfl rfl Try.func16 (by kernel_rfl) rfl #[.int .i64 a0, .int .i64 t202] rfl (by (try simp only [List.map_toArray, List.map_cons, List.map_nil]); first | done | rfl | (simp only [List.length_drop, List.length_take]; rfl)) ?_; (with_reducible refine (field_Mul.calls a0 t202 t203 _ A56.out).mono ?_); rintro e w' ⟨rfl, ⟨nd, rfl⟩⟩; refine ⟨_, rfl, ?_⟩) | ((with_reducible refine gate_callee (f := 16) rfl ?_); refine goesL_ (some 99) rfl rfl Try.func16 (by kernel_rfl) rfl #[.int .i64 a0, .int .i64 a1] rfl (by (try simp only [List.map_toArray, List.map_cons, List.map_nil]); first | done | rfl | (simp only [List.length_drop, List.length_take]; rfl)) ?_; (with_reducible refine (field_Mul.calls a0 a1 t204 _ A57.out).mono ?_); rintro e w' ⟨rfl, ⟨nd, rfl⟩⟩; refine ⟨_, rfl, ?_⟩) | ((with_reducible refine gate_callee (f := 16) rfl ?_); refine goesL_ (some 102) rfl rfl Try.func16 (by kernel_rfl) rfl #[.int .i64 a0, .int .i64 a2] rfl (by (try simp only [List.map_toArray, List.map_cons, List.map_nil]); first | done | rfl | (simp only [List.length_drop, List.length_take]; rfl)) ?_; (with_reducible refine (field_Mul.calls a0 a2 t205 _ A58.out).mono ?_); rintro e w' ⟨rfl, ⟨nd, rfl⟩⟩; refine ⟨_, rfl, ?_⟩) | ((with_reducible refine gate_callee (f := 14) rfl ?_); refine goesL_ (some 103) rfl rfl Try.func14 (by kernel_rfl) rfl #[.int .i64 t204, .int .i64 t205] rfl (by (try simp only [List.map_toArray, List.map_cons, List.map_nil]); first | done | rfl | (simp only [List.length_drop, List.length_take]; rfl)) ?_; (with_reducible refine (field_Add.calls kj20 t204 t205 t206 _ A59.out).mono ?_); rintro e w70 ⟨rfl, hb⟩; refine ⟨_, rfl, ?_⟩; have n0_ := Aside0.mk (below_step (by repeat (first | (with_reducible first | exact HB.out | apply below_alloc | apply pw_below_drewN | apply below_drew1) | exact HB.out)) hb); clear HB; have HB := n0_; clear n0_; (try clear hb); (try clear hb2); (try clear hk); (try clear hi)) | (go_at_call 14; (with_reducible refine (field_Add.calls kj20 a0 0 t207 _ A61.out).mono ?_); rintro e w71 ⟨rfl, hb⟩; have n0_ := Aside0.mk (below_step (by repeat (first | (with_reducible first | exact HB.out | apply below_alloc | apply pw_below_drewN | apply below_drew1) | exact HB.out)) hb); clear HB; have HB := n0_; clear n0_; (try clear hb); (try clear hb2); (try clear hk); (try clear hi)) | (go_at_call 16; (with_reducible refine (field_Mul.calls a0 1 t208 _ A63.out).mono ?_); rintro e w' ⟨rfl, ⟨nd, rfl⟩⟩) | (go_at_call 14; (with_reducible refine (field_Add.calls kj20 t183 (wrap64 (-t183)) t209 _ A65.out).mono ?_); rintro e w72 ⟨rfl, hb⟩; have n0_ := Aside0.mk (below_step (by repeat (first | (with_reducible first | exact HB.out | apply below_alloc | apply pw_below_drewN | apply below_drew1) | exact HB.out)) hb); clear HB; have HB := n0_; clear n0_; (try clear hb); (try clear hb2); (try clear hk); (try clear hi)) | (go_at_call 16; (with_reducible refine (field_Mul.calls a0 a1 t204 _ A57.out).mono ?_); rintro e w' ⟨rfl, ⟨nd, rfl⟩⟩))
                            go_meet
                            case rel => exact ⟨_, (((t210 == 0) != true)), (by first | (rw [← e210.out]; first | rfl | (simp; done) | (simp [*]; done)) | rfl | (simp; done) | (simp [*]; done)), H', ⟨by have := HJ8.out; have := HJ20.out; first | omega | exact Nat.le_refl _⟩, ⟨by repeat (first | (with_reducible first | exact HB.out | apply below_alloc | apply pw_below_drewN | apply below_drew1) | exact HB.out)⟩⟩
                          · rw [if_neg c68] at H
                            have c68b0 : (t183 == 0) = false := beq_eq_false_iff_ne.mpr c68
                            have c68b1 : (t183 != 0) = true := bne_iff_ne.mpr c68
                            have H' := Aside0.mk H
                            clear H
                            go_wp2_with (first | ((with_reducible refine gate_callee (f := 14) rfl ?_); refine goesL_ (some 95) rfl rfl Try.func14 (by kernel_rfl) rfl #[.int .i64 a1, .int .i64 a2] rfl (by (try simp only [List.map_toArray, List.map_cons, List.map_nil]); first | done | rfl | (simp only [List.length_drop, List.length_take]; rfl)) ?_; (with_reducible refine (field_Add.calls kj20 a1 a2 t202 _ A55.out).mono ?_); rintro e w73 ⟨rfl, hb⟩; refine ⟨_, rfl, ?_⟩; have n0_ := Aside0.mk (below_step (by repeat (first | (with_reducible first | exact HB.out | apply below_alloc | apply pw_below_drewN | apply below_drew1) | exact HB.out)) hb); clear HB; have HB := n0_; clear n0_; (try clear hb); (try clear hb2); (try clear hk); (try clear hi)) | ((with_reducible refine gate_callee (f := 16) rfl ?_); refine goesL_ (some 96) rfl rfl Try.func16 (by kernel_rfl) rfl #[.int .i64 a0, .int .i64 t202] rfl (by (try simp only [List.map_toArray, List.map_cons, List.map_nil]); first | done | rfl | (simp only [List.length_drop, List.length_take]; rfl)) ?_; (with_reducible refine (field_Mul.calls a0 t202 t203 _ A56.out).mono ?_); rintro e w' ⟨rfl, ⟨nd, rfl⟩⟩; refine ⟨_, rfl, ?_⟩) | ((with_reducible refine gate_callee (f := 16) rfl ?_); refine goesL_ (some 99) rfl rfl Try.func16 (by kernel_rfl) rfl #[.int .i64 a0, .int .i64 a1] rfl (by (try simp only [List.map_toArray, List.map_cons, List.map_nil]); first | done | rfl | (simp only [List.length_drop, List.length_take]; rfl)) ?_; (with_reducible refine (field_Mul.calls a0 a1 t204 _ A57.out).mono ?_); rintro e w' ⟨rfl, ⟨nd, rfl⟩⟩; refine ⟨_, rfl, ?_⟩) | ((with_reducible refine gate_callee (f := 16) rfl ?_); refine goesL_ (some 102) rfl rfl Try.func16 (by kernel_rfl) rfl #[.int .i64 a0, .int .i64 a2] rfl (by (try simp only [List.map_toArray, List.map_cons, List.map_nil]); first | done | rfl | (simp only [List.length_drop, List.length_take]; rfl)) ?_; (with_reducible refine (field_Mul.calls a0 a2 t205 _ A58.out).mono ?_); rintro e w' ⟨rfl, ⟨nd, rfl⟩⟩; refine ⟨_, rfl, ?_⟩) | ((with_reducible refine gate_callee (f := 14) rfl ?_); refine goesL_ (some 103) rfl rfl Try.func14 (by kernel_rfl) rfl #[.int .i64 t204, .int .i64 t205] rfl (by (try simp only [List.map_toArray, List.map_cons, List.map_nil]); first | done | rfl | (simp only [List.length_drop, List.length_take]; rfl)) ?_; (with_reducible refine (field_Add.calls kj20 t204 t205 t206 _ A59.out).mono ?_); rintro e w74 ⟨rfl, hb⟩; refine ⟨_, rfl, ?_⟩; have n0_ := Aside0.mk (below_step (by repeat (first | (with_reducible first | exact HB.out | apply below_alloc | apply pw_below_drewN | apply below_drew1) | exact HB.out)) hb); clear HB; have HB := n0_; clear n0_; (try clear hb); (try clear hb2); (try clear hk); (try clear hi)) | (go_at_call 14; (with_reducible refine (field_Add.calls kj20 a0 0 t207 _ A61.out).mono ?_); rintro e w75 ⟨rfl, hb⟩; have n0_ := Aside0.mk (below_step (by repeat (first | (with_reducible first | exact HB.out | apply below_alloc | apply pw_below_drewN | apply below_drew1) | exact HB.out)) hb); clear HB; have HB := n0_; clear n0_; (try clear hb); (try clear hb2); (try clear hk); (try clear hi)) | (go_at_call 16; (with_reducible refine (field_Mul.calls a0 1 t208 _ A63.out).mono ?_); rintro e w' ⟨rfl, ⟨nd, rfl⟩⟩) | (go_at_call 14; (with_reducible refine (field_Add.calls kj20 t183 (wrap64 (-t183)) t209 _ A65.out).mono ?_); rintro e w76 ⟨rfl, hb⟩; have n0_ := Aside0.mk (below_step (by repeat (first | (with_reducible first | exact HB.out | apply below_alloc | apply pw_below_drewN | apply below_drew1) | exact HB.out)) hb); clear HB; have HB := n0_; clear n0_; (try clear hb); (try clear hb2); (try clear hk); (try clear hi)) | (go_at_call 16; (with_reducible refine (field_Mul.calls a0 a1 t204 _ A57.out).mono ?_); rintro e w' ⟨rfl, ⟨nd, rfl⟩⟩))
                            go_meet
                            case rel => exact ⟨_, (((t210 == 0) != (t184 == 0))), (by first | (rw [← e210.out]; first | rfl | (simp; done) | (simp [*]; done)) | rfl | (simp; done) | (simp [*]; done)), H', ⟨by have := HJ8.out; have := HJ20.out; first | omega | exact Nat.le_refl _⟩, ⟨by repeat (first | (with_reducible first | exact HB.out | apply below_alloc | apply pw_below_drewN | apply below_drew1) | exact HB.out)⟩⟩
                        · rw [if_neg c66] at H
                          have c66b0 : (t209 == 0) = false := beq_eq_false_iff_ne.mpr c66
                          have c66b1 : (t209 != 0) = true := bne_iff_ne.mpr c66
                          have H' := Aside0.mk H
                          clear H
                          go_wp2_with (first | ((with_reducible refine gate_callee (f := 14) rfl ?_); refine goesL_ (some 95) rfl rfl Try.func14 (by kernel_rfl) rfl #[.int .i64 a1, .int .i64 a2] rfl (by (try simp only [List.map_toArray, List.map_cons, List.map_nil]); first | done | rfl | (simp only [List.length_drop, List.length_take]; rfl)) ?_; (with_reducible refine (field_Add.calls kj20 a1 a2 t202 _ A55.out).mono ?_); rintro e w77 ⟨rfl, hb⟩; refine ⟨_, rfl, ?_⟩; have n0_ := Aside0.mk (below_step (by repeat (first | (with_reducible first | exact HB.out | apply below_alloc | apply pw_below_drewN | apply below_drew1) | exact HB.out)) hb); clear HB; have HB := n0_; clear n0_; (try clear hb); (try clear hb2); (try clear hk); (try clear hi)) | ((with_reducible refine gate_callee (f := 16) rfl ?_); refine goesL_ (some 96) rfl rfl Try.func16 (by kernel_rfl) rfl #[.int .i64 a0, .int .i64 t202] rfl (by (try simp only [List.map_toArray, List.map_cons, List.map_nil]); first | done | rfl | (simp only [List.length_drop, List.length_take]; rfl)) ?_; (with_reducible refine (field_Mul.calls a0 t202 t203 _ A56.out).mono ?_); rintro e w' ⟨rfl, ⟨nd, rfl⟩⟩; refine ⟨_, rfl, ?_⟩) | ((with_reducible refine gate_callee (f := 16) rfl ?_); refine goesL_ (some 99) rfl rfl Try.func16 (by kernel_rfl) rfl #[.int .i64 a0, .int .i64 a1] rfl (by (try simp only [List.map_toArray, List.map_cons, List.map_nil]); first | done | rfl | (simp only [List.length_drop, List.length_take]; rfl)) ?_; (with_reducible refine (field_Mul.calls a0 a1 t204 _ A57.out).mono ?_); rintro e w' ⟨rfl, ⟨nd, rfl⟩⟩; refine ⟨_, rfl, ?_⟩) | ((with_reducible refine gate_callee (f := 16) rfl ?_); refine goesL_ (some 102) rfl rfl Try.func16 (by kernel_rfl) rfl #[.int .i64 a0, .int .i64 a2] rfl (by (try simp only [List.map_toArray, List.map_cons, List.map_nil]); first | done | rfl | (simp only [List.length_drop, List.length_take]; rfl)) ?_; (with_reducible refine (field_Mul.calls a0 a2 t205 _ A58.out).mono ?_); rintro e w' ⟨rfl, ⟨nd, rfl⟩⟩; refine ⟨_, rfl, ?_⟩) | ((with_reducible refine gate_callee (f := 14) rfl ?_); refine goesL_ (some 103) rfl rfl Try.func14 (by kernel_rfl) rfl #[.int .i64 t204, .int .i64 t205] rfl (by (try simp only [List.map_toArray, List.map_cons, List.map_nil]); first | done | rfl | (simp only [List.length_drop, List.length_take]; rfl)) ?_; (with_reducible refine (field_Add.calls kj20 t204 t205 t206 _ A59.out).mono ?_); rintro e w78 ⟨rfl, hb⟩; refine ⟨_, rfl, ?_⟩; have n0_ := Aside0.mk (below_step (by repeat (first | (with_reducible first | exact HB.out | apply below_alloc | apply pw_below_drewN | apply below_drew1) | exact HB.out)) hb); clear HB; have HB := n0_; clear n0_; (try clear hb); (try clear hb2); (try clear hk); (try clear hi)) | (go_at_call 14; (with_reducible refine (field_Add.calls kj20 a0 0 t207 _ A61.out).mono ?_); rintro e w79 ⟨rfl, hb⟩; have n0_ := Aside0.mk (below_step (by repeat (first | (with_reducible first | exact HB.out | apply below_alloc | apply pw_below_drewN | apply below_drew1) | exact HB.out)) hb); clear HB; have HB := n0_; clear n0_; (try clear hb); (try clear hb2); (try clear hk); (try clear hi)) | (go_at_call 16; (with_reducible refine (field_Mul.calls a0 1 t208 _ A63.out).mono ?_); rintro e w' ⟨rfl, ⟨nd, rfl⟩⟩) | (go_at_call 14; (with_reducible refine (field_Add.calls kj20 t183 (wrap64 (-t183)) t209 _ A65.out).mono ?_); rintro e w80 ⟨rfl, hb⟩; have n0_ := Aside0.mk (below_step (by repeat (first | (with_reducible first | exact HB.out | apply below_alloc | apply pw_below_drewN | apply below_drew1) | exact HB.out)) hb); clear HB; have HB := n0_; clear n0_; (try clear hb); (try clear hb2); (try clear hk); (try clear hi)))
                          go_meet
                          case rel => exact ⟨_, (true), (by first | rfl | (simp; done) | (simp [*]; done)), H', ⟨by have := HJ8.out; have := HJ20.out; first | omega | exact Nat.le_refl _⟩, ⟨by repeat (first | (with_reducible first | exact HB.out | apply below_alloc | apply pw_below_drewN | apply below_drew1) | exact HB.out)⟩⟩
                      · rw [if_neg c64] at H
                        have c64b0 : (t208 == t183) = false := beq_eq_false_iff_ne.mpr c64
                        have c64b1 : (t208 != t183) = true := bne_iff_ne.mpr c64
                        have H' := Aside0.mk H
                        clear H
                        go_wp2_with (first | ((with_reducible refine gate_callee (f := 14) rfl ?_); refine goesL_ (some 95) rfl rfl Try.func14 (by kernel_rfl) rfl #[.int .i64 a1, .int .i64 a2] rfl (by (try simp only [List.map_toArray, List.map_cons, List.map_nil]); first | done | rfl | (simp only [List.length_drop, List.length_take]; rfl)) ?_; (with_reducible refine (field_Add.calls kj20 a1 a2 t202 _ A55.out).mono ?_); rintro e w81 ⟨rfl, hb⟩; refine ⟨_, rfl, ?_⟩; have n0_ := Aside0.mk (below_step (by repeat (first | (with_reducible first | exact HB.out | apply below_alloc | apply pw_below_drewN | apply below_drew1) | exact HB.out)) hb); clear HB; have HB := n0_; clear n0_; (try clear hb); (try clear hb2); (try clear hk); (try clear hi)) | ((with_reducible refine gate_callee (f := 16) rfl ?_); refine goesL_ (some 96) rfl rfl Try.func16 (by kernel_rfl) rfl #[.int .i64 a0, .int .i64 t202] rfl (by (try simp only [List.map_toArray, List.map_cons, List.map_nil]); first | done | rfl | (simp only [List.length_drop, List.length_take]; rfl)) ?_; (with_reducible refine (field_Mul.calls a0 t202 t203 _ A56.out).mono ?_); rintro e w' ⟨rfl, ⟨nd, rfl⟩⟩; refine ⟨_, rfl, ?_⟩) | ((with_reducible refine gate_callee (f := 16) rfl ?_); refine goesL_ (some 99) rfl rfl Try.func16 (by kernel_rfl) rfl #[.int .i64 a0, .int .i64 a1] rfl (by (try simp only [List.map_toArray, List.map_cons, List.map_nil]); first | done | rfl | (simp only [List.length_drop, List.length_take]; rfl)) ?_; (with_reducible refine (field_Mul.calls a0 a1 t204 _ A57.out).mono ?_); rintro e w' ⟨rfl, ⟨nd, rfl⟩⟩; refine ⟨_, rfl, ?_⟩) | ((with_reducible refine gate_callee (f := 16) rfl ?_); refine goesL_ (some 102) rfl rfl Try.func16 (by kernel_rfl) rfl #[.int .i64 a0, .int .i64 a2] rfl (by (try simp only [List.map_toArray, List.map_cons, List.map_nil]); first | done | rfl | (simp only [List.length_drop, List.length_take]; rfl)) ?_; (with_reducible refine (field_Mul.calls a0 a2 t205 _ A58.out).mono ?_); rintro e w' ⟨rfl, ⟨nd, rfl⟩⟩; refine ⟨_, rfl, ?_⟩) | ((with_reducible refine gate_callee (f := 14) rfl ?_); refine goesL_ (some 103) rfl rfl Try.func14 (by kernel_rfl) rfl #[.int .i64 t204, .int .i64 t205] rfl (by (try simp only [List.map_toArray, List.map_cons, List.map_nil]); first | done | rfl | (simp only [List.length_drop, List.length_take]; rfl)) ?_; (with_reducible refine (field_Add.calls kj20 t204 t205 t206 _ A59.out).mono ?_); rintro e w82 ⟨rfl, hb⟩; refine ⟨_, rfl, ?_⟩; have n0_ := Aside0.mk (below_step (by repeat (first | (with_reducible first | exact HB.out | apply below_alloc | apply pw_below_drewN | apply below_drew1) | exact HB.out)) hb); clear HB; have HB := n0_; clear n0_; (try clear hb); (try clear hb2); (try clear hk); (try clear hi)) | (go_at_call 14; (with_reducible refine (field_Add.calls kj20 a0 0 t207 _ A61.out).mono ?_); rintro e w83 ⟨rfl, hb⟩; have n0_ := Aside0.mk (below_step (by repeat (first | (with_reducible first | exact HB.out | apply below_alloc | apply pw_below_drewN | apply below_drew1) | exact HB.out)) hb); clear HB; have HB := n0_; clear n0_; (try clear hb); (try clear hb2); (try clear hk); (try clear hi)) | (go_at_call 16; (with_reducible refine (field_Mul.calls a0 1 t208 _ A63.out).mono ?_); rintro e w' ⟨rfl, ⟨nd, rfl⟩⟩))
                        go_meet
                        case rel => exact ⟨_, (true), (by first | rfl | (simp; done) | (simp [*]; done)), H', ⟨by have := HJ8.out; have := HJ20.out; first | omega | exact Nat.le_refl _⟩, ⟨by repeat (first | (with_reducible first | exact HB.out | apply below_alloc | apply pw_below_drewN | apply below_drew1) | exact HB.out)⟩⟩
                    · rw [if_neg c62] at H
                      have c62b0 : (t207 == t183) = false := beq_eq_false_iff_ne.mpr c62
                      have c62b1 : (t207 != t183) = true := bne_iff_ne.mpr c62
                      have H' := Aside0.mk H
                      clear H
                      go_wp2_with (first | ((with_reducible refine gate_callee (f := 14) rfl ?_); refine goesL_ (some 95) rfl rfl Try.func14 (by kernel_rfl) rfl #[.int .i64 a1, .int .i64 a2] rfl (by (try simp only [List.map_toArray, List.map_cons, List.map_nil]); first | done | rfl | (simp only [List.length_drop, List.length_take]; rfl)) ?_; (with_reducible refine (field_Add.calls kj20 a1 a2 t202 _ A55.out).mono ?_); rintro e w84 ⟨rfl, hb⟩; refine ⟨_, rfl, ?_⟩; have n0_ := Aside0.mk (below_step (by repeat (first | (with_reducible first | exact HB.out | apply below_alloc | apply pw_below_drewN | apply below_drew1) | exact HB.out)) hb); clear HB; have HB := n0_; clear n0_; (try clear hb); (try clear hb2); (try clear hk); (try clear hi)) | ((with_reducible refine gate_callee (f := 16) rfl ?_); refine goesL_ (some 96) rfl rfl Try.func16 (by kernel_rfl) rfl #[.int .i64 a0, .int .i64 t202] rfl (by (try simp only [List.map_toArray, List.map_cons, List.map_nil]); first | done | rfl | (simp only [List.length_drop, List.length_take]; rfl)) ?_; (with_reducible refine (field_Mul.calls a0 t202 t203 _ A56.out).mono ?_); rintro e w' ⟨rfl, ⟨nd, rfl⟩⟩; refine ⟨_, rfl, ?_⟩) | ((with_reducible refine gate_callee (f := 16) rfl ?_); refine goesL_ (some 99) rfl rfl Try.func16 (by kernel_rfl) rfl #[.int .i64 a0, .int .i64 a1] rfl (by (try simp only [List.map_toArray, List.map_cons, List.map_nil]); first | done | rfl | (simp only [List.length_drop, List.length_take]; rfl)) ?_; (with_reducible refine (field_Mul.calls a0 a1 t204 _ A57.out).mono ?_); rintro e w' ⟨rfl, ⟨nd, rfl⟩⟩; refine ⟨_, rfl, ?_⟩) | ((with_reducible refine gate_callee (f := 16) rfl ?_); refine goesL_ (some 102) rfl rfl Try.func16 (by kernel_rfl) rfl #[.int .i64 a0, .int .i64 a2] rfl (by (try simp only [List.map_toArray, List.map_cons, List.map_nil]); first | done | rfl | (simp only [List.length_drop, List.length_take]; rfl)) ?_; (with_reducible refine (field_Mul.calls a0 a2 t205 _ A58.out).mono ?_); rintro e w' ⟨rfl, ⟨nd, rfl⟩⟩; refine ⟨_, rfl, ?_⟩) | ((with_reducible refine gate_callee (f := 14) rfl ?_); refine goesL_ (some 103) rfl rfl Try.func14 (by kernel_rfl) rfl #[.int .i64 t204, .int .i64 t205] rfl (by (try simp only [List.map_toArray, List.map_cons, List.map_nil]); first | done | rfl | (simp only [List.length_drop, List.length_take]; rfl)) ?_; (with_reducible refine (field_Add.calls kj20 t204 t205 t206 _ A59.out).mono ?_); rintro e w85 ⟨rfl, hb⟩; refine ⟨_, rfl, ?_⟩; have n0_ := Aside0.mk (below_step (by repeat (first | (with_reducible first | exact HB.out | apply below_alloc | apply pw_below_drewN | apply below_drew1) | exact HB.out)) hb); clear HB; have HB := n0_; clear n0_; (try clear hb); (try clear hb2); (try clear hk); (try clear hi)) | (go_at_call 14; (with_reducible refine (field_Add.calls kj20 a0 0 t207 _ A61.out).mono ?_); rintro e w86 ⟨rfl, hb⟩; have n0_ := Aside0.mk (below_step (by repeat (first | (with_reducible first | exact HB.out | apply below_alloc | apply pw_below_drewN | apply below_drew1) | exact HB.out)) hb); clear HB; have HB := n0_; clear n0_; (try clear hb); (try clear hb2); (try clear hk); (try clear hi)))
                      go_meet
                      case rel => exact ⟨_, (true), (by first | rfl | (simp; done) | (simp [*]; done)), H', ⟨by have := HJ8.out; have := HJ20.out; first | omega | exact Nat.le_refl _⟩, ⟨by repeat (first | (with_reducible first | exact HB.out | apply below_alloc | apply pw_below_drewN | apply below_drew1) | exact HB.out)⟩⟩
                  · rw [if_neg c60] at H
                    have c60b0 : (t203 == t206) = false := beq_eq_false_iff_ne.mpr c60
                    have c60b1 : (t203 != t206) = true := bne_iff_ne.mpr c60
                    (first | rw [c60b0] | (simp only [i64_w, i32_w]; rw [c60b0]) | skip)
                    have H' := Aside0.mk H
                    clear H
                    go_wp2_with (first | ((with_reducible refine gate_callee (f := 14) rfl ?_); refine goesL_ (some 95) rfl rfl Try.func14 (by kernel_rfl) rfl #[.int .i64 a1, .int .i64 a2] rfl (by (try simp only [List.map_toArray, List.map_cons, List.map_nil]); first | done | rfl | (simp only [List.length_drop, List.length_take]; rfl)) ?_; (with_reducible refine (field_Add.calls kj20 a1 a2 t202 _ A55.out).mono ?_); rintro e w87 ⟨rfl, hb⟩; refine ⟨_, rfl, ?_⟩; have n0_ := Aside0.mk (below_step (by repeat (first | (with_reducible first | exact HB.out | apply below_alloc | apply pw_below_drewN | apply below_drew1) | exact HB.out)) hb); clear HB; have HB := n0_; clear n0_; (try clear hb); (try clear hb2); (try clear hk); (try clear hi)) | ((with_reducible refine gate_callee (f := 16) rfl ?_); refine goesL_ (some 96) rfl rfl Try.func16 (by kernel_rfl) rfl #[.int .i64 a0, .int .i64 t202] rfl (by (try simp only [List.map_toArray, List.map_cons, List.map_nil]); first | done | rfl | (simp only [List.length_drop, List.length_take]; rfl)) ?_; (with_reducible refine (field_Mul.calls a0 t202 t203 _ A56.out).mono ?_); rintro e w' ⟨rfl, ⟨nd, rfl⟩⟩; refine ⟨_, rfl, ?_⟩) | ((with_reducible refine gate_callee (f := 16) rfl ?_); refine goesL_ (some 99) rfl rfl Try.func16 (by kernel_rfl) rfl #[.int .i64 a0, .int .i64 a1] rfl (by (try simp only [List.map_toArray, List.map_cons, List.map_nil]); first | done | rfl | (simp only [List.length_drop, List.length_take]; rfl)) ?_; (with_reducible refine (field_Mul.calls a0 a1 t204 _ A57.out).mono ?_); rintro e w' ⟨rfl, ⟨nd, rfl⟩⟩; refine ⟨_, rfl, ?_⟩) | ((with_reducible refine gate_callee (f := 16) rfl ?_); refine goesL_ (some 102) rfl rfl Try.func16 (by kernel_rfl) rfl #[.int .i64 a0, .int .i64 a2] rfl (by (try simp only [List.map_toArray, List.map_cons, List.map_nil]); first | done | rfl | (simp only [List.length_drop, List.length_take]; rfl)) ?_; (with_reducible refine (field_Mul.calls a0 a2 t205 _ A58.out).mono ?_); rintro e w' ⟨rfl, ⟨nd, rfl⟩⟩; refine ⟨_, rfl, ?_⟩) | ((with_reducible refine gate_callee (f := 14) rfl ?_); refine goesL_ (some 103) rfl rfl Try.func14 (by kernel_rfl) rfl #[.int .i64 t204, .int .i64 t205] rfl (by (try simp only [List.map_toArray, List.map_cons, List.map_nil]); first | done | rfl | (simp only [List.length_drop, List.length_take]; rfl)) ?_; (with_reducible refine (field_Add.calls kj20 t204 t205 t206 _ A59.out).mono ?_); rintro e w88 ⟨rfl, hb⟩; refine ⟨_, rfl, ?_⟩; have n0_ := Aside0.mk (below_step (by repeat (first | (with_reducible first | exact HB.out | apply below_alloc | apply pw_below_drewN | apply below_drew1) | exact HB.out)) hb); clear HB; have HB := n0_; clear n0_; (try clear hb); (try clear hb2); (try clear hk); (try clear hi)))
                    go_meet
                    case rel => exact ⟨_, (true), (by first | rfl | (simp; done) | (simp [*]; done)), H', ⟨by have := HJ8.out; have := HJ20.out; first | omega | exact Nat.le_refl _⟩, ⟨by repeat (first | (with_reducible first | exact HB.out | apply below_alloc | apply pw_below_drewN | apply below_drew1) | exact HB.out)⟩⟩
                case rest =>
                  clear HC54
                  try clear c1
                  try clear c2
                  try clear p2
                  try clear c3
                  try clear c5
                  try clear c6
                  try clear p6
                  try clear c9
                  try clear c12
                  try clear c14
                  try clear c16
                  try clear c18
                  try clear c18b0
                  try clear c18b1
                  try clear c19
                  try clear c19b0
                  try clear c19b1
                  try clear c20
                  try clear c23
                  try clear c24
                  try clear c24b0
                  try clear c24b1
                  try clear c27
                  try clear c27b0
                  try clear c27b1
                  try clear c32
                  try clear c32b0
                  try clear c32b1
                  try clear c53
                  try clear c60
                  try clear c60b0
                  try clear c60b1
                  try clear c62
                  try clear c62b0
                  try clear c62b1
                  try clear c64
                  try clear c64b0
                  try clear c64b1
                  try clear p64
                  try clear c66
                  try clear c66b0
                  try clear c66b1
                  try clear c68
                  try clear c68b0
                  try clear c68b1
                  try clear p2
                  try clear p6
                  obtain ⟨kq, x136_53, rfl, HA, HJ53, HB⟩ := hcut
                  cases kq with
                  | zero => exact absurd HA.out (by simp [fastilaw09_FieldLaws.j2])
                  | succ kj53 =>
                    have H := HA.out
                    clear HA
                    simp only [fastilaw09_FieldLaws.j2] at H
                    by_cases c89 : x136_53 = true
                    · subst c89
                      have H1 : (some false) = some r := by rw [if_pos rfl] at H; exact H
                      clear H
                      have H := H1
                      clear H1
                      obtain rfl := Option.some.inj H
                      go_wp2
                      go_ret
                      exact ⟨by first | rfl | (simp [errW_none, errW_some] <;> rfl) | (simp [*, errW_none, errW_some] <;> rfl), by repeat (first | (with_reducible first | exact HB.out | apply below_alloc | apply pw_below_drewN | apply below_drew1) | exact HB.out)⟩
                    · replace c89 := Bool.eq_false_iff.mpr c89
                      subst c89
                      have H1 : ((field_Inverse.f a0).bind fun bt211 => (if t183 = 0 then (if bt211.2 = 90 then (some (bt211.1 == 0)) else (some false)) else (if bt211.2 = 0 then ((fastilaw09_in.f bt211.1).bind fun t213 => (if t213 = true then ((field_Mul.f a0 bt211.1).bind fun t214 => (some (t214 == 1))) else (some false))) else (some false)))) = some r := by rw [if_neg (show ¬ (false = true) by decide)] at H; exact H
                      clear H
                      have H := H1
                      clear H1
                      replace H := Option.bind_eq_some_iff.mp H
                      obtain ⟨⟨t211, t212⟩, A900, H⟩ := H
                      replace H : (if t183 = 0 then (if t212 = 90 then (some (t211 == 0)) else (some false)) else (if t212 = 0 then ((fastilaw09_in.f t211).bind fun t213 => (if t213 = true then ((field_Mul.f a0 t211).bind fun t214 => (some (t214 == 1))) else (some false))) else (some false))) = some r := H
                      have A90 := Aside0.mk A900
                      clear A900
                      by_cases c91 : t183 = 0
                      · rw [if_pos c91] at H
                        have c91b0 : (t183 == 0) = true := beq_iff_eq.mpr c91
                        have c91b1 : (t183 != 0) = false := bne_eq_false_iff_eq.mpr c91
                        clear c91
                        by_cases c92 : t212 = 90
                        · rw [if_pos c92] at H
                          have c92b0 : (t212 == 90) = true := beq_iff_eq.mpr c92
                          have c92b1 : (t212 != 90) = false := bne_eq_false_iff_eq.mpr c92
                          clear c92
                          obtain rfl := Option.some.inj H
                          go_wp2_with (first | ((with_reducible refine gate_callee (f := 10) rfl ?_); refine goesL_ (some 139) rfl rfl Try.func10 (by kernel_rfl) rfl #[.int .i64 a0] rfl (by (try simp only [List.map_toArray, List.map_cons, List.map_nil]); first | done | rfl | (simp only [List.length_drop, List.length_take]; rfl)) ?_; (with_reducible refine (field_Inverse.calls a0 t211 t212 _ A90.out).mono ?_); rintro e w' ⟨rfl, ⟨nd, rfl⟩⟩; refine ⟨_, rfl, ?_⟩))
                          go_ret
                          exact ⟨by first | rfl | (simp [errW_none, errW_some] <;> rfl) | (simp [*, errW_none, errW_some] <;> rfl), by repeat (first | (with_reducible first | exact HB.out | apply below_alloc | apply pw_below_drewN | apply below_drew1) | exact HB.out)⟩
                        · rw [if_neg c92] at H
                          have c92b0 : (t212 == 90) = false := beq_eq_false_iff_ne.mpr c92
                          have c92b1 : (t212 != 90) = true := bne_iff_ne.mpr c92
                          obtain rfl := Option.some.inj H
                          go_wp2_with (first | ((with_reducible refine gate_callee (f := 10) rfl ?_); refine goesL_ (some 139) rfl rfl Try.func10 (by kernel_rfl) rfl #[.int .i64 a0] rfl (by (try simp only [List.map_toArray, List.map_cons, List.map_nil]); first | done | rfl | (simp only [List.length_drop, List.length_take]; rfl)) ?_; (with_reducible refine (field_Inverse.calls a0 t211 t212 _ A90.out).mono ?_); rintro e w' ⟨rfl, ⟨nd, rfl⟩⟩; refine ⟨_, rfl, ?_⟩))
                          go_ret
                          exact ⟨by first | rfl | (simp [errW_none, errW_some] <;> rfl) | (simp [*, errW_none, errW_some] <;> rfl), by repeat (first | (with_reducible first | exact HB.out | apply below_alloc | apply pw_below_drewN | apply below_drew1) | exact HB.out)⟩
                      · rw [if_neg c91] at H
                        have c91b0 : (t183 == 0) = false := beq_eq_false_iff_ne.mpr c91
                        have c91b1 : (t183 != 0) = true := bne_iff_ne.mpr c91
                        by_cases c93 : t212 = 0
                        · rw [if_pos c93] at H
                          have c93b0 : (t212 == 0) = true := beq_iff_eq.mpr c93
                          have c93b1 : (t212 != 0) = false := bne_eq_false_iff_eq.mpr c93
                          clear c93
                          replace H := Option.bind_eq_some_iff.mp H
                          obtain ⟨t213, A940, H⟩ := H
                          replace H : (if t213 = true then ((field_Mul.f a0 t211).bind fun t214 => (some (t214 == 1))) else (some false)) = some r := H
                          have A94 := Aside0.mk A940
                          clear A940
                          by_cases c95 : t213 = true
                          · subst c95
                            have H1 : ((field_Mul.f a0 t211).bind fun t214 => (some (t214 == 1))) = some r := by rw [if_pos rfl] at H; exact H
                            clear H
                            have H := H1
                            clear H1
                            replace H := Option.bind_eq_some_iff.mp H
                            obtain ⟨t214, A960, H⟩ := H
                            replace H : (some (t214 == 1)) = some r := H
                            have A96 := Aside0.mk A960
                            clear A960
                            obtain rfl := Option.some.inj H
                            go_wp2_with (first | ((with_reducible refine gate_callee (f := 10) rfl ?_); refine goesL_ (some 139) rfl rfl Try.func10 (by kernel_rfl) rfl #[.int .i64 a0] rfl (by (try simp only [List.map_toArray, List.map_cons, List.map_nil]); first | done | rfl | (simp only [List.length_drop, List.length_take]; rfl)) ?_; (with_reducible refine (field_Inverse.calls a0 t211 t212 _ A90.out).mono ?_); rintro e w' ⟨rfl, ⟨nd, rfl⟩⟩; refine ⟨_, rfl, ?_⟩) | (go_at_call 23; (with_reducible refine (fastilaw09_in.calls t211 true _ A94.out).mono ?_); rintro e w' ⟨rfl, ⟨nd, rfl⟩⟩) | (go_at_call 16; (with_reducible refine (field_Mul.calls a0 t211 t214 _ A96.out).mono ?_); rintro e w' ⟨rfl, ⟨nd, rfl⟩⟩))
                            go_ret
                            exact ⟨by first | rfl | (simp [errW_none, errW_some] <;> rfl) | (simp [*, errW_none, errW_some] <;> rfl), by repeat (first | (with_reducible first | exact HB.out | apply below_alloc | apply pw_below_drewN | apply below_drew1) | exact HB.out)⟩
                          · replace c95 := Bool.eq_false_iff.mpr c95
                            subst c95
                            have H1 : (some false) = some r := by rw [if_neg (show ¬ (false = true) by decide)] at H; exact H
                            clear H
                            have H := H1
                            clear H1
                            obtain rfl := Option.some.inj H
                            go_wp2_with (first | ((with_reducible refine gate_callee (f := 10) rfl ?_); refine goesL_ (some 139) rfl rfl Try.func10 (by kernel_rfl) rfl #[.int .i64 a0] rfl (by (try simp only [List.map_toArray, List.map_cons, List.map_nil]); first | done | rfl | (simp only [List.length_drop, List.length_take]; rfl)) ?_; (with_reducible refine (field_Inverse.calls a0 t211 t212 _ A90.out).mono ?_); rintro e w' ⟨rfl, ⟨nd, rfl⟩⟩; refine ⟨_, rfl, ?_⟩) | (go_at_call 23; (with_reducible refine (fastilaw09_in.calls t211 false _ A94.out).mono ?_); rintro e w' ⟨rfl, ⟨nd, rfl⟩⟩))
                            go_ret
                            exact ⟨by first | rfl | (simp [errW_none, errW_some] <;> rfl) | (simp [*, errW_none, errW_some] <;> rfl), by repeat (first | (with_reducible first | exact HB.out | apply below_alloc | apply pw_below_drewN | apply below_drew1) | exact HB.out)⟩
                        · rw [if_neg c93] at H
                          have c93b0 : (t212 == 0) = false := beq_eq_false_iff_ne.mpr c93
                          have c93b1 : (t212 != 0) = true := bne_iff_ne.mpr c93
                          obtain rfl := Option.some.inj H
                          go_wp2_with (first | ((with_reducible refine gate_callee (f := 10) rfl ?_); refine goesL_ (some 139) rfl rfl Try.func10 (by kernel_rfl) rfl #[.int .i64 a0] rfl (by (try simp only [List.map_toArray, List.map_cons, List.map_nil]); first | done | rfl | (simp only [List.length_drop, List.length_take]; rfl)) ?_; (with_reducible refine (field_Inverse.calls a0 t211 t212 _ A90.out).mono ?_); rintro e w' ⟨rfl, ⟨nd, rfl⟩⟩; refine ⟨_, rfl, ?_⟩))
                          go_ret
                          exact ⟨by first | rfl | (simp [errW_none, errW_some] <;> rfl) | (simp [*, errW_none, errW_some] <;> rfl), by repeat (first | (with_reducible first | exact HB.out | apply below_alloc | apply pw_below_drewN | apply below_drew1) | exact HB.out)⟩
  · replace c5 := Bool.eq_false_iff.mpr c5
    subst c5
    have H1 : (some false) = some r := by rw [if_neg (show ¬ (false = true) by decide)] at H; exact H
    clear H
    have H := H1
    clear H1
    obtain rfl := Option.some.inj H
    go_enter Try.func5, Try.ntmps5
    go_wp2_with (first | ((with_reducible refine gate_callee (f := 9) rfl ?_); refine goesL_ (some 12) rfl rfl Try.func9 (by kernel_rfl) rfl #[] rfl (by (try simp only [List.map_toArray, List.map_cons, List.map_nil]); first | done | rfl | (simp only [List.length_drop, List.length_take]; rfl)) ?_; (with_reducible refine (fastilaw09_sane.calls k  false _ A4.out).mono ?_); rintro e w97 ⟨rfl, hb⟩; refine ⟨_, rfl, ?_⟩; have n0_ := Aside0.mk (below_step (by repeat (first | (with_reducible first | exact HB.out | apply below_alloc | apply pw_below_drewN | apply below_drew1) | exact HB.out)) hb); clear HB; have HB := n0_; clear n0_; (try clear hb); (try clear hb2); (try clear hk); (try clear hi)))
    go_ret
    exact ⟨by first | rfl | (simp [errW_none, errW_some] <;> rfl) | (simp [*, errW_none, errW_some] <;> rfl), by repeat (first | (with_reducible first | exact HB.out | apply below_alloc | apply pw_below_drewN | apply below_drew1) | exact HB.out)⟩

/-- THE ONE PURE STATEMENT of fastilaw09_FieldLaws: yours. -/
def fastilaw09_FieldLaws.Pure : Prop := ∀ (a0 : Int) (a1 : Int) (a2 : Int), (Lit.int .i64 a0).wf = true → (Lit.int .i64 a1).wf = true → (Lit.int .i64 a2).wf = true → ∃ k, fastilaw09_FieldLaws.f k a0 a1 a2 = some true
theorem fastilaw09_FieldLaws.walk (P : fastilaw09_FieldLaws.Pure) (a0 : Int) (a1 : Int) (a2 : Int) (w : World) (w0 : (Lit.int .i64 a0).wf = true) (w1 : (Lit.int .i64 a1).wf = true) (w2 : (Lit.int .i64 a2).wf = true) :
    Calls Try.prog 5 #[.int .i64 a0, .int .i64 a1, .int .i64 a2] w fun e w' => e = .returned (.bool true) ∧ Below w.heap.size w w' := by
  obtain ⟨k, h⟩ := P a0 a1 a2 w0 w1 w2
  refine (fastilaw09_FieldLaws.calls k a0 a1 a2 true w h).mono ?_
  rintro e w' ⟨rfl, hd⟩
  exact ⟨rfl, hd⟩

end Go.Proofs.Ytbbffpgnjdejiaa.P
