import Derived.Test.YtecgklfcblpkdaaP0
import Derived.Test.YtecgklfcblpkdaaWEqStruct
import Derived.Test.YtecgklfcblpkdaaXTy
import Derived.Test.YtecgklfcblpkdaaXStr
import Derived.Test.YtecgklfcblpkdaaXB
import Derived.Shelf.SlSortCmp.NoneTotal
import Derived.Test.YtecgklfcblpkdaaSort
/- robin's small functions: of, Rounds, pair; and meetings compared. -/
namespace Go.Proofs.Ytecgklfcblpkdaa.RB
open Go.RowKit Go.Proofs.Ytecgklfcblpkdaa.P Go.Proofs.YtecgklfcblpkdaaW.PrintWords Go.Proofs.YtecgklfcblpkdaaW.PrintLast Go.Proofs.YtecgklfcblpkdaaW.PrintMore
open XW RegInv
attribute [local irreducible] Addr.add
set_option linter.unusedSimpArgs false
set_option linter.unusedVariables false
theorem eqA44 (d : Nat) (w : World) (x0 y0 : Int) (x1 y1 : Int) (x2 y2 : Int) :
  (Op.equalIn (d + 2) 44 (.agg #[.int .i64 x0, .int .i64 x1, .int .i64 x2]) (.agg #[.int .i64 y0, .int .i64 y1, .int .i64 y2])).run Try.prog w = .ok (x0 == y0 && (x1 == y1 && (x2 == y2))) w := by
 refine eqA_of Try.underlying44 (by kernel_rfl) ?_
 refine eqf_cons (by rfl) (by go_simp; rfl) (by go_simp; rfl) (by go_simp) ?_
 refine eqf_cons (by rfl) (by go_simp; rfl) (by go_simp; rfl) (by go_simp) ?_
 exact eqf_last (by rfl) (by go_simp; rfl) (by go_simp; rfl) (by go_simp)
instance tb70 : TB Try.prog 70 := ⟨[(0, 1), (1, 1)], by
 obtain ⟨i, h1, h2, _⟩ := inf3
 exact ⟨_, Try.underlying70, fun W => by simp [Go.sizeOf, typeInfo, program, h1, h2, Sem.run_bind, Sem.run, Result.andThen]⟩⟩
theorem rv_cellB {n : Nat} {ρ : Nat → Value} {base : World} {R : List Res} {t ty : TypeId} {b : Nat} {cs : Array Value} {t1 : TypeId} {fz : Nat × Nat} [T : TAgg Try.prog ty] (h : t < n) (hx : ρ t = .pointer (some ⟨b, 0, none⟩)) (i : Nat) (hi : R[i]? = some (.obj b (.cells cs t1 fz))) (hs : cs.size = T.size) : RV Try.prog n ρ base R (.cell t ty) (.agg cs) := by
 obtain ⟨d, i', hu, hd, hi', hsz⟩ := T.h
 refine ⟨h, _, hx, fun w hw => ?_⟩
 have := loads_agg (P := Try.prog) (w := w) (a := ⟨b, 0, none⟩) (cs := cs.toList) hu hd hi' (by rw [Array.length_toList]; omega) (fun j u hj => by
  rw [XW.add_plain, Nat.zero_add]
  exact cell_of (hw.at_ i hi) (by simpa using hj))
 simpa using this
def robin_of.f (a0 : Int) (a1 : Int) : Option (Int × Int × Bool) := if a0 ≥ 2 then (if a0 ≤ 20 then (if a1 ≥ 1 then (some (a0, wrap64 ((wrap64 (a0 - 1)) + (Int.tmod a0 2)), decide (a1 ≤ 3))) else (some (a0, wrap64 ((wrap64 (a0 - 1)) + (Int.tmod a0 2)), false))) else (some (a0, wrap64 ((wrap64 (a0 - 1)) + (Int.tmod a0 2)), false))) else (some (a0, wrap64 ((wrap64 (a0 - 1)) + (Int.tmod a0 2)), false))
theorem wrap_eq (x : Int) : IntKind.i64.wrap x = wrap64 x := by
 unfold wrap64
 simp [IntKind.wrap, IntKind.bits, IntKind.signed]
 split <;> omega
set_option maxHeartbeats 4000000 in
theorem robin_of.rets (a0 a1 : Int) (w : World) : Rets Try.prog 37 #[.int .i64 a0, .int .i64 a1] w fun u w' => u = .tuple #[.agg #[.int .i64 a0, .int .i64 (wrap64 (wrap64 (a0 - 1) + Int.tmod a0 2))], .bool (decide (2 ≤ a0 ∧ a0 ≤ 20 ∧ 1 ≤ a1 ∧ a1 ≤ 3))] ∧ Below w.heap.size w w' := by
 have hF := wide_wide
 refine rets_at (n := 27) Try.func37 rfl Try.ntmps37 (by simp) ?_
 ((repeat (first | ((with_reducible refine is_AL ?_); (first | ((with_reducible refine is_move ?_); (refine At_plain hF (by (exact (rfl : _ = some (Value.int _ _)))) ?_)) | ((with_reducible refine is_bin ?_); (refine At_plain hF (by (exact (rfl : _ = some (Value.int _ _)))) ?_)) | ((with_reducible refine is_assign ?_); (refine At_plain hF (by (exact (rfl : _ = some (Value.bool _)))) ?_)) | with_reducible refine At_nil ?_)) | ((with_reducible refine is_At ?_); (first | with_reducible refine At_seq ?_; intro K hK | with_reducible refine At_region ?_ | with_reducible refine At_then_n ?_ | with_reducible refine At_go (by assumption) ?_)))); ((with_reducible refine is_alloc ?_); (refine At_alloc hF (by (exact (rfl : _ = List.toArray (_ :: _)))) ?_; intro b4)); (repeat (first | ((with_reducible refine is_AL ?_); (first | ((with_reducible refine is_move ?_); (refine At_plain hF (by (exact (rfl : _ = some (Value.int _ _)))) ?_)) | ((with_reducible refine is_bin ?_); (refine At_plain hF (by (exact (rfl : _ = some (Value.int _ _)))) ?_)) | ((with_reducible refine is_assign ?_); (refine At_plain hF (by (exact (rfl : _ = some (Value.bool _)))) ?_)) | with_reducible refine At_nil ?_)) | ((with_reducible refine is_At ?_); (first | with_reducible refine At_seq ?_; intro K hK | with_reducible refine At_region ?_ | with_reducible refine At_then_n ?_ | with_reducible refine At_go (by assumption) ?_)))))
 refine At_buildS hF (cs := #[.int .i64 a0, .int .i64 (IntKind.i64.wrap (IntKind.i64.wrap (a0 - 1) + Int.tmod a0 2))]) (by exact rfl) (by exact rfl) ?_
 rw [wrap_eq, wrap_eq]
 (repeat ((with_reducible refine is_AL ?_); (first | ((with_reducible refine is_move ?_); (refine At_plain hF (by (first | exact (rfl : _ = some (Value.int _ _)) | exact (rfl : _ = some (Value.bool _)))) ?_)) | ((with_reducible refine is_bin ?_); (refine At_plain hF (by (exact (rfl : _ = some (Value.bool _)))) ?_)))))
 by_cases h1 : a0 ≥ 2
 ·rw [decide_eq_true h1]
  (repeat ((with_reducible refine is_AL ?_); (first | ((with_reducible refine is_guarded ?_); (refine At_guard_t rfl (by decide) rfl ?_)) | ((with_reducible refine is_move ?_); (refine At_plain hF (by (first | exact (rfl : _ = some (Value.int _ _)) | exact (rfl : _ = some (Value.bool _)))) ?_)) | ((with_reducible refine is_bin ?_); (refine At_plain hF (by (exact (rfl : _ = some (Value.bool _)))) ?_)) | ((with_reducible refine is_pick ?_); (refine At_plain hF (by (exact (rfl : _ = some (Value.bool _)))) ?_)))))
  by_cases h2 : a0 ≤ 20
  ·rw [decide_eq_true h2]
   (repeat ((with_reducible refine is_AL ?_); (first | ((with_reducible refine is_guarded ?_); (refine At_guard_t rfl (by decide) rfl ?_)) | ((with_reducible refine is_move ?_); (refine At_plain hF (by (first | exact (rfl : _ = some (Value.int _ _)) | exact (rfl : _ = some (Value.bool _)))) ?_)) | ((with_reducible refine is_bin ?_); (refine At_plain hF (by (exact (rfl : _ = some (Value.bool _)))) ?_)) | ((with_reducible refine is_pick ?_); (refine At_plain hF (by (exact (rfl : _ = some (Value.bool _)))) ?_)))))
   by_cases h3 : a1 ≥ 1
   ·rw [decide_eq_true h3]
    (repeat (first | ((with_reducible refine is_AL ?_); (first | ((with_reducible refine is_guarded ?_); (refine At_guard_t rfl (by decide) rfl ?_)) | ((with_reducible refine is_move ?_); (refine At_plain hF (by (exact (rfl : _ = some (Value.int _ _)))) ?_)) | ((with_reducible refine is_bin ?_); (refine At_plain hF (by (exact (rfl : _ = some (Value.bool _)))) ?_)) | ((with_reducible refine is_assign ?_); (refine At_plain hF (by (exact (rfl : _ = some (Value.bool _)))) ?_)) | ((with_reducible refine is_pick ?_); (refine At_plain hF (by (exact (rfl : _ = some (Value.bool _)))) ?_)) | ((with_reducible refine is_store ?_); (refine At_storeB_0 hF rfl rfl rfl rfl (by simp [Value.one1, epair]) ?_)) | with_reducible refine At_nil ?_)) | ((with_reducible refine is_At ?_); (first | with_reducible refine At_ret ?_ | with_reducible refine At_then_n ?_ | with_reducible refine At_go (by assumption) ?_))))
    have e : decide (a1 ≤ 3) = decide (2 ≤ a0 ∧ a0 ≤ 20 ∧ 1 ≤ a1 ∧ a1 ≤ 3) := by rw [decide_eq_decide]; omega
    exact At_ret2 rfl (rv_cellB (by decide) (by exact rfl) 0 rfl rfl) (rv_tmp (by decide)) (fun w' hw' => ⟨_, rfl, congrArg (fun b => Value.tuple #[Value.agg #[.int .i64 a0, .int .i64 (wrap64 (wrap64 (a0 - 1) + Int.tmod a0 2))], Value.bool b]) e, hw'.below⟩)
   ·rw [decide_eq_false h3]
    have e : false = decide (2 ≤ a0 ∧ a0 ≤ 20 ∧ 1 ≤ a1 ∧ a1 ≤ 3) := (decide_eq_false (by omega)).symm
    (repeat (first | ((with_reducible refine is_AL ?_); (first | ((with_reducible refine is_guarded ?_); (refine At_guard_f hF rfl (by decide) rfl rfl ?_)) | ((with_reducible refine is_assign ?_); (refine At_plain hF (by (exact (rfl : _ = some (Value.bool _)))) ?_)) | ((with_reducible refine is_pick ?_); (refine At_plain hF (by (exact (rfl : _ = some (Value.bool _)))) ?_)) | ((with_reducible refine is_store ?_); (refine At_storeB_0 hF rfl rfl rfl rfl (by simp [Value.one1, epair]) ?_)) | with_reducible refine At_nil ?_)) | ((with_reducible refine is_At ?_); (first | with_reducible refine At_ret ?_ | with_reducible refine At_then_n ?_ | with_reducible refine At_go (by assumption) ?_))))
    exact At_ret2 rfl (rv_cellB (by decide) (by exact rfl) 0 rfl rfl) (rv_tmp (by decide)) (fun w' hw' => ⟨_, rfl, congrArg (fun b => Value.tuple #[Value.agg #[.int .i64 a0, .int .i64 (wrap64 (wrap64 (a0 - 1) + Int.tmod a0 2))], Value.bool b]) e, hw'.below⟩)
  ·rw [decide_eq_false h2]
   have e : false = decide (2 ≤ a0 ∧ a0 ≤ 20 ∧ 1 ≤ a1 ∧ a1 ≤ 3) := (decide_eq_false (by omega)).symm
   (repeat (first | ((with_reducible refine is_AL ?_); (first | ((with_reducible refine is_guarded ?_); (refine At_guard_f hF rfl (by decide) rfl rfl ?_)) | ((with_reducible refine is_move ?_); (refine At_plain hF (by (exact (rfl : _ = some (Value.bool _)))) ?_)) | ((with_reducible refine is_assign ?_); (refine At_plain hF (by (exact (rfl : _ = some (Value.bool _)))) ?_)) | ((with_reducible refine is_pick ?_); (refine At_plain hF (by (exact (rfl : _ = some (Value.bool _)))) ?_)) | ((with_reducible refine is_store ?_); (refine At_storeB_0 hF rfl rfl rfl rfl (by simp [Value.one1, epair]) ?_)) | with_reducible refine At_nil ?_)) | ((with_reducible refine is_At ?_); (first | with_reducible refine At_ret ?_ | with_reducible refine At_then_n ?_ | with_reducible refine At_go (by assumption) ?_))))
   exact At_ret2 rfl (rv_cellB (by decide) (by exact rfl) 0 rfl rfl) (rv_tmp (by decide)) (fun w' hw' => ⟨_, rfl, congrArg (fun b => Value.tuple #[Value.agg #[.int .i64 a0, .int .i64 (wrap64 (wrap64 (a0 - 1) + Int.tmod a0 2))], Value.bool b]) e, hw'.below⟩)
 ·rw [decide_eq_false h1]
  have e : false = decide (2 ≤ a0 ∧ a0 ≤ 20 ∧ 1 ≤ a1 ∧ a1 ≤ 3) := (decide_eq_false (by omega)).symm
  (repeat (first | ((with_reducible refine is_AL ?_); (first | ((with_reducible refine is_guarded ?_); (refine At_guard_f hF rfl (by decide) rfl rfl ?_)) | ((with_reducible refine is_move ?_); (refine At_plain hF (by (exact (rfl : _ = some (Value.bool _)))) ?_)) | ((with_reducible refine is_assign ?_); (refine At_plain hF (by (exact (rfl : _ = some (Value.bool _)))) ?_)) | ((with_reducible refine is_pick ?_); (refine At_plain hF (by (exact (rfl : _ = some (Value.bool _)))) ?_)) | ((with_reducible refine is_store ?_); (refine At_storeB_0 hF rfl rfl rfl rfl (by simp [Value.one1, epair]) ?_)) | with_reducible refine At_nil ?_)) | ((with_reducible refine is_At ?_); (first | with_reducible refine At_ret ?_ | with_reducible refine At_then_n ?_ | with_reducible refine At_go (by assumption) ?_))))
  exact At_ret2 rfl (rv_cellB (by decide) (by exact rfl) 0 rfl rfl) (rv_tmp (by decide)) (fun w' hw' => ⟨_, rfl, congrArg (fun b => Value.tuple #[Value.agg #[.int .i64 a0, .int .i64 (wrap64 (wrap64 (a0 - 1) + Int.tmod a0 2))], Value.bool b]) e, hw'.below⟩)
theorem robin_of.val (a0 a1 : Int) : robin_of.f a0 a1 = some (a0, wrap64 (wrap64 (a0 - 1) + Int.tmod a0 2), decide (2 ≤ a0 ∧ a0 ≤ 20 ∧ 1 ≤ a1 ∧ a1 ≤ 3)) := by
 unfold robin_of.f
 by_cases h1 : a0 ≥ 2
 ·by_cases h2 : a0 ≤ 20
  ·by_cases h3 : a1 ≥ 1
   ·rw [if_pos h1, if_pos h2, if_pos h3]; congr 3; rw [decide_eq_decide]; omega
   ·rw [if_pos h1, if_pos h2, if_neg h3]; congr 3; symm; rw [decide_eq_false_iff_not]; omega
  ·rw [if_pos h1, if_neg h2]; congr 3; symm; rw [decide_eq_false_iff_not]; omega
 ·rw [if_neg h1]; congr 3; symm; rw [decide_eq_false_iff_not]; omega
theorem robin_of.calls (a0 : Int) (a1 : Int) (r1 : Int) (r2 : Int) (r3 : Bool) (w : World) (h : robin_of.f a0 a1 = some (r1, r2, r3)) :
  Calls Try.prog 37 #[.int .i64 a0, .int .i64 a1] w fun e w' => e = .returned (.tuple #[.agg #[.int .i64 r1, .int .i64 r2], .bool r3]) ∧ Below w.heap.size w w' := by
 rw [robin_of.val] at h
 cases h
 exact (robin_of.rets a0 a1 w).mono (by rintro e w' ⟨v, rfl, rfl, hb⟩; exact ⟨rfl, hb⟩)
theorem Eof : Enters Try.prog 37 := enters Try.func37 (by kernel_rfl) rfl
def robin_Rounds.f (a0 : Int) (a1 : Int) : Option (Int × Int) := ((robin_of.f a0 a1).bind fun bt102 => (if bt102.2.2 = true then (if a1 = 1 then (some (bt102.2.1, 0)) else (some (wrap64 (2 * bt102.2.1), 0))) else (some (0, 1))))
set_option maxHeartbeats 4000000 in
theorem robin_Rounds.calls (a0 : Int) (a1 : Int) (r1 : Int) (r2 : Int) (w : World) (h : robin_Rounds.f a0 a1 = some (r1, r2)) :
  Calls Try.prog 33 #[.int .i64 a0, .int .i64 a1] w fun e w' => e = .returned (.tuple #[.int .i64 r1, .int .i64 r2]) ∧ Below w.heap.size w w' := by
 have hF := wide_wide
 suffices hs : Rets Try.prog 33 #[.int .i64 a0, .int .i64 a1] w fun u w' => u = .tuple #[.int .i64 r1, .int .i64 r2] ∧ Below w.heap.size w w' from hs.mono (by rintro e w' ⟨v, rfl, rfl, hb⟩; exact ⟨rfl, hb⟩)
 unfold robin_Rounds.f at h
 rw [robin_of.val] at h
 simp only [Option.bind_some] at h
 have hof := robin_of.rets a0 a1
 generalize decide (2 ≤ a0 ∧ a0 ≤ 20 ∧ 1 ≤ a1 ∧ a1 ≤ 3) = ok at h hof
 generalize wrap64 (wrap64 (a0 - 1) + Int.tmod a0 2) = rr at h hof
 refine rets_at (n := 25) Try.func33 rfl Try.ntmps33 (by simp) ?_
 (repeat (first | ((with_reducible refine is_AL ?_); (first | ((with_reducible refine is_move ?_); (refine At_plain hF (by (exact (rfl : _ = some (Value.int _ _)))) ?_)) | ((with_reducible refine is_assign ?_); (refine At_plain hF (by (exact (rfl : _ = some (Value.int _ _)))) ?_)) | with_reducible refine At_nil ?_)) | ((with_reducible refine is_At ?_); (first | with_reducible refine At_seq ?_; intro K hK | with_reducible refine At_region ?_ | with_reducible refine At_then_n ?_ | with_reducible refine At_go (by assumption) ?_))))
 refine At_callB hF Eof rfl (u := .tuple #[.agg #[.int .i64 a0, .int .i64 rr], .bool ok]) (arg2 (by (first | exact (rfl : _ = (Value.int _ _)) | exact (rfl : _ = (Value.bool _)) | exact (rfl : _ = (Value.pointer _)) | exact (rfl : _ = (Value.slice _ _ _)) | exact (rfl : _ = (Value.map _)) | exact (rfl : _ = (Value.func _ _ _)) | exact (rfl : _ = (Value.tuple _)) | exact (rfl : _ = (Value.agg _)) | exact (rfl : _ = (Value.string _)) | exact (rfl : _ = (Value.nilFunc)) | exact (rfl : _ = (Value.nilIface)))) (by (first | exact (rfl : _ = (Value.int _ _)) | exact (rfl : _ = (Value.bool _)) | exact (rfl : _ = (Value.pointer _)) | exact (rfl : _ = (Value.slice _ _ _)) | exact (rfl : _ = (Value.map _)) | exact (rfl : _ = (Value.func _ _ _)) | exact (rfl : _ = (Value.tuple _)) | exact (rfl : _ = (Value.agg _)) | exact (rfl : _ = (Value.string _)) | exact (rfl : _ = (Value.nilFunc)) | exact (rfl : _ = (Value.nilIface))))) (fun w' hw' => hof w') ?_
 ((repeat (first | ((with_reducible refine is_AL ?_); (first | ((with_reducible refine is_move ?_); (refine At_plain hF (by (first | exact (rfl : _ = some (Value.bool _)) | exact (rfl : _ = some (Value.tuple _)))) ?_)) | ((with_reducible refine is_assign ?_); (refine At_plain hF (by (exact (rfl : _ = some (Value.bool _)))) ?_)) | ((with_reducible refine is_extract ?_); (refine At_plain hF (by (first | exact (rfl : _ = some (Value.bool _)) | exact (rfl : _ = some (Value.agg _)))) ?_)) | ((with_reducible refine is_un ?_); (refine At_plain hF (by (exact (rfl : _ = some (Value.bool _)))) ?_)) | ((with_reducible refine is_store ?_); (refine At_storeB_0 hF rfl rfl rfl rfl (by simp [Value.one1, epair]) ?_)) | with_reducible refine At_nil ?_)) | ((with_reducible refine is_At ?_); (first | with_reducible refine At_seq ?_; intro K hK | with_reducible refine At_block ?_ | with_reducible refine At_region ?_ | with_reducible refine At_then_n ?_ | with_reducible refine At_go (by assumption) ?_)))); ((with_reducible refine is_alloc ?_); (refine At_alloc hF (by (exact (rfl : _ = List.toArray (_ :: _)))) ?_; intro b6)); (repeat (first | ((with_reducible refine is_AL ?_); (first | ((with_reducible refine is_move ?_); (refine At_plain hF (by (first | exact (rfl : _ = some (Value.bool _)) | exact (rfl : _ = some (Value.tuple _)))) ?_)) | ((with_reducible refine is_assign ?_); (refine At_plain hF (by (exact (rfl : _ = some (Value.bool _)))) ?_)) | ((with_reducible refine is_extract ?_); (refine At_plain hF (by (first | exact (rfl : _ = some (Value.bool _)) | exact (rfl : _ = some (Value.agg _)))) ?_)) | ((with_reducible refine is_un ?_); (refine At_plain hF (by (exact (rfl : _ = some (Value.bool _)))) ?_)) | ((with_reducible refine is_store ?_); (refine At_storeB_0 hF rfl rfl rfl rfl (by simp [Value.one1, epair]) ?_)) | with_reducible refine At_nil ?_)) | ((with_reducible refine is_At ?_); (first | with_reducible refine At_seq ?_; intro K hK | with_reducible refine At_block ?_ | with_reducible refine At_region ?_ | with_reducible refine At_then_n ?_ | with_reducible refine At_go (by assumption) ?_)))))
 cases ok with
 | false =>
  simp only [Bool.false_eq_true, if_false, Option.some.injEq, Prod.mk.injEq] at h
  obtain ⟨rfl, rfl⟩ := h
  (repeat (first | ((with_reducible refine is_AL ?_); (first | ((with_reducible refine is_assign ?_); (refine At_plain hF (by (exact (rfl : _ = some (Value.int _ _)))) ?_)) | with_reducible refine At_nil ?_)) | ((with_reducible refine is_At ?_); (first | with_reducible refine At_seq ?_; intro K hK | with_reducible refine At_region ?_ | with_reducible refine At_ret ?_ | with_reducible refine At_then_n ?_ | with_reducible refine At_then_r ?_ | with_reducible refine At_inb_r ?_ | with_reducible refine At_go (by assumption) ?_ | ((with_reducible refine is_cond ?_); (refine At_cond_t rfl ?_))))))
  exact At_ret2 rfl (rv_tmp (by decide)) (rv_tmp (by decide)) (fun w' hw' => ⟨_, rfl, rfl, hw'.below⟩)
 | true =>
  simp only [if_true] at h
  by_cases h1 : a1 = 1
  ·rw [if_pos h1] at h
   simp only [Option.some.injEq, Prod.mk.injEq] at h
   obtain ⟨rfl, rfl⟩ := h
   (repeat (first | ((with_reducible refine is_AL ?_); (first | ((with_reducible refine is_move ?_); (refine At_plain hF (by (exact (rfl : _ = some (Value.int _ _)))) ?_)) | ((with_reducible refine is_bin ?_); (refine At_plain hF (by (exact (rfl : _ = some (Value.bool _)))) ?_)) | ((with_reducible refine is_assign ?_); (refine At_plain hF (by (exact (rfl : _ = some (Value.bool _)))) ?_)) | with_reducible refine At_nil ?_)) | ((with_reducible refine is_At ?_); (first | with_reducible refine At_seq ?_; intro K hK | with_reducible refine At_region ?_ | with_reducible refine At_then_n ?_ | with_reducible refine At_go (by assumption) ?_ | ((with_reducible refine is_cond ?_); (refine At_cond_f rfl ?_))))))
   rw [show (a1 == 1) = true by simp [h1]]
   (repeat (first | ((with_reducible refine is_AL ?_); (first | ((with_reducible refine is_assign ?_); (refine At_plain hF (by (exact (rfl : _ = some (Value.int _ _)))) ?_)) | ((with_reducible refine is_field ?_); (refine At_field hF rfl ?_)) | ((with_reducible refine is_load ?_); (refine At_load hF 0 (by exact rfl) rfl (by (exact (rfl : _ = some (Value.int _ _)))) ?_)) | with_reducible refine At_nil ?_)) | ((with_reducible refine is_At ?_); (first | with_reducible refine At_seq ?_; intro K hK | with_reducible refine At_region ?_ | with_reducible refine At_ret ?_ | with_reducible refine At_then_n ?_ | with_reducible refine At_then_r ?_ | with_reducible refine At_inb_r ?_ | with_reducible refine At_go (by assumption) ?_ | ((with_reducible refine is_cond ?_); (refine At_cond_t rfl ?_))))))
   exact At_ret2 rfl (rv_tmp (by decide)) (rv_tmp (by decide)) (fun w' hw' => ⟨_, rfl, rfl, hw'.below⟩)
  ·rw [if_neg h1] at h
   simp only [Option.some.injEq, Prod.mk.injEq] at h
   obtain ⟨rfl, rfl⟩ := h
   (repeat (first | ((with_reducible refine is_AL ?_); (first | ((with_reducible refine is_move ?_); (refine At_plain hF (by (exact (rfl : _ = some (Value.int _ _)))) ?_)) | ((with_reducible refine is_bin ?_); (refine At_plain hF (by (exact (rfl : _ = some (Value.bool _)))) ?_)) | ((with_reducible refine is_assign ?_); (refine At_plain hF (by (exact (rfl : _ = some (Value.bool _)))) ?_)) | with_reducible refine At_nil ?_)) | ((with_reducible refine is_At ?_); (first | with_reducible refine At_seq ?_; intro K hK | with_reducible refine At_region ?_ | with_reducible refine At_then_n ?_ | with_reducible refine At_go (by assumption) ?_ | ((with_reducible refine is_cond ?_); (refine At_cond_f rfl ?_))))))
   rw [show (a1 == 1) = false by simp [h1]]
   (repeat (first | ((with_reducible refine is_AL ?_); (first | ((with_reducible refine is_bin ?_); (refine At_plain hF (by (exact (rfl : _ = some (Value.int _ _)))) ?_)) | ((with_reducible refine is_assign ?_); (refine At_plain hF (by (exact (rfl : _ = some (Value.int _ _)))) ?_)) | ((with_reducible refine is_field ?_); (refine At_field hF rfl ?_)) | ((with_reducible refine is_load ?_); (refine At_load hF 0 (by exact rfl) rfl (by (exact (rfl : _ = some (Value.int _ _)))) ?_)) | with_reducible refine At_nil ?_)) | ((with_reducible refine is_At ?_); (first | with_reducible refine At_seq ?_; intro K hK | with_reducible refine At_region ?_ | with_reducible refine At_skip ?_ | with_reducible refine At_ret ?_ | with_reducible refine At_then_n ?_ | with_reducible refine At_inb_n ?_ | with_reducible refine At_go (by assumption) ?_ | ((with_reducible refine is_cond ?_); (refine At_cond_f rfl ?_))))))
   exact At_ret2 rfl (rv_tmp (by decide)) (rv_tmp (by decide)) (fun w' hw' => ⟨_, rfl, congrArg (fun x => Value.tuple #[Value.int .i64 x, .int .i64 0]) (wrap_eq _), hw'.below⟩)
def robin_circle_pair.f (a0_0 : Int) (a0_1 : Int) (a1 : Int) (a2 : Int) : Option (Int × Int) := if a2 = 2 then (some (wrap64 (2 * a1), wrap64 ((wrap64 (2 * a1)) + 1))) else (if a2 = 3 then (some (a1, wrap64 (a0_1 + a1))) else (some (a1, (-1))))
set_option maxHeartbeats 4000000 in
theorem robin_circle_pair.calls (a0_0 : Int) (a0_1 : Int) (a1 : Int) (a2 : Int) (r1 : Int) (r2 : Int) (w : World) (h : robin_circle_pair.f a0_0 a0_1 a1 a2 = some (r1, r2)) :
  Calls Try.prog 39 #[.agg #[.int .i64 a0_0, .int .i64 a0_1], .int .i64 a1, .int .i64 a2] w fun e w' => e = .returned (.tuple #[.int .i64 r1, .int .i64 r2]) ∧ Below w.heap.size w w' := by
 have hF := wide_wide
 suffices hs : Rets Try.prog 39 #[.agg #[.int .i64 a0_0, .int .i64 a0_1], .int .i64 a1, .int .i64 a2] w fun u w' => u = .tuple #[.int .i64 r1, .int .i64 r2] ∧ Below w.heap.size w w' from hs.mono (by rintro e w' ⟨v, rfl, rfl, hb⟩; exact ⟨rfl, hb⟩)
 unfold robin_circle_pair.f at h
 refine rets_at (n := 24) Try.func39 rfl Try.ntmps39 (by simp) ?_
 ((repeat (first | ((with_reducible refine is_AL ?_); (first | ((with_reducible refine is_move ?_); (refine At_plain hF (by (exact (rfl : _ = some (Value.int _ _)))) ?_)) | ((with_reducible refine is_bin ?_); (refine At_plain hF (by (exact (rfl : _ = some (Value.bool _)))) ?_)) | ((with_reducible refine is_assign ?_); (refine At_plain hF (by (first | exact (rfl : _ = some (Value.int _ _)) | exact (rfl : _ = some (Value.bool _)))) ?_)) | with_reducible refine At_nil ?_)) | ((with_reducible refine is_At ?_); (first | with_reducible refine At_seq ?_; intro K hK | with_reducible refine At_block ?_ | with_reducible refine At_region ?_ | with_reducible refine At_then_n ?_ | with_reducible refine At_go (by assumption) ?_)))); ((with_reducible refine is_box ?_); (refine At_boxA hF rfl ?_; intro b3)); (repeat (first | ((with_reducible refine is_AL ?_); (first | ((with_reducible refine is_move ?_); (refine At_plain hF (by (exact (rfl : _ = some (Value.int _ _)))) ?_)) | ((with_reducible refine is_bin ?_); (refine At_plain hF (by (exact (rfl : _ = some (Value.bool _)))) ?_)) | ((with_reducible refine is_assign ?_); (refine At_plain hF (by (first | exact (rfl : _ = some (Value.int _ _)) | exact (rfl : _ = some (Value.bool _)))) ?_)) | with_reducible refine At_nil ?_)) | ((with_reducible refine is_At ?_); (first | with_reducible refine At_seq ?_; intro K hK | with_reducible refine At_block ?_ | with_reducible refine At_region ?_ | with_reducible refine At_then_n ?_ | with_reducible refine At_go (by assumption) ?_)))))
 by_cases h2 : a2 = 2
 ·rw [if_pos h2] at h
  simp only [Option.some.injEq, Prod.mk.injEq] at h
  obtain ⟨rfl, rfl⟩ := h
  rw [show (a2 == 2) = true by simp [h2]]
  (repeat (first | ((with_reducible refine is_AL ?_); (first | ((with_reducible refine is_move ?_); (refine At_plain hF (by (exact (rfl : _ = some (Value.int _ _)))) ?_)) | ((with_reducible refine is_bin ?_); (refine At_plain hF (by (exact (rfl : _ = some (Value.int _ _)))) ?_)) | ((with_reducible refine is_assign ?_); (refine At_plain hF (by (exact (rfl : _ = some (Value.int _ _)))) ?_)) | with_reducible refine At_nil ?_)) | ((with_reducible refine is_At ?_); (first | with_reducible refine At_seq ?_; intro K hK | with_reducible refine At_region ?_ | with_reducible refine At_ret ?_ | with_reducible refine At_then_n ?_ | with_reducible refine At_then_r ?_ | with_reducible refine At_inb_r ?_ | with_reducible refine At_go (by assumption) ?_ | ((with_reducible refine is_cond ?_); (refine At_cond_t rfl ?_))))))
  exact At_ret2 rfl (rv_tmp (by decide)) (rv_tmp (by decide)) (fun w' hw' => ⟨_, rfl, (by rw [← wrap_eq, ← wrap_eq]; rfl), hw'.below⟩)
 ·rw [if_neg h2] at h
  rw [show (a2 == 2) = false by simp [h2]]
  (repeat (first | ((with_reducible refine is_AL ?_); (first | ((with_reducible refine is_bin ?_); (refine At_plain hF (by (exact (rfl : _ = some (Value.bool _)))) ?_)) | ((with_reducible refine is_assign ?_); (refine At_plain hF (by (exact (rfl : _ = some (Value.bool _)))) ?_)) | with_reducible refine At_nil ?_)) | ((with_reducible refine is_At ?_); (first | with_reducible refine At_seq ?_; intro K hK | with_reducible refine At_region ?_ | with_reducible refine At_then_n ?_ | with_reducible refine At_go (by assumption) ?_ | ((with_reducible refine is_cond ?_); (refine At_cond_f rfl ?_))))))
  by_cases h3 : a2 = 3
  ·rw [if_pos h3] at h
   simp only [Option.some.injEq, Prod.mk.injEq] at h
   obtain ⟨rfl, rfl⟩ := h
   rw [show (a2 == 3) = true by simp [h3]]
   (repeat ((with_reducible refine is_At ?_); (first | with_reducible refine At_seq ?_; intro K hK | ((with_reducible refine is_cond ?_); (refine At_cond_t rfl ?_)))))
   refine At_draw hF 7 (by kernel_rfl) (by decide +kernel) ?_; simp only [List.take_succ_cons, List.take_zero, List.drop_succ_cons, List.drop_zero]; (repeat ((with_reducible refine is_AQc ?_); refine AQ_cons (by intro K Q hK; (repeat (first | ((with_reducible refine is_move ?_); (refine At_plain hF (by (exact (rfl : _ = some (Value.int _ _)))) ?_)) | ((with_reducible refine is_bin ?_); (refine At_plain hF (by (exact (rfl : _ = some (Value.int _ _)))) ?_)) | ((with_reducible refine is_assign ?_); (refine At_plain hF (by (exact (rfl : _ = some (Value.int _ _)))) ?_)) | ((with_reducible refine is_field ?_); (refine At_field hF rfl ?_)) | ((with_reducible refine is_load ?_); (refine At_load hF 0 (by exact rfl) rfl (by (exact (rfl : _ = some (Value.int _ _)))) ?_)))); exact At_nilK hK) ?_))
   (repeat ((with_reducible refine is_AQc ?_); refine AQ_cons (by intro K Q hK; skip; exact At_nilK hK) ?_)); refine AQ_done ?_
   (repeat (first | ((with_reducible refine is_AL ?_); (with_reducible refine At_nil ?_)) | ((with_reducible refine is_At ?_); (first | with_reducible refine At_ret ?_ | with_reducible refine At_then_n ?_ | with_reducible refine At_then_r ?_ | with_reducible refine At_inb_r ?_ | with_reducible refine At_go (by assumption) ?_))))
   exact At_ret2 rfl (rv_tmp (by decide)) (rv_tmp (by decide)) (fun w' hw' => ⟨_, rfl, (by rw [← wrap_eq]; rfl), hw'.below⟩)
  ·rw [if_neg h3] at h
   simp only [Option.some.injEq, Prod.mk.injEq] at h
   obtain ⟨rfl, rfl⟩ := h
   rw [show (a2 == 3) = false by simp [h3]]
   (repeat (first | ((with_reducible refine is_AL ?_); (first | ((with_reducible refine is_move ?_); (refine At_plain hF (by (exact (rfl : _ = some (Value.int _ _)))) ?_)) | ((with_reducible refine is_assign ?_); (refine At_plain hF (by (exact (rfl : _ = some (Value.int _ _)))) ?_)) | with_reducible refine At_nil ?_)) | ((with_reducible refine is_At ?_); (first | with_reducible refine At_seq ?_; intro K hK | with_reducible refine At_region ?_ | with_reducible refine At_skip ?_ | with_reducible refine At_ret ?_ | with_reducible refine At_then_n ?_ | with_reducible refine At_inb_n ?_ | with_reducible refine At_go (by assumption) ?_ | ((with_reducible refine is_cond ?_); (refine At_cond_f rfl ?_))))))
   exact At_ret2 rfl (rv_tmp (by decide)) (rv_tmp (by decide)) (fun w' hw' => ⟨_, rfl, rfl, hw'.below⟩)
end Go.Proofs.Ytecgklfcblpkdaa.RB

/- slices.SortFunc, over holdings: a row of the call's own becomes a sorted permutation of itself. -/
namespace XW
open Go Go.RowKit Go.Sort Go.Lib Go.Proofs
set_option linter.unusedSimpArgs false
set_option linter.unusedVariables false
set_option linter.unusedSectionVars false
section
variable {α : Type} [Inhabited α] {enc : α → List Value} {k : Nat}
theorem flatK_eq (he : ∀ x, (enc x).length = k) (hk : 0 < k) (l : List α) : flatK enc k l.toArray = (l.flatMap enc).toArray := by
  apply Array.ext
  · rw [size_flatK]; simp [len_flat he]
  · intro j h1 h2
    rw [size_flatK] at h1
    have hj : j < l.length * k := by simpa using h1
    have hi : j / k < l.length := (Nat.div_lt_iff_lt_mul hk).2 hj
    have hc : j % k < k := Nat.mod_lt _ hk
    have e1 := get_flatK enc k l.toArray j (by simpa using hj)
    rw [getElem!_pos _ j (by rw [size_flatK]; exact h1)] at e1
    rw [e1]
    have e2 : (l.toArray)[j / k]! = l.getD (j / k) default := by
      rw [getElem!_pos _ _ (by simpa using hi), List.getD_eq_getElem?_getD, List.getElem?_eq_getElem hi]; simp
    rw [e2, getElem!_pos _ _ (by rw [he]; exact hc)]
    have e3 := get_flat he default l (j / k) hi (j := j % k) (v := (enc (l.getD (j / k) default))[j % k]'(by rw [he]; exact hc)) (List.getElem?_eq_getElem _)
    rw [Nat.div_add_mod' j k] at e3
    have e4 : (l.flatMap enc)[j]? = some ((l.flatMap enc).toArray[j]'h2) := by rw [List.getElem?_eq_getElem (by simpa using h2)]; simp
    rw [e4] at e3
    exact (Option.some.inj e3).symm
theorem holdsK_of (he : ∀ x, (enc x).length = k) (hk : 0 < k) {w : World} {b : Nat} {l : List α} {junk : List Value} {e : TypeId} (h : w.heap[b]? = some (.cells (buf enc l junk) e (0, 0))) : HoldsK enc k w b 0 l.toArray := by
  intro j hj
  rw [flatK_eq he hk] at hj ⊢
  rw [Nat.zero_add]
  have hj' : j < (l.flatMap enc).length := by simpa using hj
  refine ⟨cell_of h ?_, by simp [World.frozen?, h]⟩
  simp only [buf, List.getElem?_toArray]
  rw [List.getElem?_append_left hj', getElem!_pos _ j (by simpa using hj'), List.getElem?_eq_getElem hj']
  simp
theorem putRowK_heap (he : ∀ x, (enc x).length = k) (hk : 0 < k) {w : World} {b : Nat} {l l' : List α} {junk : List Value} {e : TypeId} (hl : l'.length = l.length) (h : w.heap[b]? = some (.cells (buf enc l junk) e (0, 0))) :
    (putRowK enc k w b 0 l'.toArray).heap[b]? = some (.cells (buf enc l' junk) e (0, 0)) := by
  unfold putRowK putRow mapBlock
  simp only [Array.getElem?_modify, if_true, h, Option.map_some]
  congr 2
  rw [flatK_eq he hk]
  unfold putCells buf
  simp only [onCells]
  congr 1
  have hlen : (l'.flatMap enc).length = (l.flatMap enc).length := by rw [len_flat he, len_flat he, hl]
  apply Array.ext
  · simp [hlen]
  · intro j h1 h2
    simp only [Array.size_mapIdx, List.size_toArray, List.length_append] at h1
    simp only [Array.getElem_mapIdx, List.getElem_toArray, List.size_toArray, Nat.zero_le, true_and, Nat.zero_add, Nat.sub_zero, id]
    by_cases hj : j < (l'.flatMap enc).length
    · rw [if_pos hj, List.getElem_append_left hj, getElem!_pos _ j (by simpa using hj)]; simp
    · rw [if_neg hj, List.getElem_append_right (by omega), List.getElem_append_right (by omega)]
      congr 1; omega
theorem putRowK_other {w : World} {b : Nat} {d : Array α} {i : Nat} (h : i ≠ b) : (putRowK enc k w b 0 d).heap[i]? = w.heap[i]? := by
  unfold putRowK putRow mapBlock
  simp only [Array.getElem?_modify]
  rw [if_neg (fun e => h e.symm)]
theorem sortWorldK_chg (w : World) (b n : Nat) (d : Array α) (os : Array Obj) : Chg (fun i => i = b) w (sortWorldK enc k w b 0 n d os) := by
  refine ⟨rfl, rfl, rfl, ?_, fun i hi hn => ?_⟩
  · simp [sortWorldK, grow, putRowK, putRow, mapBlock, Go.Sort.ahead]
  · have hsz : i < (putRowK enc k (Go.Sort.ahead w n) b 0 d).heap.size := by simp [putRowK, putRow, mapBlock, Go.Sort.ahead]; exact hi
    show ((putRowK enc k (Go.Sort.ahead w n) b 0 d).heap ++ os)[i]? = _
    rw [Array.getElem?_append_left hsz, putRowK_other hn]; rfl
theorem sortWorldK_at (he : ∀ x, (enc x).length = k) (hk : 0 < k) {w : World} {b n : Nat} {l l' : List α} {junk : List Value} {e : TypeId} {os : Array Obj} (hl : l'.length = l.length) (h : w.heap[b]? = some (.cells (buf enc l junk) e (0, 0))) :
    (sortWorldK enc k w b 0 n l'.toArray os).heap[b]? = some (.cells (buf enc l' junk) e (0, 0)) := by
  have hb := get_lt h
  have hsz : b < (putRowK enc k (Go.Sort.ahead w n) b 0 l'.toArray).heap.size := by simp [putRowK, putRow, mapBlock, Go.Sort.ahead]; exact hb
  show ((putRowK enc k (Go.Sort.ahead w n) b 0 l'.toArray).heap ++ os)[b]? = _
  rw [Array.getElem?_append_left hsz]
  exact putRowK_heap he hk hl h
end
end XW

/- robin.order, to the world: what the sort asks. -/
namespace Go.Proofs.Ytecgklfcblpkdaa.RB
open Go.RowKit Go.Proofs.Ytecgklfcblpkdaa.P Go.Proofs.YtecgklfcblpkdaaW.PrintWords Go.Proofs.YtecgklfcblpkdaaW.PrintLast Go.Proofs.YtecgklfcblpkdaaW.PrintMore
open XW RegInv Go.Shelf
set_option linter.unusedSimpArgs false
set_option linter.unusedVariables false
def cmpI (x y : Int) : Int := Lib.compareInt x y
def cfM (x y : S44) : Int := if cmpI x.f0 y.f0 ≠ 0 then cmpI x.f0 y.f0 else cmpI x.f1 y.f1
def enc44 (x : S44) : List Value := [.int .i64 x.f0, .int .i64 x.f1, .int .i64 x.f2]
theorem E50 : Enters Try.prog 50 := enters Try.func50 (by kernel_rfl) rfl
theorem E49 : Enters Try.prog 49 := enters Try.func49 (by kernel_rfl) rfl
theorem cmp_exact (x y : Int) (w : World) : Rets Try.prog 50 #[.int .i64 x, .int .i64 y] w fun u w' => u = .int .i64 (cmpI x y) ∧ w' = w :=
 rets_of (S := fun w' => w' = w) (AnyG.cmp_Compare_int Try.cmpInt x y w)
section
variable {F : Fence} {P : Program} {n : Nat} {Q : Post} {ρ : Nat → Value} {ds : List Deferred} {w : World} {ops : Array Oper}
theorem XL_plainV (hF : Wide F) {dst : Option Tmp} {op : Op} {ty : TypeId} {pos : String} {af : Array Edge} {rest : List Oper} {v : Value} (hv : plain n ρ op = some v) (h : XL F P n Q ops rest (updO ρ dst v) ds w) : XL F P n Q ops (⟨dst, op, ty, pos, af, none⟩ :: rest) ρ ds w :=
 XL_gives hF rfl (plain_gives (P := P) (w := w) (o := ⟨dst, op, ty, pos, af, none⟩) hv).2 (.inl (plain_gives (o := ⟨dst, op, ty, pos, af, none⟩) hv).1) h
theorem XL_indexS0 (hF : Wide F) {dst : Option Tmp} {t ty : TypeId} {x y : Operand} {pos : String} {af : Array Edge} {rest : List Oper} {b l c k : Nat} {kk : IntKind} [T : TS P t] (h1 : T.sz = 1) (hx : xv n ρ x = .slice (some ⟨b, 0, none⟩) l c) (hy : xv n ρ y = .int kk (k : Nat)) (hk : k < l)
  (h : XL F P n Q ops rest (updO ρ dst (.pointer (some ⟨b, k, none⟩))) ds w) : XL F P n Q ops (⟨dst, .indexAddr t x y, ty, pos, af, none⟩ :: rest) ρ ds w := by
 obtain ⟨i', hi', hs, _⟩ := T.h
 refine XL_index hF T.u hi' hx hy (by omega) (by omega) ?_
 rw [hs, h1, XW.add_plain, Int.toNat_natCast]
 simpa using h
theorem XL_fieldB (hF : Wide F) {dst : Option Tmp} {t ty : TypeId} {x : Operand} {pos : String} {af : Array Edge} {rest : List Oper} {b off j : Nat} [T : TF P t j] (hx : xv n ρ x = .pointer (some ⟨b, off, none⟩)) (h : XL F P n Q ops rest (updO ρ dst (.pointer (some ⟨b, off + T.off, none⟩))) ds w) : XL F P n Q ops (⟨dst, .fieldAddr t x j, ty, pos, af, none⟩ :: rest) ρ ds w := by
 obtain ⟨fs, f, i', hu, hf, ho, hi', hs⟩ := T.h
 exact XL_field hF hu hf hi' hs hx (by rw [ho]; exact h)
theorem XL_loadB (hF : Wide F) {dst : Option Tmp} {t ty : TypeId} {x : Operand} {pos : String} {af : Array Edge} {rest : List Oper} {b off : Nat} {cs : Array Value} {t1 : TypeId} {fz : Nat × Nat} {v : Value} [T : T1 P t] (hx : xv n ρ x = .pointer (some ⟨b, off, none⟩)) (hb : w.heap[b]? = some (.cells cs t1 fz)) (hv : cs[off]? = some v) (h : XL F P n Q ops rest (updO ρ dst v) ds w) : XL F P n Q ops (⟨dst, .load t x, ty, pos, af, none⟩ :: rest) ρ ds w := by
 obtain ⟨d, hu, hd⟩ := T.u
 exact XL_load hF hx (loads_cell hu hd hb hv) h
theorem XL_buildSliceG (hF : Wide F) {dst : Option Tmp} {t ty : TypeId} {pos : String} {af : Array Edge} {rest : List Oper} {m : Nat} {parts : Array (Nat × Operand)} {vs : List Value} {cs : Array Value} [T : TS P t] (hm : vs.length = m) (hp : parts.toList.map (fun x => (x.fst, xv n ρ x.snd)) = (List.range' 0 vs.length).zip vs) (hv : ∀ v ∈ vs, v.cells.size = T.sz) (hs : T.z.cells.size = T.sz ∧ T.sz ≠ 0 ∧ m * T.sz ≤ 16777216) (hm0 : m ≠ 0) (hcs : (vs.flatMap fun v => v.cells.toList) = cs.toList)
  (h : XL F P n Q ops rest (updO ρ dst (.slice (some ⟨w.heap.size, 0, none⟩) m m)) ds (w.alloc (.cells cs T.e))) : XL F P n Q ops (⟨dst, .buildSlice t m parts, ty, pos, af, none⟩ :: rest) ρ ds w := by
 obtain ⟨i', hi', hsz, hz', hby⟩ := T.h
 refine XL_buildSlice hF (e := T.e) (v := .slice (some ⟨w.heap.size, 0, none⟩) m m) (w' := w.alloc (.cells cs T.e)) ?_ h
 have hne : ¬ m * T.sz = 0 := by
  intro e
  rcases Nat.mul_eq_zero.1 e with h1 | h1
  ·exact hm0 h1
  ·exact hs.2.1 h1
 have hf := fill_all T.sz vs 0 ((Array.range (m * T.sz)).map (T.z.cells[· % T.z.cells.size]!)) hv (by simp [hm])
 have hlen : (vs.flatMap fun v => v.cells.toList).length = m * T.sz := by rw [len_flat_mem vs (fun v hv' => by simpa using hv v hv'), hm]
 have hf' : Instr.fill (fun i => some (i * T.sz, T.sz)) ((Array.range (m * T.sz)).map (T.z.cells[· % T.z.cells.size]!)) (parts.toList.map fun x => (x.fst, xv n ρ x.snd)) = some cs := by
  rw [hp, hf, Nat.zero_mul, over_all _ _ (by rw [hlen]; simp), hcs]
 have hbig : ¬ m * T.sz > 16777216 := by omega
 have hu := T.u
 simp [Instr.buildSlice, underlying, program, hu, Go.sizeOf, typeInfo, hi', hsz, hz', hne, hbig, zeroValue, hf', newRow, newObj, Sem.run_bind, Sem.run, Result.andThen]
theorem XL_boxV (hF : Wide F) {dst : Option Tmp} {t ty : TypeId} {x : Operand} {pos : String} {af : Array Edge} {rest : List Oper} {cs : Array Value} (hx : xv n ρ x = .agg cs)
  (h : XL F P n Q ops rest (updO ρ dst (.pointer (some ⟨w.heap.size, 0, none⟩))) ds (w.alloc (.cells cs t))) : XL F P n Q ops (⟨dst, .box t x, ty, pos, af, none⟩ :: rest) ρ ds w := XL_box hF (by rw [hx]; exact h)
end
theorem or_exact (b : Nat) (c1 c2 : Int) (W : World) (hb : W.heap[b]? = some (.cells #[.int .i64 c1, .int .i64 c2] 3 (0, 0))) :
  Rets Try.prog 49 #[.slice (some ⟨b, 0, none⟩) 2 2] W fun u w' => u = .int .i64 (if c1 ≠ 0 then c1 else c2) ∧ w' = W := by
 have hF := wide_wide
 refine calls_of (n := 18) Try.func49 rfl Try.ntmps49 (by simp) ?_
 (repeat (first | (with_reducible refine X_seq_k ?_; intro K hK) | with_reducible refine X_block ?_ | with_reducible refine X_scope ?_ | with_reducible refine nogo_n ?_ | with_reducible refine nogo_e ?_ | with_reducible refine nogo_r ?_ | with_reducible refine X_region ?_ | with_reducible refine X_skip ?_ | with_reducible refine X_label ?_ | with_reducible refine X_ret ?_ | with_reducible refine X_exit ?_ | with_reducible refine then_n ?_ | with_reducible refine then_e ?_ | with_reducible refine then_r ?_ | with_reducible refine inb_n ?_ | with_reducible refine inb_r ?_ | with_reducible refine inb_e rfl ?_ | with_reducible refine inb_x rfl ?_ | with_reducible refine XL_nil ?_ | with_reducible refine go_k (by assumption) ?_))
 refine XL_plainV hF (by exact (rfl : _ = some (Value.int _ _))) ?_
 (repeat (first | (with_reducible refine X_seq_k ?_; intro K hK) | with_reducible refine X_block ?_ | with_reducible refine X_scope ?_ | with_reducible refine nogo_n ?_ | with_reducible refine nogo_e ?_ | with_reducible refine nogo_r ?_ | with_reducible refine X_region ?_ | with_reducible refine X_skip ?_ | with_reducible refine X_label ?_ | with_reducible refine X_ret ?_ | with_reducible refine X_exit ?_ | with_reducible refine then_n ?_ | with_reducible refine then_e ?_ | with_reducible refine then_r ?_ | with_reducible refine inb_n ?_ | with_reducible refine inb_r ?_ | with_reducible refine inb_e rfl ?_ | with_reducible refine inb_x rfl ?_ | with_reducible refine XL_nil ?_ | with_reducible refine go_k (by assumption) ?_))
 refine XL_plainV hF (by exact (rfl : _ = some (Value.int _ _))) ?_
 (repeat (first | (with_reducible refine X_seq_k ?_; intro K hK) | with_reducible refine X_block ?_ | with_reducible refine X_scope ?_ | with_reducible refine nogo_n ?_ | with_reducible refine nogo_e ?_ | with_reducible refine nogo_r ?_ | with_reducible refine X_region ?_ | with_reducible refine X_skip ?_ | with_reducible refine X_label ?_ | with_reducible refine X_ret ?_ | with_reducible refine X_exit ?_ | with_reducible refine then_n ?_ | with_reducible refine then_e ?_ | with_reducible refine then_r ?_ | with_reducible refine inb_n ?_ | with_reducible refine inb_r ?_ | with_reducible refine inb_e rfl ?_ | with_reducible refine inb_x rfl ?_ | with_reducible refine XL_nil ?_ | with_reducible refine go_k (by assumption) ?_))
 refine XL_plainV hF (by exact (rfl : _ = some (Value.slice _ _ _))) ?_
 refine XL_len hF Try.underlying29 (by exact rfl) ?_
 refine XL_plainV hF (by exact (rfl : _ = some (Value.int _ _))) ?_
 (repeat (first | (with_reducible refine X_seq_k ?_; intro K hK) | with_reducible refine X_block ?_ | with_reducible refine X_scope ?_ | with_reducible refine nogo_n ?_ | with_reducible refine nogo_e ?_ | with_reducible refine nogo_r ?_ | with_reducible refine X_region ?_ | with_reducible refine X_skip ?_ | with_reducible refine X_label ?_ | with_reducible refine X_ret ?_ | with_reducible refine X_exit ?_ | with_reducible refine then_n ?_ | with_reducible refine then_e ?_ | with_reducible refine then_r ?_ | with_reducible refine inb_n ?_ | with_reducible refine inb_r ?_ | with_reducible refine inb_e rfl ?_ | with_reducible refine inb_x rfl ?_ | with_reducible refine XL_nil ?_ | with_reducible refine go_k (by assumption) ?_))
 refine X_loop (fun (i : Nat) ρ ds w => AllAt ρ [(3, .int .i64 0), (6, .slice (some ⟨b, 0, none⟩) 2 2), (7, .int .i64 2), (8, .int .i64 i)] ∧ ds = [] ∧ w = W ∧ (i = 0 ∨ (i = 1 ∧ c1 = 0) ∨ (i = 2 ∧ c1 = 0 ∧ c2 = 0))) (fun i => 2 - i) 0 ⟨⟨rfl, rfl, rfl, rfl, True.intro⟩, rfl, rfl, .inl rfl⟩ ?_
 rintro i ρ ds w ⟨hl, rfl, rfl, hi⟩ KL hKL
 rw [← ovr_eq ρ _ hl]
 clear hl
 (repeat (first | (with_reducible refine X_seq_k ?_; intro K hK) | with_reducible refine X_block ?_ | with_reducible refine X_scope ?_ | with_reducible refine nogo_n ?_ | with_reducible refine nogo_e ?_ | with_reducible refine nogo_r ?_ | with_reducible refine X_region ?_ | with_reducible refine X_skip ?_ | with_reducible refine X_label ?_ | with_reducible refine X_ret ?_ | with_reducible refine X_exit ?_ | with_reducible refine then_n ?_ | with_reducible refine then_e ?_ | with_reducible refine then_r ?_ | with_reducible refine inb_n ?_ | with_reducible refine inb_r ?_ | with_reducible refine inb_e rfl ?_ | with_reducible refine inb_x rfl ?_ | with_reducible refine XL_nil ?_ | with_reducible refine go_k (by assumption) ?_))
 refine XL_plainV hF (by exact (rfl : _ = some (Value.bool _))) ?_
 (repeat (first | (with_reducible refine X_seq_k ?_; intro K hK) | with_reducible refine X_block ?_ | with_reducible refine X_scope ?_ | with_reducible refine nogo_n ?_ | with_reducible refine nogo_e ?_ | with_reducible refine nogo_r ?_ | with_reducible refine X_region ?_ | with_reducible refine X_skip ?_ | with_reducible refine X_label ?_ | with_reducible refine X_ret ?_ | with_reducible refine X_exit ?_ | with_reducible refine then_n ?_ | with_reducible refine then_e ?_ | with_reducible refine then_r ?_ | with_reducible refine inb_n ?_ | with_reducible refine inb_r ?_ | with_reducible refine inb_e rfl ?_ | with_reducible refine inb_x rfl ?_ | with_reducible refine XL_nil ?_ | with_reducible refine go_k (by assumption) ?_))
 by_cases h2 : i < 2
 ·refine X_cond_true (by show Value.bool (decide ((i : Int) < 2)) = _; rw [decide_eq_true (by omega)]) ?_
  (repeat (first | (with_reducible refine X_seq_k ?_; intro K hK) | with_reducible refine X_block ?_ | with_reducible refine X_scope ?_ | with_reducible refine nogo_n ?_ | with_reducible refine nogo_e ?_ | with_reducible refine nogo_r ?_ | with_reducible refine X_region ?_ | with_reducible refine X_skip ?_ | with_reducible refine X_label ?_ | with_reducible refine X_ret ?_ | with_reducible refine X_exit ?_ | with_reducible refine then_n ?_ | with_reducible refine then_e ?_ | with_reducible refine then_r ?_ | with_reducible refine inb_n ?_ | with_reducible refine inb_r ?_ | with_reducible refine inb_e rfl ?_ | with_reducible refine inb_x rfl ?_ | with_reducible refine XL_nil ?_ | with_reducible refine go_k (by assumption) ?_))
  refine XL_indexS0 (k := i) hF rfl (by exact rfl) (by exact rfl) h2 ?_
  refine XL_loadB (v := .int .i64 (if i = 0 then c1 else c2)) hF (by exact rfl) hb (by rcases hi with rfl | ⟨rfl, _⟩ | ⟨rfl, _⟩ <;> first | rfl | omega) ?_
  refine XL_plainV hF (by exact (rfl : _ = some (Value.int _ _))) ?_
  (repeat (first | (with_reducible refine X_seq_k ?_; intro K hK) | with_reducible refine X_block ?_ | with_reducible refine X_scope ?_ | with_reducible refine nogo_n ?_ | with_reducible refine nogo_e ?_ | with_reducible refine nogo_r ?_ | with_reducible refine X_region ?_ | with_reducible refine X_skip ?_ | with_reducible refine X_label ?_ | with_reducible refine X_ret ?_ | with_reducible refine X_exit ?_ | with_reducible refine then_n ?_ | with_reducible refine then_e ?_ | with_reducible refine then_r ?_ | with_reducible refine inb_n ?_ | with_reducible refine inb_r ?_ | with_reducible refine inb_e rfl ?_ | with_reducible refine inb_x rfl ?_ | with_reducible refine XL_nil ?_ | with_reducible refine go_k (by assumption) ?_))
  refine XL_plainV hF (by exact (rfl : _ = some (Value.int _ _))) ?_
  refine XL_plainV hF (by exact (rfl : _ = some (Value.int _ _))) ?_
  refine XL_plainV hF (by exact (rfl : _ = some (Value.bool _))) ?_
  (repeat (first | (with_reducible refine X_seq_k ?_; intro K hK) | with_reducible refine X_block ?_ | with_reducible refine X_scope ?_ | with_reducible refine nogo_n ?_ | with_reducible refine nogo_e ?_ | with_reducible refine nogo_r ?_ | with_reducible refine X_region ?_ | with_reducible refine X_skip ?_ | with_reducible refine X_label ?_ | with_reducible refine X_ret ?_ | with_reducible refine X_exit ?_ | with_reducible refine then_n ?_ | with_reducible refine then_e ?_ | with_reducible refine then_r ?_ | with_reducible refine inb_n ?_ | with_reducible refine inb_r ?_ | with_reducible refine inb_e rfl ?_ | with_reducible refine inb_x rfl ?_ | with_reducible refine XL_nil ?_ | with_reducible refine go_k (by assumption) ?_))
  by_cases hz : (if i = 0 then c1 else c2) = 0
  ·refine X_cond_false (by show Value.bool ((if i = 0 then c1 else c2) != 0) = _; rw [hz]; rfl) ?_
   (repeat (first | (with_reducible refine X_seq_k ?_; intro K hK) | with_reducible refine X_block ?_ | with_reducible refine X_scope ?_ | with_reducible refine nogo_n ?_ | with_reducible refine nogo_e ?_ | with_reducible refine nogo_r ?_ | with_reducible refine X_region ?_ | with_reducible refine X_skip ?_ | with_reducible refine X_label ?_ | with_reducible refine X_ret ?_ | with_reducible refine X_exit ?_ | with_reducible refine then_n ?_ | with_reducible refine then_e ?_ | with_reducible refine then_r ?_ | with_reducible refine inb_n ?_ | with_reducible refine inb_r ?_ | with_reducible refine inb_e rfl ?_ | with_reducible refine inb_x rfl ?_ | with_reducible refine XL_nil ?_ | with_reducible refine go_k (by assumption) ?_))
   refine XL_plainV hF (by exact (rfl : _ = some (Value.int _ _))) ?_
   refine XL_plainV hF (by exact (rfl : _ = some (Value.int _ _))) ?_
   (repeat (first | (with_reducible refine X_seq_k ?_; intro K hK) | with_reducible refine X_block ?_ | with_reducible refine X_scope ?_ | with_reducible refine nogo_n ?_ | with_reducible refine nogo_e ?_ | with_reducible refine nogo_r ?_ | with_reducible refine X_region ?_ | with_reducible refine X_skip ?_ | with_reducible refine X_label ?_ | with_reducible refine X_ret ?_ | with_reducible refine X_exit ?_ | with_reducible refine then_n ?_ | with_reducible refine then_e ?_ | with_reducible refine then_r ?_ | with_reducible refine inb_n ?_ | with_reducible refine inb_r ?_ | with_reducible refine inb_e rfl ?_ | with_reducible refine inb_x rfl ?_ | with_reducible refine XL_nil ?_ | with_reducible refine go_k (by assumption) ?_))
   refine ⟨i + 1, ⟨⟨rfl, rfl, rfl, ?_, True.intro⟩, rfl, rfl, ?_⟩, by omega⟩
   ·show Value.int .i64 (IntKind.i64.wrap ((i : Int) + 1)) = _
    rw [wrap64_in (by omega) (by omega)]; rfl
   ·rcases hi with rfl | ⟨rfl, h1⟩ | ⟨rfl, _⟩
    ·exact .inr (.inl ⟨rfl, by simpa using hz⟩)
    ·exact .inr (.inr ⟨rfl, h1, by simpa using hz⟩)
    ·omega
  ·refine X_cond_true (by show Value.bool ((if i = 0 then c1 else c2) != 0) = _; rw [bne_iff_ne.2 hz]) ?_
   (repeat (first | (with_reducible refine X_seq_k ?_; intro K hK) | with_reducible refine X_block ?_ | with_reducible refine X_scope ?_ | with_reducible refine nogo_n ?_ | with_reducible refine nogo_e ?_ | with_reducible refine nogo_r ?_ | with_reducible refine X_region ?_ | with_reducible refine X_skip ?_ | with_reducible refine X_label ?_ | with_reducible refine X_ret ?_ | with_reducible refine X_exit ?_ | with_reducible refine then_n ?_ | with_reducible refine then_e ?_ | with_reducible refine then_r ?_ | with_reducible refine inb_n ?_ | with_reducible refine inb_r ?_ | with_reducible refine inb_e rfl ?_ | with_reducible refine inb_x rfl ?_ | with_reducible refine XL_nil ?_ | with_reducible refine go_k (by assumption) ?_))
   refine XL_plainV hF (by exact (rfl : _ = some (Value.int _ _))) ?_
   refine XL_plainV hF (by exact (rfl : _ = some (Value.int _ _))) ?_
   (repeat (first | (with_reducible refine X_seq_k ?_; intro K hK) | with_reducible refine X_block ?_ | with_reducible refine X_scope ?_ | with_reducible refine nogo_n ?_ | with_reducible refine nogo_e ?_ | with_reducible refine nogo_r ?_ | with_reducible refine X_region ?_ | with_reducible refine X_skip ?_ | with_reducible refine X_label ?_ | with_reducible refine X_ret ?_ | with_reducible refine X_exit ?_ | with_reducible refine then_n ?_ | with_reducible refine then_e ?_ | with_reducible refine then_r ?_ | with_reducible refine inb_n ?_ | with_reducible refine inb_r ?_ | with_reducible refine inb_e rfl ?_ | with_reducible refine inb_x rfl ?_ | with_reducible refine XL_nil ?_ | with_reducible refine go_k (by assumption) ?_))
   refine body_ret (results1 rfl (by decide)) ⟨_, rfl, ?_, rfl⟩
   show Value.int .i64 (if i = 0 then c1 else c2) = _
   rcases hi with rfl | ⟨rfl, h1⟩ | ⟨rfl, _⟩
   ·rw [if_pos rfl] at hz ⊢; rw [if_pos hz]
   ·rw [if_neg (by decide)] at hz ⊢; rw [if_neg (by omega)]
   ·omega
 ·have hi2 : c1 = 0 ∧ c2 = 0 := by rcases hi with rfl | ⟨rfl, _⟩ | ⟨_, h⟩ <;> first | omega | exact h
  refine X_cond_false (by show Value.bool (decide ((i : Int) < 2)) = _; rw [decide_eq_false (by omega)]) ?_
  (repeat (first | (with_reducible refine X_seq_k ?_; intro K hK) | with_reducible refine X_block ?_ | with_reducible refine X_scope ?_ | with_reducible refine nogo_n ?_ | with_reducible refine nogo_e ?_ | with_reducible refine nogo_r ?_ | with_reducible refine X_region ?_ | with_reducible refine X_skip ?_ | with_reducible refine X_label ?_ | with_reducible refine X_ret ?_ | with_reducible refine X_exit ?_ | with_reducible refine then_n ?_ | with_reducible refine then_e ?_ | with_reducible refine then_r ?_ | with_reducible refine inb_n ?_ | with_reducible refine inb_r ?_ | with_reducible refine inb_e rfl ?_ | with_reducible refine inb_x rfl ?_ | with_reducible refine XL_nil ?_ | with_reducible refine go_k (by assumption) ?_))
  refine XL_plainV hF (by exact (rfl : _ = some (Value.int _ _))) ?_
  refine XL_plainV hF (by exact (rfl : _ = some (Value.int _ _))) ?_
  (repeat (first | (with_reducible refine X_seq_k ?_; intro K hK) | with_reducible refine X_block ?_ | with_reducible refine X_scope ?_ | with_reducible refine nogo_n ?_ | with_reducible refine nogo_e ?_ | with_reducible refine nogo_r ?_ | with_reducible refine X_region ?_ | with_reducible refine X_skip ?_ | with_reducible refine X_label ?_ | with_reducible refine X_ret ?_ | with_reducible refine X_exit ?_ | with_reducible refine then_n ?_ | with_reducible refine then_e ?_ | with_reducible refine then_r ?_ | with_reducible refine inb_n ?_ | with_reducible refine inb_r ?_ | with_reducible refine inb_e rfl ?_ | with_reducible refine inb_x rfl ?_ | with_reducible refine XL_nil ?_ | with_reducible refine go_k (by assumption) ?_))
  refine body_ret (results1 rfl (by decide)) ⟨_, rfl, ?_, rfl⟩
  rw [hi2.1, hi2.2]; rfl
theorem E42 : Enters Try.prog 42 := enters Try.func42 (by kernel_rfl) rfl
set_option maxHeartbeats 4000000 in
theorem order_exact (x y : S44) (W : World) : Rets Try.prog 42 #[.agg (enc44 x).toArray, .agg (enc44 y).toArray] W fun u w' => u = .int .i64 (cfM x y) ∧ ∃ q os', w' = Go.Sort.grow (W.drewN q) os' := by
 have hF := wide_wide
 refine calls_of (n := 17) Try.func42 rfl Try.ntmps42 (by simp) ?_
 (repeat (first | (with_reducible refine X_seq_k ?_; intro K hK) | with_reducible refine X_block ?_ | with_reducible refine X_scope ?_ | with_reducible refine nogo_n ?_ | with_reducible refine nogo_e ?_ | with_reducible refine nogo_r ?_ | with_reducible refine X_region ?_ | with_reducible refine X_skip ?_ | with_reducible refine X_label ?_ | with_reducible refine X_ret ?_ | with_reducible refine X_exit ?_ | with_reducible refine then_n ?_ | with_reducible refine then_e ?_ | with_reducible refine then_r ?_ | with_reducible refine inb_n ?_ | with_reducible refine inb_r ?_ | with_reducible refine inb_e rfl ?_ | with_reducible refine inb_x rfl ?_ | with_reducible refine XL_nil ?_ | with_reducible refine go_k (by assumption) ?_))
 refine XL_boxV (cs := (enc44 x).toArray) hF (by exact rfl) ?_
 refine XL_boxV (cs := (enc44 y).toArray) hF (by exact rfl) ?_
 rw [size_alloc]
 refine XL_plainV hF (by exact (rfl : _ = some (Value.int _ _))) ?_
 (repeat (first | (with_reducible refine X_seq_k ?_; intro K hK) | with_reducible refine X_block ?_ | with_reducible refine X_scope ?_ | with_reducible refine nogo_n ?_ | with_reducible refine nogo_e ?_ | with_reducible refine nogo_r ?_ | with_reducible refine X_region ?_ | with_reducible refine X_skip ?_ | with_reducible refine X_label ?_ | with_reducible refine X_ret ?_ | with_reducible refine X_exit ?_ | with_reducible refine then_n ?_ | with_reducible refine then_e ?_ | with_reducible refine then_r ?_ | with_reducible refine inb_n ?_ | with_reducible refine inb_r ?_ | with_reducible refine inb_e rfl ?_ | with_reducible refine inb_x rfl ?_ | with_reducible refine XL_nil ?_ | with_reducible refine go_k (by assumption) ?_))
 obtain ⟨w1, hw1⟩ : ∃ w1, w1 = (W.alloc (.cells (enc44 x).toArray 44)).alloc (.cells (enc44 y).toArray 44) := ⟨_, rfl⟩
 have hb1 : w1.heap[W.heap.size]? = some (.cells (enc44 x).toArray 44 (0, 0)) := by rw [hw1]; exact get_alloc (get_new _ _) _
 have hb2 : w1.heap[W.heap.size + 1]? = some (.cells (enc44 y).toArray 44 (0, 0)) := by
  rw [hw1]
  have := get_new (W.alloc (.cells (enc44 x).toArray 44)) (.cells (enc44 y).toArray 44)
  rwa [size_alloc] at this
 have hg1 : w1 = Go.Sort.grow W #[.cells (enc44 x).toArray 44, .cells (enc44 y).toArray 44] := by
  rw [hw1, Go.Sort.alloc_eq_grow, Go.Sort.alloc_eq_grow, Go.Sort.grow_grow]; rfl
 rw [← hw1]
 clear hw1
 refine X_drawC (C := fun w => ∃ q, w = w1.drewN q) (fun w ⟨q, hq⟩ => ⟨q + 1, by rw [hq, World.drewN_drewN]⟩) hF 10 (by kernel_rfl) (by decide +kernel) ?_ _ ⟨0, rfl⟩
 simp only [List.take_succ_cons, List.take_zero, List.drop_succ_cons, List.drop_zero]
 refine AQC_cons (by intro K Q hK w ⟨q, hq⟩; refine XL_fieldB hF (by exact rfl) ?_; exact XL_nil (then_n (hK _ ⟨q, hq⟩))) ?_
 refine AQC_cons (by intro K Q hK w ⟨q, hq⟩; refine XL_loadB (v := .int .i64 x.f0) hF (by exact rfl) (by rw [hq]; exact hb1) (by exact rfl) ?_; exact XL_nil (then_n (hK _ ⟨q, hq⟩))) ?_
 refine AQC_cons (by intro K Q hK w ⟨q, hq⟩; refine XL_fieldB hF (by exact rfl) ?_; exact XL_nil (then_n (hK _ ⟨q, hq⟩))) ?_
 refine AQC_cons (by intro K Q hK w ⟨q, hq⟩; refine XL_loadB (v := .int .i64 y.f0) hF (by exact rfl) (by rw [hq]; exact hb2) (by exact rfl) ?_; exact XL_nil (then_n (hK _ ⟨q, hq⟩))) ?_
 refine AQC_cons (v := .int .i64 (cmpI x.f0 y.f0)) (by intro K Q hK w ⟨q, hq⟩; refine XL_call hF rfl E50 (cmp_exact x.f0 y.f0 w) (arg2 (by (first | exact (rfl : _ = (Value.int _ _)) | exact (rfl : _ = (Value.bool _)) | exact (rfl : _ = (Value.pointer _)) | exact (rfl : _ = (Value.slice _ _ _)) | exact (rfl : _ = (Value.map _)) | exact (rfl : _ = (Value.func _ _ _)) | exact (rfl : _ = (Value.tuple _)) | exact (rfl : _ = (Value.agg _)) | exact (rfl : _ = (Value.string _)) | exact (rfl : _ = (Value.nilFunc)) | exact (rfl : _ = (Value.nilIface)))) (by (first | exact (rfl : _ = (Value.int _ _)) | exact (rfl : _ = (Value.bool _)) | exact (rfl : _ = (Value.pointer _)) | exact (rfl : _ = (Value.slice _ _ _)) | exact (rfl : _ = (Value.map _)) | exact (rfl : _ = (Value.func _ _ _)) | exact (rfl : _ = (Value.tuple _)) | exact (rfl : _ = (Value.agg _)) | exact (rfl : _ = (Value.string _)) | exact (rfl : _ = (Value.nilFunc)) | exact (rfl : _ = (Value.nilIface))))) ?_; rintro _ _ ⟨rfl, rfl⟩; exact XL_nil (then_n (hK _ ⟨q, hq⟩))) ?_
 refine AQC_cons (by intro K Q hK w ⟨q, hq⟩; refine XL_fieldB hF (by exact rfl) ?_; exact XL_nil (then_n (hK _ ⟨q, hq⟩))) ?_
 refine AQC_cons (by intro K Q hK w ⟨q, hq⟩; refine XL_loadB (v := .int .i64 x.f1) hF (by exact rfl) (by rw [hq]; exact hb1) (by exact rfl) ?_; exact XL_nil (then_n (hK _ ⟨q, hq⟩))) ?_
 refine AQC_cons (by intro K Q hK w ⟨q, hq⟩; refine XL_fieldB hF (by exact rfl) ?_; exact XL_nil (then_n (hK _ ⟨q, hq⟩))) ?_
 refine AQC_cons (by intro K Q hK w ⟨q, hq⟩; refine XL_loadB (v := .int .i64 y.f1) hF (by exact rfl) (by rw [hq]; exact hb2) (by exact rfl) ?_; exact XL_nil (then_n (hK _ ⟨q, hq⟩))) ?_
 refine AQC_cons (v := .int .i64 (cmpI x.f1 y.f1)) (by intro K Q hK w ⟨q, hq⟩; refine XL_call hF rfl E50 (cmp_exact x.f1 y.f1 w) (arg2 (by (first | exact (rfl : _ = (Value.int _ _)) | exact (rfl : _ = (Value.bool _)) | exact (rfl : _ = (Value.pointer _)) | exact (rfl : _ = (Value.slice _ _ _)) | exact (rfl : _ = (Value.map _)) | exact (rfl : _ = (Value.func _ _ _)) | exact (rfl : _ = (Value.tuple _)) | exact (rfl : _ = (Value.agg _)) | exact (rfl : _ = (Value.string _)) | exact (rfl : _ = (Value.nilFunc)) | exact (rfl : _ = (Value.nilIface)))) (by (first | exact (rfl : _ = (Value.int _ _)) | exact (rfl : _ = (Value.bool _)) | exact (rfl : _ = (Value.pointer _)) | exact (rfl : _ = (Value.slice _ _ _)) | exact (rfl : _ = (Value.map _)) | exact (rfl : _ = (Value.func _ _ _)) | exact (rfl : _ = (Value.tuple _)) | exact (rfl : _ = (Value.agg _)) | exact (rfl : _ = (Value.string _)) | exact (rfl : _ = (Value.nilFunc)) | exact (rfl : _ = (Value.nilIface))))) ?_; rintro _ _ ⟨rfl, rfl⟩; exact XL_nil (then_n (hK _ ⟨q, hq⟩))) ?_
 refine AQC_done ?_
 rintro w ⟨q, rfl⟩
 refine XL_buildSliceG (vs := [.int .i64 (cmpI x.f0 y.f0), .int .i64 (cmpI x.f1 y.f1)]) (cs := #[.int .i64 (cmpI x.f0 y.f0), .int .i64 (cmpI x.f1 y.f1)]) hF rfl (by exact rfl) (by simp [Value.cells]; decide) (by decide) (by decide) rfl ?_
 refine XL_call hF rfl E49 (or_exact _ (cmpI x.f0 y.f0) (cmpI x.f1 y.f1) _ (get_new _ _)) (arg1 (by (first | exact (rfl : _ = (Value.int _ _)) | exact (rfl : _ = (Value.bool _)) | exact (rfl : _ = (Value.pointer _)) | exact (rfl : _ = (Value.slice _ _ _)) | exact (rfl : _ = (Value.map _)) | exact (rfl : _ = (Value.func _ _ _)) | exact (rfl : _ = (Value.tuple _)) | exact (rfl : _ = (Value.agg _)) | exact (rfl : _ = (Value.string _)) | exact (rfl : _ = (Value.nilFunc)) | exact (rfl : _ = (Value.nilIface))))) ?_
 rintro _ _ ⟨rfl, rfl⟩
 refine XL_plainV hF (by exact (rfl : _ = some (Value.int _ _))) ?_
 (repeat (first | (with_reducible refine X_seq_k ?_; intro K hK) | with_reducible refine X_block ?_ | with_reducible refine X_scope ?_ | with_reducible refine nogo_n ?_ | with_reducible refine nogo_e ?_ | with_reducible refine nogo_r ?_ | with_reducible refine X_region ?_ | with_reducible refine X_skip ?_ | with_reducible refine X_label ?_ | with_reducible refine X_ret ?_ | with_reducible refine X_exit ?_ | with_reducible refine then_n ?_ | with_reducible refine then_e ?_ | with_reducible refine then_r ?_ | with_reducible refine inb_n ?_ | with_reducible refine inb_r ?_ | with_reducible refine inb_e rfl ?_ | with_reducible refine inb_x rfl ?_ | with_reducible refine XL_nil ?_ | with_reducible refine go_k (by assumption) ?_))
 refine body_ret (results1 rfl (by decide)) ⟨_, rfl, rfl, q, #[.cells (enc44 x).toArray 44, .cells (enc44 y).toArray 44] ++ #[.cells #[.int .i64 (cmpI x.f0 y.f0), .int .i64 (cmpI x.f1 y.f1)] 3], ?_⟩
 rw [hg1]
 show World.alloc (Go.Sort.grow (W.drewN q) #[.cells (enc44 x).toArray 44, .cells (enc44 y).toArray 44]) (.cells #[.int .i64 (cmpI x.f0 y.f0), .int .i64 (cmpI x.f1 y.f1)] 3) = _
 rw [Go.Sort.alloc_eq_grow, Go.Sort.grow_grow]
end Go.Proofs.Ytecgklfcblpkdaa.RB

/- robin.sorted: a sorted permutation in a row of its own. -/
namespace Go.Proofs.Ytecgklfcblpkdaa.RB
open Go.RowKit Go.Proofs.Ytecgklfcblpkdaa.P Go.Proofs.YtecgklfcblpkdaaW.PrintWords Go.Proofs.YtecgklfcblpkdaaW.PrintLast Go.Proofs.YtecgklfcblpkdaaW.PrintMore
open XW RegInv
attribute [local irreducible] Addr.add
set_option linter.unusedSimpArgs false
set_option linter.unusedVariables false
instance : Inhabited S44 := ⟨z44⟩
theorem enc44_len (x : S44) : (enc44 x).length = 3 := rfl
theorem getD_memS {α : Type} {l : List α} {k : Nat} {d : α} (h : k < l.length) : l.getD k d ∈ l := by
 rw [List.getD_eq_getElem?_getD, List.getElem?_eq_getElem h]; exact List.getElem_mem h
theorem take_snocS {α : Type} (l : List α) (k : Nat) (d : α) (h : k < l.length) : l.take (k + 1) = l.take k ++ [l.getD k d] := by
 rw [List.take_succ_eq_append_getElem h, List.getD_eq_getElem?_getD, List.getElem?_eq_getElem h]; rfl
theorem C_flat {α : Type} {d : Kd α} {enc : α → List Value} (ho : ∀ {w x cs}, d.K w x cs → cs = enc x) {w : World} {A : Option Addr} {n : Nat} {xs : List α} (h : Kd.C d w A n xs) (z : α) (k : Nat) (hk : k < n) :
  ∃ ad, A = some ad ∧ ∀ j u, (enc (xs.getD k z))[j]? = some u → w.cell? ((ad.add (k * d.sz)).add j) = some u := by
 obtain ⟨ad, c, hA, _, hK, hc⟩ := Kd.C_get h z (k : Int) (by omega) (by omega)
 rw [Int.toNat_natCast] at hK hc
 refine ⟨ad, hA, fun j u hj => ?_⟩
 rw [addr_add_add]
 exact hc j u (by rw [ho hK]; exact hj)
abbrev ip (b : Nat) : Value := .pointer (some ⟨b, 0, none⟩)
def argsM (x : S44) : Array Value := #[.agg #[.int .i64 x.f0, .int .i64 x.f1, .int .i64 x.f2]]
def preV (l xs : List S44) : Prop := ∃ ys, xs ++ ys = l
theorem Mem.last {base w : World} {r : Res} {R : List Res} (h : Mem base w (r :: R)) : Mem base w (R ++ [r]) := h.perm (List.perm_append_singleton r R)
set_option maxHeartbeats 4000000 in
theorem vals_iter {F : Fence} (hF : Wide F) (ha : F.alive = false) (hro : F.round = none) (base : World) (b2 : Nat) (A : Option Addr) (c : Nat) (l : List S44) (hbox : base.cell? ⟨b2, 0, none⟩ = some (.slice A l.length c)) (hr : Kd.C k44 base A l.length l) :
  IterOk F Try.prog 53 #[ip b2] base [] argsM (preV l) (fun xs => xs = l) := by
 intro σ lp Rc φ ψ hy s0 h0 w hw
 have hmx := hr.2.1
 refine callsIn_at (n := 16) hF hro hw Try.func53 rfl Try.ntmps53 (by simp) ?_
 simp only [List.nil_append]
 (repeat ((with_reducible refine is_At ?_); (first | with_reducible refine At_seq ?_; intro K hK | with_reducible refine At_region ?_)))
 refine At_loadC hF (by exact rfl) hbox ?_
 (repeat (first | ((with_reducible refine is_AL ?_); (first | ((with_reducible refine is_move ?_); (refine At_plain hF (by (exact (rfl : _ = some (Value.int _ _)))) ?_)) | ((with_reducible refine is_call ?_); (refine At_len hF rfl ?_)) | with_reducible refine At_nil ?_)) | ((with_reducible refine is_At ?_); (first | with_reducible refine At_block ?_ | with_reducible refine At_then_n ?_ | with_reducible refine At_go (by assumption) ?_))))
 refine At_loop (fun st : Nat × σ => [(0, .func (.yield lp) #[] #[]), (5, .slice A l.length c), (6, .int .i64 l.length), (7, .int .i64 st.1)]) (fun st => Rc st.2) (fun st => st.1 ≤ l.length ∧ φ (l.take st.1) st.2) (fun st => l.length - st.1) (0, s0) ?_ ?_ ⟨Nat.zero_le _, h0⟩ ?_
 ·(repeat (first | exact List.Sublist.refl _ | exact List.Sublist.slnil | refine List.Sublist.cons_cons _ ?_ | refine List.Sublist.cons _ ?_))
 ·(repeat (first | exact True.intro | (refine And.intro ?_ ?_; focus (show _ = (_ : Value); first | exact rfl | (refine Eq.trans (b := Value.int IntKind.i64 _) rfl (congrArg (Value.int IntKind.i64) ?_); omega)))))
 rintro ⟨i, s⟩ ⟨hi, hφ⟩ K hL ρ1
 simp only at hi hφ
 try dsimp only
 (repeat (first | ((with_reducible refine is_AL ?_); (first | ((with_reducible refine is_bin ?_); (refine At_plain hF (by (exact (rfl : _ = some (Value.bool _)))) ?_)) | with_reducible refine At_nil ?_)) | ((with_reducible refine is_At ?_); (first | with_reducible refine At_seq ?_; intro K hK | with_reducible refine At_region ?_ | with_reducible refine At_then_n ?_ | with_reducible refine At_go (by assumption) ?_))))
 ((with_reducible refine is_cond ?_); (refine At_cond rfl ?_ ?_ <;> (intro hg; try (simp only [decide_eq_true_eq, decide_eq_false_iff_not, beq_iff_eq, bne_iff_ne, beq_eq_false_iff_ne, bne_eq_false_iff_eq, ne_eq, Bool.not_eq_true', Bool.not_eq_false', Bool.not_true, Bool.not_false, Decidable.not_not] at hg); try (exfalso; first | omega | exact hg True.intro))))
 ·have hlt : i < l.length := by omega
  obtain ⟨ad, hA, hcell⟩ := C_flat (enc := enc44) (fun h => k44_open h) hr z44 i hlt
  have htk : l.take (i + 1) = l.take i ++ [l.getD i z44] := take_snocS l i z44 hlt
  generalize l.getD i z44 = x at hcell htk
  (repeat (first | ((with_reducible refine is_AL ?_); ((with_reducible refine is_index ?_); (refine At_indexC hF rfl (by assumption) rfl (by omega) ?_))) | ((with_reducible refine is_At ?_); (first | with_reducible refine At_seq ?_; intro K hK | with_reducible refine At_block ?_ | with_reducible refine At_region ?_ | with_reducible refine At_skip ?_ | with_reducible refine At_then_n ?_ | with_reducible refine At_go (by assumption) ?_))))
  refine At_loadCS (vs := [.int .i64 x.f0, .int .i64 x.f1, .int .i64 x.f2]) hF (by exact rfl) (by exact rfl) hcell ?_
  clear hA hcell
  ((repeat (first | ((with_reducible refine is_AL ?_); (first | ((with_reducible refine is_move ?_); (refine At_plain hF (by (exact (rfl : _ = some (Value.func _ _ _)))) ?_)) | ((with_reducible refine is_load ?_); (refine At_loadB hF 0 rfl rfl rfl ?_)) | ((with_reducible refine is_store ?_); (refine At_storeB_0 hF rfl rfl rfl rfl (by simp [Value.one1, epair]) ?_)) | with_reducible refine At_nil ?_)) | ((with_reducible refine is_At ?_); (first | with_reducible refine At_seq ?_; intro K hK | with_reducible refine At_region ?_ | with_reducible refine At_then_n ?_ | with_reducible refine At_go (by assumption) ?_)))); ((with_reducible refine is_alloc ?_); (refine At_alloc hF (by (exact (rfl : _ = List.toArray (_ :: _)))) ?_; intro b4)); (repeat (first | ((with_reducible refine is_AL ?_); (first | ((with_reducible refine is_move ?_); (refine At_plain hF (by (exact (rfl : _ = some (Value.func _ _ _)))) ?_)) | ((with_reducible refine is_load ?_); (refine At_loadB hF 0 rfl rfl rfl ?_)) | ((with_reducible refine is_store ?_); (refine At_storeB_0 hF rfl rfl rfl rfl (by simp [Value.one1, epair]) ?_)) | with_reducible refine At_nil ?_)) | ((with_reducible refine is_At ?_); (first | with_reducible refine At_seq ?_; intro K hK | with_reducible refine At_region ?_ | with_reducible refine At_then_n ?_ | with_reducible refine At_go (by assumption) ?_)))))
  refine At_yield hF ha hy [.obj b4 (.cells #[.int .i64 x.f0, .int .i64 x.f1, .int .i64 x.f2] 44)] (xs := l.take i) (s := s) x hφ (by rw [← htk]; exact ⟨l.drop (i + 1), List.take_append_drop _ _⟩) rfl (by exact rfl) (arg1 (by (first | exact (rfl : _ = (Value.int _ _)) | exact (rfl : _ = (Value.bool _)) | exact (rfl : _ = (Value.pointer _)) | exact (rfl : _ = (Value.slice _ _ _)) | exact (rfl : _ = (Value.map _)) | exact (rfl : _ = (Value.func _ _ _)) | exact (rfl : _ = (Value.tuple _)) | exact (rfl : _ = (Value.agg _)) | exact (rfl : _ = (Value.string _)) | exact (rfl : _ = (Value.nilFunc)) | exact (rfl : _ = (Value.nilIface))))) ?_ ?_
  ·intro s' hs'
   rw [← htk] at hs'
   simp only [List.cons_append, List.nil_append]
   (repeat (first | ((with_reducible refine is_AL ?_); (first | ((with_reducible refine is_move ?_); (refine At_plain hF (by (exact (rfl : _ = some (Value.int _ _)))) ?_)) | ((with_reducible refine is_bin ?_); ((with_reducible refine is_badd ?_); (refine At_add hF rfl rfl (by omega) ?_))) | ((with_reducible refine is_un ?_); (refine At_plain hF (by (exact (rfl : _ = some (Value.bool _)))) ?_)) | with_reducible refine At_nil ?_)) | ((with_reducible refine is_At ?_); (first | with_reducible refine At_region ?_ | with_reducible refine At_skip ?_ | with_reducible refine At_then_n ?_ | with_reducible refine At_inb_n ?_ | with_reducible refine At_go (by assumption) ?_ | ((with_reducible refine is_cond ?_); (refine At_cond_f rfl ?_))))))
   refine At.sub ?_ (hL (i + 1, s') _ ⟨hlt, hs'⟩ (by simp only; omega) ?_)
   ·(repeat (first | exact List.Sublist.refl _ | exact List.Sublist.slnil | refine List.Sublist.cons_cons _ ?_ | refine List.Sublist.cons _ ?_))
   ·(repeat (first | exact True.intro | (refine And.intro ?_ ?_; focus (show _ = (_ : Value); first | exact rfl | (refine Eq.trans (b := Value.int IntKind.i64 _) rfl (congrArg (Value.int IntKind.i64) ?_); omega)))))
  ·intro s' hs'
   simp only [List.cons_append, List.nil_append]
   (repeat (first | ((with_reducible refine is_AL ?_); (first | ((with_reducible refine is_un ?_); (refine At_plain hF (by (exact (rfl : _ = some (Value.bool _)))) ?_)) | with_reducible refine At_nil ?_)) | ((with_reducible refine is_At ?_); (first | with_reducible refine At_ret ?_ | with_reducible refine At_then_n ?_ | with_reducible refine At_then_r ?_ | with_reducible refine At_inb_r ?_ | with_reducible refine At_go (by assumption) ?_ | ((with_reducible refine is_cond ?_); (refine At_cond_t rfl ?_))))))
   exact At_fin0 rfl (fun w' hw' => ⟨_, s', rfl, hw'.sub (List.sublist_cons_self _ _), .inr hs'⟩)
 obtain rfl : i = l.length := by omega
 rw [List.take_length] at hφ
 (repeat ((with_reducible refine is_At ?_); (first | with_reducible refine At_exit ?_ | with_reducible refine At_then_e ?_ | with_reducible refine At_inb_e rfl ?_)))
 exact At_fin0n rfl (fun w' hw' => ⟨_, s, rfl, hw', .inl ⟨l, rfl, hφ⟩⟩)
theorem cell_laterS {w wx : World} {a : Addr} {v : Value} (hb : Below w.heap.size w wx) (h : w.cell? a = some v) : wx.cell? a = some v := by
 rw [hb.cell (by
  unfold World.cell? at h
  cases hx : w.heap[a.block]? with
  | none => simp [hx] at h
  | some o => exact get_lt hx)]
 exact h
theorem E53 : Enters Try.prog 53 := enters Try.func53 (by kernel_rfl) rfl
theorem E55 : Enters Try.prog 55 := enters Try.func55 (by kernel_rfl) rfl
theorem E51 : Enters Try.prog 51 := enters Try.func51 (by kernel_rfl) rfl
theorem E52 : Enters Try.prog 52 := enters Try.func52 (by kernel_rfl) rfl
theorem E48 : Enters Try.prog 48 := enters Try.func48 (by kernel_rfl) rfl
theorem E47 : Enters Try.prog 47 := enters Try.func47 (by kernel_rfl) rfl
theorem E41 : Enters Try.prog 41 := enters Try.func41 (by kernel_rfl) rfl
set_option maxHeartbeats 4000000 in
theorem app_rets (w0 : World) (b2 : Nat) (A : Option Addr) (c : Nat) (l : List S44) (hbox : w0.cell? ⟨b2, 0, none⟩ = some (.slice A l.length c)) (hr : Kd.C k44 w0 A l.length l) (hlen : l.length ≤ 1000000) :
  Rets Try.prog 55 #[.slice none 0 0, .func (.func 53) #[] #[ip b2]] w0 fun u w' => ∃ A' c', u = rowV A' l.length c' ∧ Mem w0 w' [.row 44 3 enc44 A' c' l] := by
 have hF := wide_wide
 refine rets_at (n := 13) Try.func55 rfl Try.ntmps55 (by simp) ?_
 refine At.newNil 44 3 enc44 enc44_len ?_
 ((repeat (first | ((with_reducible refine is_AL ?_); (first | ((with_reducible refine is_move ?_); (refine At_plain hF (by (exact (rfl : _ = some (Value.func _ _ _)))) ?_)) | ((with_reducible refine is_assign ?_); (refine At_plain hF (by (exact (rfl : _ = some (Value.slice _ _ _)))) ?_)) | with_reducible refine At_nil ?_)) | ((with_reducible refine is_At ?_); (first | with_reducible refine At_seq ?_; intro K hK | with_reducible refine At_block ?_ | with_reducible refine At_region ?_ | with_reducible refine At_then_n ?_ | with_reducible refine At_go (by assumption) ?_)))); ((with_reducible refine is_box ?_); (refine At_box1 hF (by (exact (rfl : _ = (Value.slice _ _ _)))) rfl ?_; intro bs)); (repeat (first | ((with_reducible refine is_AL ?_); (first | ((with_reducible refine is_move ?_); (refine At_plain hF (by (exact (rfl : _ = some (Value.func _ _ _)))) ?_)) | ((with_reducible refine is_assign ?_); (refine At_plain hF (by (exact (rfl : _ = some (Value.slice _ _ _)))) ?_)) | with_reducible refine At_nil ?_)) | ((with_reducible refine is_At ?_); (first | with_reducible refine At_seq ?_; intro K hK | with_reducible refine At_block ?_ | with_reducible refine At_region ?_ | with_reducible refine At_then_n ?_ | with_reducible refine At_go (by assumption) ?_)))))
 refine At_rangeX hF rfl rfl (by exact rfl) E53 [] argsM (preV l) (fun xs => xs = l) (vals_iter hF rfl rfl w0 b2 A c l hbox hr)
  (fun st : (Option Nat × Nat) × List S44 => [.obj bs (.cells #[rowV st.1.1 st.2.length st.1.2] 22 (0, 0)), .row 44 3 enc44 st.1.1 st.1.2 st.2]) (fun xs st => st.2 = xs) (fun _ _ => False) ((none, 0), []) ?_ rfl (fun _ => rfl) ?_ ?_ ?_
 ·exact List.Sublist.refl _
 ·rintro lp rec Ri xs x ⟨⟨A1, c1⟩, ys⟩ hφ ⟨zs, hpre⟩
  simp only at hφ
  subst hφ
  have hys : ys.length ≤ 1000000 := by
   have := congrArg List.length hpre
   simp at this; omega
  have hF := Wide.inRound hF lp
  simp only [List.cons_append, List.nil_append]
  ((repeat (first | ((with_reducible refine is_AL ?_); (first | ((with_reducible refine is_store ?_); (refine At_storeB_0 hF rfl rfl rfl rfl (by simp [Value.one1, epair]) ?_)) | with_reducible refine At_nil ?_)) | ((with_reducible refine is_At ?_); (with_reducible refine At_region ?_)))); ((with_reducible refine is_alloc ?_); (refine At_alloc hF (by (exact (rfl : _ = List.toArray (_ :: _)))) ?_; intro b5)); (repeat (first | ((with_reducible refine is_AL ?_); (first | ((with_reducible refine is_store ?_); (refine At_storeB_0 hF rfl rfl rfl rfl (by simp [Value.one1, epair]) ?_)) | with_reducible refine At_nil ?_)) | ((with_reducible refine is_At ?_); (with_reducible refine At_region ?_)))))
  refine fun w' hw' => ⟨rfl, [.obj b5 (.cells #[.int .i64 x.f0, .int .i64 x.f1, .int .i64 x.f2] 44 (0, 0))], hw'.perm (List.Perm.swap _ _ _), ?_⟩
  simp only [List.cons_append, List.nil_append]
  ((repeat (first | ((with_reducible refine is_AL ?_); ((with_reducible refine is_load ?_); (first | refine At_load hF 2 (by exact rfl) rfl (by (exact (rfl : _ = some (Value.slice _ _ _)))) ?_ | refine At_loadB hF 1 rfl rfl rfl ?_))) | ((with_reducible refine is_At ?_); (first | with_reducible refine At_block ?_ | with_reducible refine At_region ?_)))); ((with_reducible refine is_bslice ?_); (refine At_sliceA_1 hF (by decide) rfl rfl ?_; intro b6)); (repeat (first | ((with_reducible refine is_AL ?_); ((with_reducible refine is_load ?_); (first | refine At_load hF 2 (by exact rfl) rfl (by (exact (rfl : _ = some (Value.slice _ _ _)))) ?_ | refine At_loadB hF 1 rfl rfl rfl ?_))) | ((with_reducible refine is_At ?_); (first | with_reducible refine At_block ?_ | with_reducible refine At_region ?_)))))
  refine At_append_4 hF 0 rfl rfl rfl rfl (x0 := x) rfl (by decide) (by simp [Value.one1]) (by simp only [TS.bytes]; omega) (by omega) ?_
  intro A2 c2
  rw [show ys.length + 1 = (ys ++ [x]).length by simp]
  (repeat (first | ((with_reducible refine is_AL ?_); (first | ((with_reducible refine is_store ?_); (refine At_store_3 hF rfl (by (exact (rfl : _ = (Value.slice _ _ _)))) (by (exact of_decide_eq_true rfl)) (by exact rfl) (by exact rfl) (by (exact (rfl : _ = List.toArray (_ :: _)))) ?_)) | with_reducible refine At_nil ?_)) | ((with_reducible refine is_At ?_); (with_reducible refine At_inb_n ?_))))
  refine rnd_n ((A2, c2), ys ++ [x]) ?_ rfl
  (repeat (first | exact List.Sublist.refl _ | exact List.Sublist.slnil | refine List.Sublist.cons_cons _ ?_ | refine List.Sublist.cons _ ?_))
 ·rintro D xs st rfl hφ
  subst hφ
  simp only [List.cons_append, List.nil_append]
  (repeat (first | ((with_reducible refine is_AL ?_); (first | ((with_reducible refine is_assign ?_); (refine At_plain hF (by (exact (rfl : _ = some (Value.slice _ _ _)))) ?_)) | ((with_reducible refine is_load ?_); (refine At_load hF 1 (by exact rfl) rfl (by (exact (rfl : _ = some (Value.slice _ _ _)))) ?_)) | with_reducible refine At_nil ?_)) | ((with_reducible refine is_At ?_); (first | with_reducible refine At_seq ?_; intro K hK | with_reducible refine At_region ?_ | with_reducible refine At_ret ?_ | with_reducible refine At_then_n ?_ | with_reducible refine At_inb_n ?_ | with_reducible refine At_go (by assumption) ?_))))
  exact At_retm1 rfl (rv_tmp (by decide)) (fun w' hw' => ⟨_, rfl, _, _, rfl, hw'.sub (List.sublist_cons_self _ _)⟩)
 ·intro D e st _ h
  exact h.elim
set_option maxHeartbeats 4000000 in
theorem collect_rets (w0 : World) (b2 : Nat) (A : Option Addr) (c : Nat) (l : List S44) (hbox : w0.cell? ⟨b2, 0, none⟩ = some (.slice A l.length c)) (hr : Kd.C k44 w0 A l.length l) (hlen : l.length ≤ 1000000) :
  Rets Try.prog 51 #[.func (.func 53) #[] #[ip b2]] w0 fun u w' => ∃ A' c', u = rowV A' l.length c' ∧ Mem w0 w' [.row 44 3 enc44 A' c' l] := by
 have hF := wide_wide
 refine rets_at (n := 5) Try.func51 rfl Try.ntmps51 (by simp) ?_
 (repeat (first | ((with_reducible refine is_AL ?_); (first | ((with_reducible refine is_move ?_); (refine At_plain hF (by (exact (rfl : _ = some (Value.func _ _ _)))) ?_)) | ((with_reducible refine is_assign ?_); (refine At_plain hF (by (exact (rfl : _ = some (Value.slice _ _ _)))) ?_)) | with_reducible refine At_nil ?_)) | ((with_reducible refine is_At ?_); (first | with_reducible refine At_seq ?_; intro K hK | with_reducible refine At_region ?_ | with_reducible refine At_then_n ?_ | with_reducible refine At_go (by assumption) ?_))))
 refine At_callM hF E55 rfl (Post := fun u Rs => ∃ A' c', u = rowV A' l.length c' ∧ Rs = [.row 44 3 enc44 A' c' l]) (arg2 (by (first | exact (rfl : _ = (Value.int _ _)) | exact (rfl : _ = (Value.bool _)) | exact (rfl : _ = (Value.pointer _)) | exact (rfl : _ = (Value.slice _ _ _)) | exact (rfl : _ = (Value.map _)) | exact (rfl : _ = (Value.func _ _ _)) | exact (rfl : _ = (Value.tuple _)) | exact (rfl : _ = (Value.agg _)) | exact (rfl : _ = (Value.string _)) | exact (rfl : _ = (Value.nilFunc)) | exact (rfl : _ = (Value.nilIface)))) (by (first | exact (rfl : _ = (Value.int _ _)) | exact (rfl : _ = (Value.bool _)) | exact (rfl : _ = (Value.pointer _)) | exact (rfl : _ = (Value.slice _ _ _)) | exact (rfl : _ = (Value.map _)) | exact (rfl : _ = (Value.func _ _ _)) | exact (rfl : _ = (Value.tuple _)) | exact (rfl : _ = (Value.agg _)) | exact (rfl : _ = (Value.string _)) | exact (rfl : _ = (Value.nilFunc)) | exact (rfl : _ = (Value.nilIface))))) (fun w' hw' => (app_rets w' b2 A c l (cell_laterS hw'.below hbox) (Kd.C_below hr hw'.below) hlen).mono ?_) ?_
 ·rintro _ w2 ⟨_, rfl, A', c', rfl, h⟩
  exact ⟨_, rfl, _, ⟨A', c', rfl, rfl⟩, h⟩
 rintro _ _ ⟨A', c', rfl, rfl⟩
 simp only [List.cons_append, List.nil_append]
 (repeat (first | ((with_reducible refine is_AL ?_); (first | ((with_reducible refine is_assign ?_); (refine At_plain hF (by (exact (rfl : _ = some (Value.slice _ _ _)))) ?_)) | with_reducible refine At_nil ?_)) | ((with_reducible refine is_At ?_); (first | with_reducible refine At_ret ?_ | with_reducible refine At_then_n ?_ | with_reducible refine At_go (by assumption) ?_))))
 exact At_ret1 rfl (rv_tmp (by decide)) (fun w' hw' => ⟨_, rfl, _, _, rfl, hw'⟩)
set_option maxHeartbeats 4000000 in
theorem values_rets (w0 : World) (u0 : Option Addr) (m c : Nat) :
  Rets Try.prog 48 #[.slice u0 m c] w0 fun u w' => ∃ b2, u = .func (.func 53) #[] #[ip b2] ∧ Mem w0 w' [.obj b2 (.cells #[.slice u0 m c] 22 (0, 0))] := by
 have hF := wide_wide
 refine rets_at (n := 4) Try.func48 rfl Try.ntmps48 (by simp) ?_
 ((repeat (first | ((with_reducible refine is_AL ?_); (first | ((with_reducible refine is_assign ?_); (refine At_plain hF (by (first | exact (rfl : _ = some (Value.func _ _ _)) | exact (rfl : _ = some (Value.nilFunc)))) ?_)) | ((with_reducible refine is_func ?_); (refine At_func1 hF (by (exact (rfl : _ = (Value.pointer _)))) ?_)) | with_reducible refine At_nil ?_)) | ((with_reducible refine is_At ?_); (first | with_reducible refine At_seq ?_; intro K hK | with_reducible refine At_region ?_ | with_reducible refine At_ret ?_ | with_reducible refine At_then_n ?_ | with_reducible refine At_go (by assumption) ?_)))); ((with_reducible refine is_box ?_); (refine At_box1 hF (by (exact (rfl : _ = (Value.slice _ _ _)))) rfl ?_; intro b2)); (repeat (first | ((with_reducible refine is_AL ?_); (first | ((with_reducible refine is_assign ?_); (refine At_plain hF (by (first | exact (rfl : _ = some (Value.func _ _ _)) | exact (rfl : _ = some (Value.nilFunc)))) ?_)) | ((with_reducible refine is_func ?_); (refine At_func1 hF (by (exact (rfl : _ = (Value.pointer _)))) ?_)) | with_reducible refine At_nil ?_)) | ((with_reducible refine is_At ?_); (first | with_reducible refine At_seq ?_; intro K hK | with_reducible refine At_region ?_ | with_reducible refine At_ret ?_ | with_reducible refine At_then_n ?_ | with_reducible refine At_go (by assumption) ?_)))))
 exact At_ret1 rfl (rv_tmp (by decide)) (fun w' hw' => ⟨_, rfl, _, rfl, hw'⟩)
end Go.Proofs.Ytecgklfcblpkdaa.RB

/- robin.sorted, part 2: slices.SortFunc over a row of the call's own, and sorted itself. -/
namespace Go.Proofs.Ytecgklfcblpkdaa.RB
open Go.RowKit Go.Proofs.Ytecgklfcblpkdaa.P Go.Proofs.YtecgklfcblpkdaaW.PrintWords Go.Proofs.YtecgklfcblpkdaaW.PrintLast Go.Proofs.YtecgklfcblpkdaaW.PrintMore
open XW RegInv
attribute [local irreducible] Addr.add
set_option linter.unusedSimpArgs false
set_option linter.unusedVariables false
theorem cmpI_cases (a b : Int) : (Lib.compareInt a b = -1 ∧ a < b) ∨ (Lib.compareInt a b = 0 ∧ a = b) ∨ (Lib.compareInt a b = 1 ∧ b < a) := by
  unfold Lib.compareInt
  split
  · exact .inl ⟨rfl, by omega⟩
  · split
    · exact .inr (.inr ⟨rfl, by omega⟩)
    · exact .inr (.inl ⟨rfl, by omega⟩)
theorem lt_cfM (x y : S44) : Go.Proofs.ltOf cfM x y = true ↔ x.f0 < y.f0 ∨ (x.f0 = y.f0 ∧ x.f1 < y.f1) := by
  simp only [Go.Proofs.ltOf, cfM, cmpI, decide_eq_true_eq]
  rcases cmpI_cases x.f0 y.f0 with ⟨e, h⟩ | ⟨e, h⟩ | ⟨e, h⟩ <;> rcases cmpI_cases x.f1 y.f1 with ⟨e', h'⟩ | ⟨e', h'⟩ | ⟨e', h'⟩ <;> simp [e, e'] <;> omega
theorem nlt_cfM (x y : S44) : Go.Proofs.ltOf cfM x y = false ↔ ¬ (x.f0 < y.f0 ∨ (x.f0 = y.f0 ∧ x.f1 < y.f1)) := by
  rw [← lt_cfM]; simp
theorem swo_cfM : Go.Sort.SWO (Go.Proofs.ltOf cfM) := by
  refine ⟨fun x => ?_, fun x y z h1 h2 => ?_, fun x y z h1 h2 => ?_⟩
  · rw [nlt_cfM]; omega
  · rw [lt_cfM] at *; omega
  · rw [nlt_cfM] at *; omega
def SrtL (l : List S44) : Prop := l.Pairwise fun x y => x.f0 < y.f0 ∨ (x.f0 = y.f0 ∧ x.f1 ≤ y.f1)
theorem srt_of {l : List S44} {d' : Array S44} (hp : Go.Sort.PermIn 0 l.toArray.size l.toArray d') (hs : Go.Sort.SortedIn (Go.Proofs.ltOf cfM) 0 l.toArray.size d') : d'.toList.Perm l ∧ SrtL d'.toList := by
  obtain ⟨h1, _, h3⟩ := hp
  have e1 : d'.extract 0 l.toArray.size = d' := by rw [← h1]; simp
  have e2 : l.toArray.extract 0 l.toArray.size = l.toArray := by simp
  rw [e1, e2] at h3
  refine ⟨h3, ?_⟩
  unfold SrtL
  rw [List.pairwise_iff_getElem]
  intro i j hi hj hij
  have hi' : i < d'.size := by simpa using hi
  have hj' : j < d'.size := by simpa using hj
  have h := hs i j (Nat.zero_le _) hij (by rw [← h1]; exact hj')
  rw [nlt_cfM, getElem!_pos d' i hi', getElem!_pos d' j hj'] at h
  simp only [Array.getElem_toList]
  omega
set_option maxHeartbeats 4000000 in
theorem sort_rets {base w : World} {A : Option Nat} {c : Nat} {l : List S44} (hl : l.length ≤ 1000000) (hw : Mem base w [.row 44 3 enc44 A c l]) :
    Rets Try.prog 52 #[rowV A l.length c, .func (.func 42) #[] #[]] w fun u w' => ∃ l', (l'.Perm l ∧ SrtL l') ∧ Mem base w' [.row 44 3 enc44 A c l'] := by
  by_cases h0 : l.length = 0
  · have := List.eq_nil_of_length_eq_zero h0
    subst this
    refine (AnyF.slices_SortFunc_none Try.sortM (A.map fun b => ⟨b, 0, none⟩) c (.func (.func 42) #[] #[]) w).mono ?_
    rintro e w' ⟨rfl, rfl⟩
    exact ⟨_, rfl, [], ⟨.refl _, List.Pairwise.nil⟩, hw⟩
  · obtain ⟨b, junk, rfl, hj, h2, h3, h1, hm⟩ := hw.open 0 rfl (by omega)
    have hm0 : Mem base w [.obj b (.cells (buf enc44 l junk) 44 (0, 0))] := hm
    have hb := hm0.at_ 0 rfl
    have hlt : b < w.heap.size := get_lt hb
    refine (AnyQ.slices_SortFunc Try.sortM 3 Try.isAgg44 Try.sizeOf44 enc44 enc44_len (by intro x v hv; simp only [enc44, List.mem_cons, List.mem_nil_iff, or_false] at hv; rcases hv with rfl | rfl | rfl <;> rfl) cfM swo_cfM 42 #[] b 0 c l.toArray w (fun args w => E42 args w) ?_ (holdsK_of enc44_len (by omega) hb) hlt (by simp; omega)).mono ?_
    · intro m os dk hs x y
      rw [Array.append_empty]
      refine (order_exact x y _).mono ?_
      rintro e w' ⟨v, rfl, rfl, h⟩
      exact ⟨rfl, h⟩
    · rintro e w' ⟨rfl, d', n, os, hp, hs, rfl⟩
      obtain ⟨hp', hs'⟩ := srt_of hp hs
      have hlen : d'.toList.length = l.length := hp'.length_eq
      have hd : d' = d'.toList.toArray := by simp
      rw [hd]
      generalize d'.toList = l' at hp' hs' hlen
      have hat := sortWorldK_at (enc := enc44) (k := 3) (n := n) (os := os) enc44_len (by omega) hlen hb
      refine ⟨_, rfl, l', ⟨hp', hs'⟩, ?_⟩
      refine hw.step 0 rfl ((sortWorldK_chg w b n l'.toArray os).mono ?_) ⟨enc44_len, by omega, h3, junk, hat, by omega⟩ ?_
      · intro k _ hk; subst hk; rfl
      · intro k hk
        have : b = k := Option.some.inj hk
        subst this
        exact ⟨.inl rfl, get_lt hat⟩
end Go.Proofs.Ytecgklfcblpkdaa.RB

/- robin.sorted, part 3. -/
namespace Go.Proofs.Ytecgklfcblpkdaa.RB
open Go.RowKit Go.Proofs.Ytecgklfcblpkdaa.P Go.Proofs.YtecgklfcblpkdaaW.PrintWords Go.Proofs.YtecgklfcblpkdaaW.PrintLast Go.Proofs.YtecgklfcblpkdaaW.PrintMore
open XW RegInv
attribute [local irreducible] Addr.add
set_option linter.unusedSimpArgs false
set_option linter.unusedVariables false
set_option maxHeartbeats 4000000 in
theorem sortedF_rets (w0 : World) (b2 : Nat) (A : Option Addr) (c : Nat) (l : List S44) (hbox : w0.cell? ⟨b2, 0, none⟩ = some (.slice A l.length c)) (hr : Kd.C k44 w0 A l.length l) (hlen : l.length ≤ 1000000) :
    Rets Try.prog 47 #[.func (.func 53) #[] #[ip b2], .func (.func 42) #[] #[]] w0 fun u w' => ∃ A' c' l', u = rowV A' l.length c' ∧ (l'.Perm l ∧ SrtL l') ∧ Mem w0 w' [.row 44 3 enc44 A' c' l'] := by
  have hF := wide_wide
  refine rets_at (n := 12) Try.func47 rfl Try.ntmps47 (by simp) ?_
  (repeat (first | ((with_reducible refine is_AL ?_); (first | ((with_reducible refine is_move ?_); (refine At_plain hF (by (exact (rfl : _ = some (Value.func _ _ _)))) ?_)) | ((with_reducible refine is_assign ?_); (refine At_plain hF (by (exact (rfl : _ = some (Value.slice _ _ _)))) ?_)) | with_reducible refine At_nil ?_)) | ((with_reducible refine is_At ?_); (first | with_reducible refine At_seq ?_; intro K hK | with_reducible refine At_region ?_ | with_reducible refine At_then_n ?_ | with_reducible refine At_go (by assumption) ?_))))
  refine At_callM hF E51 rfl (Post := fun u Rs => ∃ A' c', u = rowV A' l.length c' ∧ Rs = [.row 44 3 enc44 A' c' l]) (arg1 (by (first | exact (rfl : _ = (Value.int _ _)) | exact (rfl : _ = (Value.bool _)) | exact (rfl : _ = (Value.pointer _)) | exact (rfl : _ = (Value.slice _ _ _)) | exact (rfl : _ = (Value.map _)) | exact (rfl : _ = (Value.func _ _ _)) | exact (rfl : _ = (Value.tuple _)) | exact (rfl : _ = (Value.agg _)) | exact (rfl : _ = (Value.string _)) | exact (rfl : _ = (Value.nilFunc)) | exact (rfl : _ = (Value.nilIface))))) (fun w' hw' => (collect_rets w' b2 A c l (cell_laterS hw'.below hbox) (Kd.C_below hr hw'.below) hlen).mono ?_) ?_
  · rintro _ w2 ⟨_, rfl, A', c', rfl, h⟩
    exact ⟨_, rfl, _, ⟨A', c', rfl, rfl⟩, h⟩
  rintro _ _ ⟨A', c', rfl, rfl⟩
  simp only [List.cons_append, List.nil_append]
  (repeat (first | ((with_reducible refine is_AL ?_); (first | ((with_reducible refine is_move ?_); (refine At_plain hF (by (first | exact (rfl : _ = some (Value.slice _ _ _)) | exact (rfl : _ = some (Value.func _ _ _)))) ?_)) | ((with_reducible refine is_assign ?_); (refine At_plain hF (by (exact (rfl : _ = some (Value.slice _ _ _)))) ?_)) | with_reducible refine At_nil ?_)) | ((with_reducible refine is_At ?_); (first | with_reducible refine At_seq ?_; intro K hK | with_reducible refine At_region ?_ | with_reducible refine At_then_n ?_ | with_reducible refine At_go (by assumption) ?_))))
  refine At_callG hF E52 rfl (Post := fun u Rs => ∃ l', (l'.Perm l ∧ SrtL l') ∧ Rs = [.row 44 3 enc44 A' c' l']) (arg2 (by (first | exact (rfl : _ = (Value.int _ _)) | exact (rfl : _ = (Value.bool _)) | exact (rfl : _ = (Value.pointer _)) | exact (rfl : _ = (Value.slice _ _ _)) | exact (rfl : _ = (Value.map _)) | exact (rfl : _ = (Value.func _ _ _)) | exact (rfl : _ = (Value.tuple _)) | exact (rfl : _ = (Value.agg _)) | exact (rfl : _ = (Value.string _)) | exact (rfl : _ = (Value.nilFunc)) | exact (rfl : _ = (Value.nilIface)))) (by (first | exact (rfl : _ = (Value.int _ _)) | exact (rfl : _ = (Value.bool _)) | exact (rfl : _ = (Value.pointer _)) | exact (rfl : _ = (Value.slice _ _ _)) | exact (rfl : _ = (Value.map _)) | exact (rfl : _ = (Value.func _ _ _)) | exact (rfl : _ = (Value.tuple _)) | exact (rfl : _ = (Value.agg _)) | exact (rfl : _ = (Value.string _)) | exact (rfl : _ = (Value.nilFunc)) | exact (rfl : _ = (Value.nilIface))))) (fun w' hw' => (sort_rets hlen hw').mono ?_) ?_
  · rintro _ w2 ⟨_, rfl, l', h1, h⟩
    exact ⟨_, rfl, _, ⟨l', h1, rfl⟩, h⟩
  rintro u _ ⟨l', hl', rfl⟩
  (repeat (first | ((with_reducible refine is_AL ?_); (first | ((with_reducible refine is_move ?_); (refine At_plain hF (by (exact (rfl : _ = some (Value.slice _ _ _)))) ?_)) | ((with_reducible refine is_assign ?_); (refine At_plain hF (by (exact (rfl : _ = some (Value.slice _ _ _)))) ?_)) | with_reducible refine At_nil ?_)) | ((with_reducible refine is_At ?_); (first | with_reducible refine At_seq ?_; intro K hK | with_reducible refine At_region ?_ | with_reducible refine At_ret ?_ | with_reducible refine At_then_n ?_ | with_reducible refine At_go (by assumption) ?_))))
  exact At_ret1 rfl (rv_tmp (by decide)) (fun w' hw' => ⟨_, rfl, _, _, _, rfl, hl', hw'⟩)
set_option maxHeartbeats 4000000 in
theorem sorted_rets (w0 : World) (A : Option Addr) (c : Nat) (l : List S44) (hr : Kd.C k44 w0 A l.length l) (hlen : l.length ≤ 1000000) :
    Rets Try.prog 41 #[.slice A l.length c, .func (.func 42) #[] #[]] w0 fun u w' => ∃ A' c' l', u = rowV A' l.length c' ∧ (l'.Perm l ∧ SrtL l') ∧ Mem w0 w' [.row 44 3 enc44 A' c' l'] := by
  have hF := wide_wide
  refine rets_at (n := 9) Try.func41 rfl Try.ntmps41 (by simp) ?_
  (repeat (first | ((with_reducible refine is_AL ?_); (first | ((with_reducible refine is_move ?_); (refine At_plain hF (by (exact (rfl : _ = some (Value.slice _ _ _)))) ?_)) | ((with_reducible refine is_assign ?_); (refine At_plain hF (by (exact (rfl : _ = some (Value.slice _ _ _)))) ?_)) | with_reducible refine At_nil ?_)) | ((with_reducible refine is_At ?_); (first | with_reducible refine At_seq ?_; intro K hK | with_reducible refine At_region ?_ | with_reducible refine At_then_n ?_ | with_reducible refine At_go (by assumption) ?_))))
  refine At_callM hF E48 rfl (Post := fun u Rs => ∃ b2, u = .func (.func 53) #[] #[ip b2] ∧ Rs = [.obj b2 (.cells #[.slice A l.length c] 22 (0, 0))]) (arg1 (by (first | exact (rfl : _ = (Value.int _ _)) | exact (rfl : _ = (Value.bool _)) | exact (rfl : _ = (Value.pointer _)) | exact (rfl : _ = (Value.slice _ _ _)) | exact (rfl : _ = (Value.map _)) | exact (rfl : _ = (Value.func _ _ _)) | exact (rfl : _ = (Value.tuple _)) | exact (rfl : _ = (Value.agg _)) | exact (rfl : _ = (Value.string _)) | exact (rfl : _ = (Value.nilFunc)) | exact (rfl : _ = (Value.nilIface))))) (fun w' hw' => (values_rets w' A l.length c).mono ?_) ?_
  · rintro _ w2 ⟨_, rfl, b2, rfl, h⟩
    exact ⟨_, rfl, _, ⟨b2, rfl, rfl⟩, h⟩
  rintro _ _ ⟨b2, rfl, rfl⟩
  simp only [List.cons_append, List.nil_append]
  (repeat ((with_reducible refine is_AL ?_); ((with_reducible refine is_move ?_); (refine At_plain hF (by (exact (rfl : _ = some (Value.func _ _ _)))) ?_))))
  refine At_callM hF E47 rfl (Post := fun u Rs => ∃ A' c' l', u = rowV A' l.length c' ∧ (l'.Perm l ∧ SrtL l') ∧ Rs = [.row 44 3 enc44 A' c' l']) (arg2 (by (first | exact (rfl : _ = (Value.int _ _)) | exact (rfl : _ = (Value.bool _)) | exact (rfl : _ = (Value.pointer _)) | exact (rfl : _ = (Value.slice _ _ _)) | exact (rfl : _ = (Value.map _)) | exact (rfl : _ = (Value.func _ _ _)) | exact (rfl : _ = (Value.tuple _)) | exact (rfl : _ = (Value.agg _)) | exact (rfl : _ = (Value.string _)) | exact (rfl : _ = (Value.nilFunc)) | exact (rfl : _ = (Value.nilIface)))) (by (first | exact (rfl : _ = (Value.int _ _)) | exact (rfl : _ = (Value.bool _)) | exact (rfl : _ = (Value.pointer _)) | exact (rfl : _ = (Value.slice _ _ _)) | exact (rfl : _ = (Value.map _)) | exact (rfl : _ = (Value.func _ _ _)) | exact (rfl : _ = (Value.tuple _)) | exact (rfl : _ = (Value.agg _)) | exact (rfl : _ = (Value.string _)) | exact (rfl : _ = (Value.nilFunc)) | exact (rfl : _ = (Value.nilIface))))) (fun w' hw' => (sortedF_rets w' b2 A c l (cell_of (hw'.at_ 0 rfl) rfl) (Kd.C_below hr hw'.below) hlen).mono ?_) ?_
  · rintro _ w2 ⟨_, rfl, A', c', l', rfl, h1, h⟩
    exact ⟨_, rfl, _, ⟨A', c', l', rfl, h1, rfl⟩, h⟩
  rintro _ _ ⟨A', c', l', rfl, hl', rfl⟩
  simp only [List.cons_append, List.nil_append]
  (repeat (first | ((with_reducible refine is_AL ?_); (first | ((with_reducible refine is_assign ?_); (refine At_plain hF (by (exact (rfl : _ = some (Value.slice _ _ _)))) ?_)) | with_reducible refine At_nil ?_)) | ((with_reducible refine is_At ?_); (first | with_reducible refine At_ret ?_ | with_reducible refine At_then_n ?_ | with_reducible refine At_go (by assumption) ?_))))
  exact At_ret1 rfl (rv_tmp (by decide)) (fun w' hw' => ⟨_, rfl, _, _, _, rfl, hl', hw'.sub (List.Sublist.cons_cons _ (List.nil_sublist _))⟩)
end Go.Proofs.Ytecgklfcblpkdaa.RB

/- robin.turned. -/
namespace Go.Proofs.Ytecgklfcblpkdaa.RB
open Go.RowKit Go.Proofs.Ytecgklfcblpkdaa.P Go.Proofs.YtecgklfcblpkdaaW.PrintWords Go.Proofs.YtecgklfcblpkdaaW.PrintLast Go.Proofs.YtecgklfcblpkdaaW.PrintMore
open XW RegInv
attribute [local irreducible] Addr.add
set_option linter.unusedSimpArgs false
set_option linter.unusedVariables false
theorem C_of44 {w : World} {A : Option Nat} {c e : Nat} {l : List S44} (h : RowOk e 3 enc44 A c l w) : Kd.C k44 w (A.map fun b => ⟨b, 0, none⟩) l.length l := by
  obtain ⟨h1, h2, h3, h4⟩ := h
  refine ⟨rfl, by have : maxLen ≤ 9223372036854775807 := (by decide); omega, fun h0 => ?_⟩
  cases A with
  | none => obtain ⟨rfl, _⟩ := h4; simp at h0
  | some b =>
    obtain ⟨junk, hb, hl⟩ := h4
    refine ⟨⟨b, 0, none⟩, rfl, fun j x hx => ⟨enc44 x, rfl, k44_mk w x, fun i u hu => ?_⟩⟩
    have hj := (List.getElem?_eq_some_iff.1 hx).1
    have e : l.getD j default = x := by rw [List.getD_eq_getElem?_getD, hx]; rfl
    have := get_flat enc44_len default l j hj (j := i) (v := u) (by rw [e]; exact hu)
    rw [XW.add_plain, Nat.zero_add, show k44.sz = 3 from rfl]
    refine cell_of hb ?_
    rw [buf, List.getElem?_toArray, List.getElem?_append_left (List.getElem?_eq_some_iff.1 this).1]
    exact this
theorem C_own44 {base w : World} {R : List Res} {e : TypeId} {A : Option Nat} {c : Nat} {l : List S44} (hw : Mem base w R) (hm : Res.row e 3 enc44 A c l ∈ R) : Kd.C k44 w (A.map fun b => ⟨b, 0, none⟩) l.length l := C_of44 (hw.ok _ hm)
instance tb44 : TB Try.prog 44 := ⟨[(0, 1), (1, 1), (2, 1)], by
  obtain ⟨i, h1, h2, _⟩ := inf3
  exact ⟨_, Try.underlying44, fun W => by simp [Go.sizeOf, typeInfo, program, h1, h2, Sem.run_bind, Sem.run, Result.andThen]⟩⟩
def trn (r : Int) (x : S44) : S44 := ⟨r, x.f2, x.f1⟩
theorem E40 : Enters Try.prog 40 := enters Try.func40 (by kernel_rfl) rfl
set_option maxHeartbeats 4000000 in
theorem turned_rets (w0 : World) (A : Option Addr) (c : Nat) (l : List S44) (r : Int) (hr : Kd.C k44 w0 A l.length l) (hlen : l.length ≤ 1000000) :
    Rets Try.prog 40 #[.slice A l.length c, .int .i64 r] w0 fun u w' => ∃ A' c' l', u = rowV A' l.length c' ∧ (l'.Perm (l.map (trn r)) ∧ SrtL l') ∧ Mem w0 w' [.row 44 3 enc44 A' c' l'] := by
  have hF := wide_wide
  refine rets_at (n := 25) Try.func40 rfl Try.ntmps40 (by simp) ?_
  refine At.newNil 44 3 enc44 enc44_len ?_
  (repeat (first | ((with_reducible refine is_AL ?_); (first | ((with_reducible refine is_move ?_); (refine At_plain hF (by (first | exact (rfl : _ = some (Value.int _ _)) | exact (rfl : _ = some (Value.slice _ _ _)))) ?_)) | ((with_reducible refine is_assign ?_); (refine At_plain hF (by (exact (rfl : _ = some (Value.slice _ _ _)))) ?_)) | ((with_reducible refine is_call ?_); (refine At_len hF rfl ?_)) | with_reducible refine At_nil ?_)) | ((with_reducible refine is_At ?_); (first | with_reducible refine At_seq ?_; intro K hK | with_reducible refine At_block ?_ | with_reducible refine At_region ?_ | with_reducible refine At_then_n ?_ | with_reducible refine At_go (by assumption) ?_))))
  refine At_loop (fun st : Nat × Option Nat × Nat => [(0, .slice A l.length c), (1, .int .i64 r), (4, rowV st.2.1 st.1 st.2.2), (7, .slice A l.length c), (8, .int .i64 l.length), (9, .int .i64 st.1)]) (fun st => [.row 44 3 enc44 st.2.1 st.2.2 ((l.take st.1).map (trn r))]) (fun st => st.1 ≤ l.length) (fun st => l.length - st.1) (0, none, 0) ?_ ?_ (Nat.zero_le _) ?_
  · (repeat (first | exact List.Sublist.refl _ | exact List.Sublist.slnil | refine List.Sublist.cons_cons _ ?_ | refine List.Sublist.cons _ ?_))
  · (repeat (first | exact True.intro | (refine And.intro ?_ ?_; focus (show _ = (_ : Value); first | exact rfl | (refine Eq.trans (b := Value.int IntKind.i64 _) rfl (congrArg (Value.int IntKind.i64) ?_); omega)))))
  rintro ⟨i, A1, c1⟩ hi K hL ρ1
  simp only at hi
  try dsimp only
  (repeat (first | ((with_reducible refine is_AL ?_); (first | ((with_reducible refine is_bin ?_); (refine At_plain hF (by (exact (rfl : _ = some (Value.bool _)))) ?_)) | with_reducible refine At_nil ?_)) | ((with_reducible refine is_At ?_); (first | with_reducible refine At_seq ?_; intro K hK | with_reducible refine At_region ?_ | with_reducible refine At_then_n ?_ | with_reducible refine At_go (by assumption) ?_))))
  ((with_reducible refine is_cond ?_); (refine At_cond rfl ?_ ?_ <;> (intro hg; try (simp only [decide_eq_true_eq, decide_eq_false_iff_not, beq_iff_eq, bne_iff_ne, beq_eq_false_iff_ne, bne_eq_false_iff_eq, ne_eq, Bool.not_eq_true', Bool.not_eq_false', Bool.not_true, Bool.not_false, Decidable.not_not] at hg); try (exfalso; first | omega | exact hg True.intro))))
  · have hlt : i < l.length := by omega
    obtain ⟨ad, hA, hcell⟩ := C_flat (enc := enc44) (fun h => k44_open h) hr z44 i hlt
    have htk : l.take (i + 1) = l.take i ++ [l.getD i z44] := take_snocS l i z44 hlt
    generalize l.getD i z44 = x at hcell htk
    have hyl : ((l.take i).map (trn r)).length = i := by simp; omega
    (repeat (first | ((with_reducible refine is_AL ?_); ((with_reducible refine is_index ?_); (refine At_indexC hF rfl (by assumption) rfl (by omega) ?_))) | ((with_reducible refine is_At ?_); (first | with_reducible refine At_seq ?_; intro K hK | with_reducible refine At_block ?_ | with_reducible refine At_region ?_ | with_reducible refine At_skip ?_ | with_reducible refine At_then_n ?_ | with_reducible refine At_go (by assumption) ?_))))
    refine At_loadCS (vs := [.int .i64 x.f0, .int .i64 x.f1, .int .i64 x.f2]) hF (by exact rfl) (by exact rfl) hcell ?_
    clear hA hcell
    ((repeat (first | ((with_reducible refine is_AL ?_); (first | ((with_reducible refine is_move ?_); (refine At_plain hF (by (first | exact (rfl : _ = some (Value.int _ _)) | exact (rfl : _ = some (Value.slice _ _ _)))) ?_)) | ((with_reducible refine is_field ?_); (refine At_field hF rfl ?_)) | ((with_reducible refine is_load ?_); (refine At_load hF 0 (by exact rfl) rfl (by (exact (rfl : _ = some (Value.int _ _)))) ?_)) | ((with_reducible refine is_store ?_); (refine At_storeB_0 hF rfl rfl rfl rfl (by simp [Value.one1, epair]) ?_)) | with_reducible refine At_nil ?_)) | ((with_reducible refine is_At ?_); (first | with_reducible refine At_region ?_ | with_reducible refine At_then_n ?_ | with_reducible refine At_go (by assumption) ?_)))); ((with_reducible refine is_alloc ?_); (refine At_alloc hF (by (exact (rfl : _ = List.toArray (_ :: _)))) ?_; intro b4)); (repeat (first | ((with_reducible refine is_AL ?_); (first | ((with_reducible refine is_move ?_); (refine At_plain hF (by (first | exact (rfl : _ = some (Value.int _ _)) | exact (rfl : _ = some (Value.slice _ _ _)))) ?_)) | ((with_reducible refine is_field ?_); (refine At_field hF rfl ?_)) | ((with_reducible refine is_load ?_); (refine At_load hF 0 (by exact rfl) rfl (by (exact (rfl : _ = some (Value.int _ _)))) ?_)) | ((with_reducible refine is_store ?_); (refine At_storeB_0 hF rfl rfl rfl rfl (by simp [Value.one1, epair]) ?_)) | with_reducible refine At_nil ?_)) | ((with_reducible refine is_At ?_); (first | with_reducible refine At_region ?_ | with_reducible refine At_then_n ?_ | with_reducible refine At_go (by assumption) ?_)))))
    refine At_buildS hF (cs := #[.int .i64 r, .int .i64 x.f2, .int .i64 x.f1]) (by exact rfl) (by exact rfl) ?_
    (skip; ((with_reducible refine is_bslice ?_); (refine At_sliceA_1 hF (by decide) rfl rfl ?_; intro b6)); skip)
    refine At_append_2 hF 0 rfl rfl hyl.symm rfl (x0 := trn r x) rfl (by decide) (by simp [Value.one1]) (by simp only [TS.bytes]; omega) (by omega) ?_
    intro A2 c2
    rw [hyl, show (l.take i).map (trn r) ++ [trn r x] = (l.take (i + 1)).map (trn r) by rw [htk]; simp]
    (repeat (first | ((with_reducible refine is_AL ?_); (first | ((with_reducible refine is_move ?_); (refine At_plain hF (by (exact (rfl : _ = some (Value.int _ _)))) ?_)) | ((with_reducible refine is_bin ?_); ((with_reducible refine is_badd ?_); (refine At_add hF rfl rfl (by omega) ?_))) | ((with_reducible refine is_assign ?_); (refine At_plain hF (by (exact (rfl : _ = some (Value.slice _ _ _)))) ?_)) | with_reducible refine At_nil ?_)) | ((with_reducible refine is_At ?_); (first | with_reducible refine At_region ?_ | with_reducible refine At_then_n ?_ | with_reducible refine At_inb_n ?_ | with_reducible refine At_go (by assumption) ?_))))
    refine At.sub ?_ (hL (i + 1, A2, c2) _ (by simp only; omega) (by simp only; omega) ?_)
    · (repeat (first | exact List.Sublist.refl _ | exact List.Sublist.slnil | refine List.Sublist.cons_cons _ ?_ | refine List.Sublist.cons _ ?_))
    · (repeat (first | exact True.intro | (refine And.intro ?_ ?_; focus (show _ = (_ : Value); first | exact rfl | (refine Eq.trans (b := Value.int IntKind.i64 _) rfl (congrArg (Value.int IntKind.i64) ?_); omega)))))
  obtain rfl : i = l.length := by omega
  rw [List.take_length]
  (repeat (first | ((with_reducible refine is_AL ?_); ((with_reducible refine is_move ?_); (refine At_plain hF (by (exact (rfl : _ = some (Value.slice _ _ _)))) ?_))) | ((with_reducible refine is_At ?_); (first | with_reducible refine At_seq ?_; intro K hK | with_reducible refine At_region ?_ | with_reducible refine At_exit ?_ | with_reducible refine At_then_n ?_ | with_reducible refine At_then_e ?_ | with_reducible refine At_inb_e rfl ?_ | with_reducible refine At_go (by assumption) ?_))))
  have hml : (l.map (trn r)).length = l.length := by simp
  refine At_callM hF E41 rfl (Post := fun u Rs => ∃ A' c' l', u = rowV A' l.length c' ∧ (l'.Perm (l.map (trn r)) ∧ SrtL l') ∧ Rs = [.row 44 3 enc44 A' c' l']) (arg2 (by (first | exact (rfl : _ = (Value.int _ _)) | exact (rfl : _ = (Value.bool _)) | exact (rfl : _ = (Value.pointer _)) | exact (rfl : _ = (Value.slice _ _ _)) | exact (rfl : _ = (Value.map _)) | exact (rfl : _ = (Value.func _ _ _)) | exact (rfl : _ = (Value.tuple _)) | exact (rfl : _ = (Value.agg _)) | exact (rfl : _ = (Value.string _)) | exact (rfl : _ = (Value.nilFunc)) | exact (rfl : _ = (Value.nilIface)))) (by (first | exact (rfl : _ = (Value.int _ _)) | exact (rfl : _ = (Value.bool _)) | exact (rfl : _ = (Value.pointer _)) | exact (rfl : _ = (Value.slice _ _ _)) | exact (rfl : _ = (Value.map _)) | exact (rfl : _ = (Value.func _ _ _)) | exact (rfl : _ = (Value.tuple _)) | exact (rfl : _ = (Value.agg _)) | exact (rfl : _ = (Value.string _)) | exact (rfl : _ = (Value.nilFunc)) | exact (rfl : _ = (Value.nilIface))))) (fun w' hw' => ?_) ?_
  · have hc := C_own44 hw' (List.mem_cons_self ..)
    rw [hml] at hc
    have := sorted_rets w' _ c1 (l.map (trn r)) (by rw [hml]; exact hc) (by rw [hml]; exact hlen)
    rw [hml] at this
    refine this.mono ?_
    rintro _ w2 ⟨_, rfl, A', c', l', rfl, h1, h⟩
    exact ⟨_, rfl, _, ⟨A', c', l', rfl, h1, rfl⟩, h⟩
  rintro _ _ ⟨A', c', l', rfl, hl', rfl⟩
  simp only [List.cons_append, List.nil_append]
  (repeat (first | ((with_reducible refine is_AL ?_); (first | ((with_reducible refine is_assign ?_); (refine At_plain hF (by (exact (rfl : _ = some (Value.slice _ _ _)))) ?_)) | with_reducible refine At_nil ?_)) | ((with_reducible refine is_At ?_); (first | with_reducible refine At_ret ?_ | with_reducible refine At_then_n ?_ | with_reducible refine At_go (by assumption) ?_))))
  exact At_ret1 rfl (rv_tmp (by decide)) (fun w' hw' => ⟨_, rfl, _, _, _, rfl, hl', hw'.sub (List.Sublist.cons_cons _ (List.nil_sublist _))⟩)
end Go.Proofs.Ytecgklfcblpkdaa.RB

/- robin's circle: the closure that adds a meeting. -/
namespace Go.Proofs.Ytecgklfcblpkdaa.RB
open Go.RowKit Go.Proofs.Ytecgklfcblpkdaa.P Go.Proofs.YtecgklfcblpkdaaW.PrintWords Go.Proofs.YtecgklfcblpkdaaW.PrintLast Go.Proofs.YtecgklfcblpkdaaW.PrintMore
open XW RegInv
attribute [local irreducible] Addr.add
set_option linter.unusedSimpArgs false
set_option linter.unusedVariables false
def addM (r a b : Int) (home : Bool) : S44 := if home then ⟨r, a, b⟩ else ⟨r, b, a⟩
theorem E46 : Enters Try.prog 46 := enters Try.func46 (by kernel_rfl) rfl
set_option maxHeartbeats 4000000 in
theorem add_rets {base w : World} {R : List Res} {bl br : Nat} {A : Option Nat} {c : Nat} {l : List S44} {r : Int} (a b : Int) (home : Bool) (hl : l.length ≤ 1000000) (hw : Mem base w (.obj bl (.cells #[rowV A l.length c] 22 (0, 0)) :: .obj br (.cells #[.int .i64 r] 3 (0, 0)) :: .row 44 3 enc44 A c l :: R)) :
    Rets Try.prog 46 #[.int .i64 a, .int .i64 b, .bool home, ip bl, ip br] w fun u w' => ∃ A' c', Mem base w' (.obj bl (.cells #[rowV A' (l ++ [addM r a b home]).length c'] 22 (0, 0)) :: .obj br (.cells #[.int .i64 r] 3 (0, 0)) :: .row 44 3 enc44 A' c' (l ++ [addM r a b home]) :: R) := by
  have hF := wide_wide
  refine rets_at' (n := 19) hw Try.func46 rfl Try.ntmps46 (by simp) ?_
  cases home with
  | true =>
    (repeat (first | ((with_reducible refine is_AL ?_); (first | ((with_reducible refine is_move ?_); (refine At_plain hF (by (first | exact (rfl : _ = some (Value.int _ _)) | exact (rfl : _ = some (Value.bool _)))) ?_)) | ((with_reducible refine is_un ?_); (refine At_plain hF (by (exact (rfl : _ = some (Value.bool _)))) ?_)) | ((with_reducible refine is_load ?_); (first | refine At_load hF 0 (by exact rfl) rfl (by (exact (rfl : _ = some (Value.slice _ _ _)))) ?_ | refine At_load hF 1 (by exact rfl) rfl (by (exact (rfl : _ = some (Value.int _ _)))) ?_)) | with_reducible refine At_nil ?_)) | ((with_reducible refine is_At ?_); (first | with_reducible refine At_seq ?_; intro K hK | with_reducible refine At_region ?_ | with_reducible refine At_skip ?_ | with_reducible refine At_then_n ?_ | with_reducible refine At_go (by assumption) ?_ | ((with_reducible refine is_cond ?_); (refine At_cond_f rfl ?_))))))
    refine At_buildS hF (cs := #[.int .i64 r, .int .i64 a, .int .i64 b]) (by exact rfl) (by exact rfl) ?_
    (skip; ((with_reducible refine is_bslice ?_); (refine At_sliceA_1 hF (by decide) rfl rfl ?_; intro b1)); skip)
    refine At_append_3 hF 0 rfl rfl rfl rfl (x0 := addM r a b true) rfl (by decide) (by simp [Value.one1]) (by simp only [TS.bytes]; omega) (by omega) ?_
    intro A2 c2
    rw [show l.length + 1 = (l ++ [addM r a b true]).length by simp]
    (repeat ((with_reducible refine is_AL ?_); (first | ((with_reducible refine is_store ?_); (refine At_store_1 hF rfl (by (exact (rfl : _ = (Value.slice _ _ _)))) (by (exact of_decide_eq_true rfl)) (by exact rfl) (by exact rfl) (by (exact (rfl : _ = List.toArray (_ :: _)))) ?_)) | with_reducible refine At_nil ?_)))
    exact At_fin0n rfl (fun w' hw' => ⟨_, rfl, A2, c2, hw'.sub (List.sublist_cons_self _ _)⟩)
  | false =>
    (repeat (first | ((with_reducible refine is_AL ?_); (first | ((with_reducible refine is_move ?_); (refine At_plain hF (by (first | exact (rfl : _ = some (Value.int _ _)) | exact (rfl : _ = some (Value.bool _)))) ?_)) | ((with_reducible refine is_assign ?_); (refine At_plain hF (by (exact (rfl : _ = some (Value.int _ _)))) ?_)) | ((with_reducible refine is_un ?_); (refine At_plain hF (by (exact (rfl : _ = some (Value.bool _)))) ?_)) | ((with_reducible refine is_load ?_); (first | refine At_load hF 0 (by exact rfl) rfl (by (exact (rfl : _ = some (Value.slice _ _ _)))) ?_ | refine At_load hF 1 (by exact rfl) rfl (by (exact (rfl : _ = some (Value.int _ _)))) ?_)) | with_reducible refine At_nil ?_)) | ((with_reducible refine is_At ?_); (first | with_reducible refine At_seq ?_; intro K hK | with_reducible refine At_region ?_ | with_reducible refine At_then_n ?_ | with_reducible refine At_go (by assumption) ?_ | ((with_reducible refine is_cond ?_); (refine At_cond_t rfl ?_))))))
    refine At_buildS hF (cs := #[.int .i64 r, .int .i64 b, .int .i64 a]) (by exact rfl) (by exact rfl) ?_
    (skip; ((with_reducible refine is_bslice ?_); (refine At_sliceA_1 hF (by decide) rfl rfl ?_; intro b1)); skip)
    refine At_append_3 hF 0 rfl rfl rfl rfl (x0 := addM r a b false) rfl (by decide) (by simp [Value.one1]) (by simp only [TS.bytes]; omega) (by omega) ?_
    intro A2 c2
    rw [show l.length + 1 = (l ++ [addM r a b false]).length by simp]
    (repeat ((with_reducible refine is_AL ?_); (first | ((with_reducible refine is_store ?_); (refine At_store_1 hF rfl (by (exact (rfl : _ = (Value.slice _ _ _)))) (by (exact of_decide_eq_true rfl)) (by exact rfl) (by exact rfl) (by (exact (rfl : _ = List.toArray (_ :: _)))) ?_)) | with_reducible refine At_nil ?_)))
    exact At_fin0n rfl (fun w' hw' => ⟨_, rfl, A2, c2, hw'.sub (List.sublist_cons_self _ _)⟩)
end Go.Proofs.Ytecgklfcblpkdaa.RB

/- robin's circle: the rounds, as an iterator. -/
namespace Go.Proofs.Ytecgklfcblpkdaa.RB
open Go.RowKit Go.Proofs.Ytecgklfcblpkdaa.P Go.Proofs.YtecgklfcblpkdaaW.PrintWords Go.Proofs.YtecgklfcblpkdaaW.PrintLast Go.Proofs.YtecgklfcblpkdaaW.PrintMore
open XW RegInv
attribute [local irreducible] Addr.add
set_option linter.unusedSimpArgs false
set_option linter.unusedVariables false
theorem _root_.XW.Mem.rot3 {base w : World} {a b c : Res} {R : List Res} (h : Mem base w (a :: b :: c :: R)) : Mem base w (b :: c :: a :: R) := h.perm ((List.Perm.swap b a (c :: R)).trans ((List.Perm.swap c a R).cons b)).symm
def rndK (R r : Nat) : Nat → List S44
 | 0 => []
 | k + 1 => rndK R r k ++ [addM r (((r + (k + 1)) % R : Nat) : Int) (((r + R - (k + 1)) % R : Nat) : Int) ((k + 1) % 2 == 1)]
def rnd0 (n r : Nat) : List S44 := if n % 2 = 0 then [addM r ((n - 1 : Nat) : Int) r (r % 2 == 1)] else []
def rndL (n R r : Nat) : List S44 := rnd0 n r ++ rndK R r ((R - 1) / 2)
theorem rndK_len (R r k : Nat) : (rndK R r k).length = k := by induction k with
 | zero => rfl
 | succ k ih => simp [rndK, ih]
theorem rnd0_len (n r : Nat) : (rnd0 n r).length ≤ 1 := by unfold rnd0; split <;> simp
abbrev Rnd := Nat × (Option Nat × Nat) × List S44
def argsR (x : Rnd) : Array Value := #[.int .i64 x.1, rowV x.2.1.1 x.2.2.length x.2.1.2]
def GvR (x : Rnd) (Ri : List Res) : Prop := ∃ Ri', Ri = .row 44 3 enc44 x.2.1.1 x.2.1.2 x.2.2 :: Ri'
def okR (n R : Nat) (xs : List Rnd) : Prop := xs.length ≤ R ∧ ∀ (i : Nat) (x : Rnd), xs[i]? = some x → x.1 = i ∧ (x.2.2.Perm (rndL n R i) ∧ SrtL x.2.2)
theorem okR_snoc {n R : Nat} {xs : List Rnd} {x : Rnd} (h : okR n R xs) (hl : xs.length < R) (hx : x.1 = xs.length ∧ (x.2.2.Perm (rndL n R xs.length) ∧ SrtL x.2.2)) : okR n R (xs ++ [x]) := by
 refine ⟨by simp; omega, fun i y hy => ?_⟩
 rcases Nat.lt_trichotomy i xs.length with h1 | h1 | h1
 ·rw [List.getElem?_append_left h1] at hy; exact h.2 i y hy
 ·subst h1
  rw [List.getElem?_append_right (Nat.le_refl _)] at hy
  simp at hy; subst hy; exact hx
 ·rw [List.getElem?_append_right (by omega)] at hy
  rw [List.getElem?_eq_none (by simp; omega)] at hy; cases hy
theorem E45 : Enters Try.prog 45 := enters Try.func45 (by kernel_rfl) rfl
set_option maxHeartbeats 4000000 in
theorem all_iter {F : Fence} (hF : Wide F) (ha : F.alive = false) (hro : F.round = none) (base : World) (bc n R : Nat) (hn : n ≤ 1000) (hn1 : 1 ≤ n) (hR : R ≤ 1001) (hR0 : 0 < R) (hR2 : R % 2 = 1) :
  IterOkG F Try.prog 45 #[ip bc] base [.obj bc (.cells #[.int .i64 n, .int .i64 R] 70 (0, 0))] argsR GvR (okR n R) (fun xs => okR n R xs ∧ xs.length = R) := by
 intro σ lp Rc φ ψ hy s0 h0 w hw
 refine callsIn_at (n := 60) hF hro hw Try.func45 rfl Try.ntmps45 (by simp) ?_
 simp only [List.cons_append, List.nil_append]
 (repeat (first | ((with_reducible refine is_AL ?_); (first | ((with_reducible refine is_move ?_); (refine At_plain hF (by (exact (rfl : _ = some (Value.int _ _)))) ?_)) | ((with_reducible refine is_field ?_); (refine At_field hF rfl ?_)) | ((with_reducible refine is_load ?_); (refine At_load hF 0 (by exact rfl) rfl (by (exact (rfl : _ = some (Value.int _ _)))) ?_)) | with_reducible refine At_nil ?_)) | ((with_reducible refine is_At ?_); (first | with_reducible refine At_seq ?_; intro K hK | with_reducible refine At_block ?_ | with_reducible refine At_region ?_ | with_reducible refine At_then_n ?_ | with_reducible refine At_go (by assumption) ?_))))
 refine At_loop (fun st : List Rnd × σ => [(0, .func (.yield lp) #[] #[]), (1, ip bc), (8, .int .i64 R), (9, .int .i64 st.1.length)]) (fun st => .obj bc (.cells #[.int .i64 n, .int .i64 R] 70 (0, 0)) :: Rc st.2) (fun st => okR n R st.1 ∧ φ st.1 st.2) (fun st => R - st.1.length) ([], s0) ?_ ?_ ⟨⟨by simp, by simp⟩, h0⟩ ?_
 ·(repeat (first | exact List.Sublist.refl _ | exact List.Sublist.slnil | refine List.Sublist.cons_cons _ ?_ | refine List.Sublist.cons _ ?_))
 ·(repeat (first | exact True.intro | (refine And.intro ?_ ?_; focus (show _ = (_ : Value); first | exact rfl | (refine Eq.trans (b := Value.int IntKind.i64 _) rfl (congrArg (Value.int IntKind.i64) ?_); omega)))))
 rintro ⟨xs, s⟩ ⟨hok, hφ⟩ K hL ρ1
 simp only at hok hφ
 try dsimp only
 (repeat (first | ((with_reducible refine is_AL ?_); (first | ((with_reducible refine is_bin ?_); (refine At_plain hF (by (exact (rfl : _ = some (Value.bool _)))) ?_)) | with_reducible refine At_nil ?_)) | ((with_reducible refine is_At ?_); (first | with_reducible refine At_seq ?_; intro K hK | with_reducible refine At_region ?_ | with_reducible refine At_then_n ?_ | with_reducible refine At_go (by assumption) ?_))))
 ((with_reducible refine is_cond ?_); (refine At_cond rfl ?_ ?_ <;> (intro hg; try (simp only [decide_eq_true_eq, decide_eq_false_iff_not, beq_iff_eq, bne_iff_ne, beq_eq_false_iff_ne, bne_eq_false_iff_eq, ne_eq, Bool.not_eq_true', Bool.not_eq_false', Bool.not_true, Bool.not_false, Decidable.not_not] at hg); try (exfalso; first | omega | exact hg True.intro))))
 ·have hltR : xs.length < R := by omega
  ((repeat (first | ((with_reducible refine is_AL ?_); (first | ((with_reducible refine is_move ?_); (refine At_plain hF (by (exact (rfl : _ = some (Value.int _ _)))) ?_)) | ((with_reducible refine is_bin ?_); (first | ((with_reducible refine is_brem ?_); (refine At_rem hF rfl rfl (by omega) ?_)) | refine At_plain hF (by (exact (rfl : _ = some (Value.bool _)))) ?_)) | ((with_reducible refine is_assign ?_); (refine At_plain hF (by (exact (rfl : _ = some (Value.func _ _ _)))) ?_)) | ((with_reducible refine is_func ?_); (refine At_func2 hF (by (exact (rfl : _ = (Value.pointer _)))) (by (exact (rfl : _ = (Value.pointer _)))) ?_)) | ((with_reducible refine is_field ?_); (refine At_field hF rfl ?_)) | ((with_reducible refine is_load ?_); (refine At_load hF 2 (by exact rfl) rfl (by (exact (rfl : _ = some (Value.int _ _)))) ?_)) | ((with_reducible refine is_store ?_); (refine At_store_0 hF rfl (by (exact (rfl : _ = (Value.int _ _)))) (by (decide)) (by exact rfl) (by exact rfl) (by (exact (rfl : _ = List.toArray (_ :: _)))) ?_)) | with_reducible refine At_nil ?_)) | ((with_reducible refine is_At ?_); (first | with_reducible refine At_seq ?_; intro K hK | with_reducible refine At_block ?_ | with_reducible refine At_region ?_ | with_reducible refine At_skip ?_ | with_reducible refine At_then_n ?_ | with_reducible refine At_go (by assumption) ?_)))); ((with_reducible refine is_alloc ?_); (refine At_alloc hF (by (exact (rfl : _ = List.toArray (_ :: _)))) ?_; intro br)); (repeat (first | ((with_reducible refine is_AL ?_); (first | ((with_reducible refine is_move ?_); (refine At_plain hF (by (exact (rfl : _ = some (Value.int _ _)))) ?_)) | ((with_reducible refine is_bin ?_); (first | ((with_reducible refine is_brem ?_); (refine At_rem hF rfl rfl (by omega) ?_)) | refine At_plain hF (by (exact (rfl : _ = some (Value.bool _)))) ?_)) | ((with_reducible refine is_assign ?_); (refine At_plain hF (by (exact (rfl : _ = some (Value.func _ _ _)))) ?_)) | ((with_reducible refine is_func ?_); (refine At_func2 hF (by (exact (rfl : _ = (Value.pointer _)))) (by (exact (rfl : _ = (Value.pointer _)))) ?_)) | ((with_reducible refine is_field ?_); (refine At_field hF rfl ?_)) | ((with_reducible refine is_load ?_); (refine At_load hF 2 (by exact rfl) rfl (by (exact (rfl : _ = some (Value.int _ _)))) ?_)) | ((with_reducible refine is_store ?_); (refine At_store_0 hF rfl (by (exact (rfl : _ = (Value.int _ _)))) (by (decide)) (by exact rfl) (by exact rfl) (by (exact (rfl : _ = List.toArray (_ :: _)))) ?_)) | with_reducible refine At_nil ?_)) | ((with_reducible refine is_At ?_); (first | with_reducible refine At_seq ?_; intro K hK | with_reducible refine At_block ?_ | with_reducible refine At_region ?_ | with_reducible refine At_skip ?_ | with_reducible refine At_then_n ?_ | with_reducible refine At_go (by assumption) ?_)))); ((with_reducible refine is_alloc ?_); (refine At_alloc hF (by (exact (rfl : _ = List.toArray (_ :: _)))) ?_; intro bl)); (repeat (first | ((with_reducible refine is_AL ?_); (first | ((with_reducible refine is_move ?_); (refine At_plain hF (by (exact (rfl : _ = some (Value.int _ _)))) ?_)) | ((with_reducible refine is_bin ?_); (first | ((with_reducible refine is_brem ?_); (refine At_rem hF rfl rfl (by omega) ?_)) | refine At_plain hF (by (exact (rfl : _ = some (Value.bool _)))) ?_)) | ((with_reducible refine is_assign ?_); (refine At_plain hF (by (exact (rfl : _ = some (Value.func _ _ _)))) ?_)) | ((with_reducible refine is_func ?_); (refine At_func2 hF (by (exact (rfl : _ = (Value.pointer _)))) (by (exact (rfl : _ = (Value.pointer _)))) ?_)) | ((with_reducible refine is_field ?_); (refine At_field hF rfl ?_)) | ((with_reducible refine is_load ?_); (refine At_load hF 2 (by exact rfl) rfl (by (exact (rfl : _ = some (Value.int _ _)))) ?_)) | ((with_reducible refine is_store ?_); (refine At_store_0 hF rfl (by (exact (rfl : _ = (Value.int _ _)))) (by (decide)) (by exact rfl) (by exact rfl) (by (exact (rfl : _ = List.toArray (_ :: _)))) ?_)) | with_reducible refine At_nil ?_)) | ((with_reducible refine is_At ?_); (first | with_reducible refine At_seq ?_; intro K hK | with_reducible refine At_block ?_ | with_reducible refine At_region ?_ | with_reducible refine At_skip ?_ | with_reducible refine At_then_n ?_ | with_reducible refine At_go (by assumption) ?_)))))
  refine At.newNil 44 3 enc44 enc44_len ?_
  refine At_mergeE (σ := Option Nat × Nat) (fun st => [(0, .func (.yield lp) #[] #[]), (1, ip bc), (3, ip br), (4, ip bl), (5, .func (.func 46) #[] #[ip bl, ip br]), (8, .int .i64 R), (9, .int .i64 xs.length)]) (fun st => .obj bl (.cells #[rowV st.1 (rnd0 n xs.length).length st.2] 22 (0, 0)) :: .obj br (.cells #[.int .i64 xs.length] 3 (0, 0)) :: .row 44 3 enc44 st.1 st.2 (rnd0 n xs.length) :: .obj bc (.cells #[.int .i64 n, .int .i64 R] 70 (0, 0)) :: Rc s) (fun _ => True) ?_ ?_
  ·intro K' hK'
   ((with_reducible refine is_cond ?_); (refine At_cond rfl ?_ ?_ <;> (intro hg; try (simp only [decide_eq_true_eq, decide_eq_false_iff_not, beq_iff_eq, bne_iff_ne, beq_eq_false_iff_ne, bne_eq_false_iff_eq, ne_eq, Bool.not_eq_true', Bool.not_eq_false', Bool.not_true, Bool.not_false, Decidable.not_not] at hg); try (exfalso; first | omega | exact hg True.intro))))
   ·have he : n % 2 = 0 := by omega
    have hr0 : rnd0 n xs.length = [addM xs.length ((n - 1 : Nat) : Int) xs.length (xs.length % 2 == 1)] := by unfold rnd0; rw [if_pos he]
    (repeat (first | ((with_reducible refine is_AL ?_); (first | ((with_reducible refine is_move ?_); (refine At_plain hF (by (exact (rfl : _ = some (Value.func _ _ _)))) ?_)) | ((with_reducible refine is_bin ?_); (first | ((with_reducible refine is_bsub ?_); (refine At_sub hF rfl rfl (by omega) ?_)) | ((with_reducible refine is_brem ?_); (refine At_rem hF rfl rfl (by omega) ?_)) | refine At_plain hF (by (exact (rfl : _ = some (Value.bool _)))) ?_)) | ((with_reducible refine is_field ?_); (refine At_field hF rfl ?_)) | ((with_reducible refine is_load ?_); (first | refine At_load hF 2 (by exact rfl) rfl (by (exact (rfl : _ = some (Value.int _ _)))) ?_ | refine At_load hF 3 (by exact rfl) rfl (by (exact (rfl : _ = some (Value.int _ _)))) ?_)))) | ((with_reducible refine is_At ?_); (with_reducible refine At_region ?_))))
    refine At_callvG hF E46 ha rfl (vs := #[.int .i64 ((n : Int) - 1), .int .i64 xs.length, .bool ((xs.length : Int) % 2 == 1)]) (Post := fun _ Rs => ∃ A' c', Rs = .obj bl (.cells #[rowV A' (rnd0 n xs.length).length c'] 22 (0, 0)) :: .obj br (.cells #[.int .i64 xs.length] 3 (0, 0)) :: .row 44 3 enc44 A' c' (rnd0 n xs.length) :: .obj bc (.cells #[.int .i64 n, .int .i64 R] 70 (0, 0)) :: Rc s) (by simp only [List.map_toArray, List.map_cons, List.map_nil]; refine congrArg List.toArray (congr (congrArg List.cons (by exact rfl)) (congr (congrArg List.cons (by exact rfl)) (congr (congrArg List.cons (by exact rfl)) rfl)))) (by exact rfl) (fun w' hw' => ?_) ?_
    ·have hm := hw'.rot3
     refine (add_rets (A := none) (c := 0) (l := []) ((n : Int) - 1) xs.length ((xs.length : Int) % 2 == 1) (by simp) hm).mono ?_
     rintro _ w2 ⟨_, rfl, A', c', h⟩
     have e2 : ((xs.length : Int) % 2 == 1) = (xs.length % 2 == 1) := by
      rw [Bool.eq_iff_iff]; simp; omega
     rw [e2, show (n : Int) - 1 = ((n - 1 : Nat) : Int) by omega, List.nil_append, ← hr0] at h
     exact ⟨_, rfl, _, ⟨A', c', rfl⟩, h⟩
    rintro _ _ ⟨A', c', rfl⟩
    (repeat (first | ((with_reducible refine is_AL ?_); (with_reducible refine At_nil ?_)) | ((with_reducible refine is_At ?_); (with_reducible refine At_then_n ?_))))
    refine At.sub ?_ (hK' (A', c') _ trivial ?_)
    ·(repeat (first | exact List.Sublist.refl _ | exact List.Sublist.slnil | refine List.Sublist.cons_cons _ ?_ | refine List.Sublist.cons _ ?_))
    ·(repeat (first | exact True.intro | (refine And.intro ?_ ?_; focus (show _ = (_ : Value); first | exact rfl | (refine Eq.trans (b := Value.int IntKind.i64 _) rfl (congrArg (Value.int IntKind.i64) ?_); omega)))))
   ·have he : ¬ n % 2 = 0 := by omega
    have hr0 : rnd0 n xs.length = [] := by unfold rnd0; rw [if_neg he]
    (repeat ((with_reducible refine is_At ?_); (first | with_reducible refine At_skip ?_ | with_reducible refine At_then_n ?_)))
    rw [hr0] at hK'
    refine fun w' hw' => hK' (none, 0) _ trivial ?_ w' hw'.rot3
    (repeat (first | exact True.intro | (refine And.intro ?_ ?_; focus (show _ = (_ : Value); first | exact rfl | (refine Eq.trans (b := Value.int IntKind.i64 _) rfl (congrArg (Value.int IntKind.i64) ?_); omega)))))
  ·rintro ⟨A1, c1⟩ ρ2 -
   try dsimp only
   (repeat (first | ((with_reducible refine is_AL ?_); (first | ((with_reducible refine is_assign ?_); (refine At_plain hF (by (exact (rfl : _ = some (Value.int _ _)))) ?_)) | with_reducible refine At_nil ?_)) | ((with_reducible refine is_At ?_); (first | with_reducible refine At_seq ?_; intro K hK | with_reducible refine At_block ?_ | with_reducible refine At_region ?_ | with_reducible refine At_then_n ?_ | with_reducible refine At_go (by assumption) ?_))))
   refine At_loop (fun st : Nat × Option Nat × Nat => [(0, .func (.yield lp) #[] #[]), (1, ip bc), (3, ip br), (4, ip bl), (5, .func (.func 46) #[] #[ip bl, ip br]), (6, .int .i64 (st.1 + 1 : Nat)), (8, .int .i64 R), (9, .int .i64 xs.length)]) (fun st => .obj bl (.cells #[rowV st.2.1 (rnd0 n xs.length ++ rndK R xs.length st.1).length st.2.2] 22 (0, 0)) :: .obj br (.cells #[.int .i64 xs.length] 3 (0, 0)) :: .row 44 3 enc44 st.2.1 st.2.2 (rnd0 n xs.length ++ rndK R xs.length st.1) :: .obj bc (.cells #[.int .i64 n, .int .i64 R] 70 (0, 0)) :: Rc s) (fun st => st.1 ≤ (R - 1) / 2) (fun st => R - st.1) (0, A1, c1) ?_ ?_ (Nat.zero_le _) ?_
   ·simp only [rndK, List.append_nil]
    (repeat (first | exact List.Sublist.refl _ | exact List.Sublist.slnil | refine List.Sublist.cons_cons _ ?_ | refine List.Sublist.cons _ ?_))
   ·(repeat (first | exact True.intro | (refine And.intro ?_ ?_; focus (show _ = (_ : Value); first | exact rfl | (refine Eq.trans (b := Value.int IntKind.i64 _) rfl (congrArg (Value.int IntKind.i64) ?_); omega)))))
   rintro ⟨k, A2, c2⟩ hk K2 hL2 ρ3
   simp only at hk
   try dsimp only
   (repeat (first | ((with_reducible refine is_AL ?_); (first | ((with_reducible refine is_move ?_); (refine At_plain hF (by (exact (rfl : _ = some (Value.int _ _)))) ?_)) | ((with_reducible refine is_bin ?_); (first | ((with_reducible refine is_bmul ?_); (refine At_mul hF rfl rfl (by omega) ?_)) | refine At_plain hF (by (exact (rfl : _ = some (Value.bool _)))) ?_)) | ((with_reducible refine is_field ?_); (refine At_field hF rfl ?_)) | ((with_reducible refine is_load ?_); (refine At_load hF 3 (by exact rfl) rfl (by (exact (rfl : _ = some (Value.int _ _)))) ?_)) | with_reducible refine At_nil ?_)) | ((with_reducible refine is_At ?_); (first | with_reducible refine At_seq ?_; intro K hK | with_reducible refine At_region ?_ | with_reducible refine At_then_n ?_ | with_reducible refine At_go (by assumption) ?_))))
   ((with_reducible refine is_cond ?_); (refine At_cond rfl ?_ ?_ <;> (intro hg; try (simp only [decide_eq_true_eq, decide_eq_false_iff_not, beq_iff_eq, bne_iff_ne, beq_eq_false_iff_ne, bne_eq_false_iff_eq, ne_eq, Bool.not_eq_true', Bool.not_eq_false', Bool.not_true, Bool.not_false, Decidable.not_not] at hg); try (exfalso; first | omega | exact hg True.intro))))
   ·(repeat ((with_reducible refine is_At ?_); (first | with_reducible refine At_seq ?_; intro K hK | with_reducible refine At_block ?_ | with_reducible refine At_skip ?_ | with_reducible refine At_then_n ?_ | with_reducible refine At_go (by assumption) ?_)))
    refine At_draw hF 19 (by kernel_rfl) (by decide +kernel) ?_; simp only [List.take_succ_cons, List.take_zero, List.drop_succ_cons, List.drop_zero]; (repeat ((with_reducible refine is_AQc ?_); refine AQ_cons (by intro K Q hK; (repeat (first | ((with_reducible refine is_move ?_); (refine At_plain hF (by (first | exact (rfl : _ = some (Value.int _ _)) | exact (rfl : _ = some (Value.func _ _ _)))) ?_)) | ((with_reducible refine is_bin ?_); (first | ((with_reducible refine is_badd ?_); (refine At_add hF rfl rfl (by omega) ?_)) | ((with_reducible refine is_bsub ?_); (refine At_sub hF rfl rfl (by omega) ?_)) | ((with_reducible refine is_brem ?_); (refine At_rem hF rfl rfl (by omega) ?_)) | refine At_plain hF (by (exact (rfl : _ = some (Value.bool _)))) ?_)) | ((with_reducible refine is_field ?_); (refine At_field hF rfl ?_)) | ((with_reducible refine is_load ?_); (first | refine At_load hF 1 (by exact rfl) rfl (by (exact (rfl : _ = some (Value.int _ _)))) ?_ | refine At_load hF 3 (by exact rfl) rfl (by (exact (rfl : _ = some (Value.int _ _)))) ?_)))); exact At_nilK hK) ?_))
    (repeat ((with_reducible refine is_AQc ?_); refine AQ_cons (by intro K Q hK; skip; exact At_nilK hK) ?_)); refine AQ_done ?_
    refine At_callvG hF E46 ha rfl (vs := #[.int .i64 (((xs.length : Int) + ((k + 1 : Nat) : Int)) % (R : Int)), .int .i64 (((xs.length : Int) - ((k + 1 : Nat) : Int) + (R : Int)) % (R : Int)), .bool (((k + 1 : Nat) : Int) % 2 == 1)]) (Post := fun _ Rs => ∃ A' c', Rs = .obj bl (.cells #[rowV A' (rnd0 n xs.length ++ rndK R xs.length (k + 1)).length c'] 22 (0, 0)) :: .obj br (.cells #[.int .i64 xs.length] 3 (0, 0)) :: .row 44 3 enc44 A' c' (rnd0 n xs.length ++ rndK R xs.length (k + 1)) :: .obj bc (.cells #[.int .i64 n, .int .i64 R] 70 (0, 0)) :: Rc s) (by simp only [List.map_toArray, List.map_cons, List.map_nil]; refine congrArg List.toArray (congr (congrArg List.cons (by exact rfl)) (congr (congrArg List.cons (by exact rfl)) (congr (congrArg List.cons (by exact rfl)) rfl)))) (by exact rfl) (fun w' hw' => ?_) ?_
    ·have hl9 : (rnd0 n xs.length ++ rndK R xs.length k).length ≤ 1000000 := by
      have := rnd0_len n xs.length
      simp only [List.length_append, rndK_len]; omega
     refine (add_rets (((xs.length : Int) + ((k + 1 : Nat) : Int)) % (R : Int)) (((xs.length : Int) - ((k + 1 : Nat) : Int) + (R : Int)) % (R : Int)) (((k + 1 : Nat) : Int) % 2 == 1) hl9 hw').mono ?_
     rintro _ w2 ⟨_, rfl, A', c', h⟩
     have e1 : ((xs.length : Int) + ((k + 1 : Nat) : Int)) % (R : Int) = (((xs.length + (k + 1)) % R : Nat) : Int) := by rw [← Int.natCast_add, ← Int.natCast_emod]
     have e2 : ((xs.length : Int) - ((k + 1 : Nat) : Int) + (R : Int)) % (R : Int) = (((xs.length + R - (k + 1)) % R : Nat) : Int) := by
      rw [show (xs.length : Int) - ((k + 1 : Nat) : Int) + (R : Int) = ((xs.length + R - (k + 1) : Nat) : Int) by omega, ← Int.natCast_emod]
     have e3 : (((k + 1 : Nat) : Int) % 2 == 1) = ((k + 1) % 2 == 1) := by rw [Bool.eq_iff_iff]; simp; omega
     rw [e1, e2, e3, List.append_assoc] at h
     exact ⟨_, rfl, _, ⟨A', c', rfl⟩, h⟩
    rintro _ _ ⟨A', c', rfl⟩
    (repeat (first | ((with_reducible refine is_AL ?_); (first | ((with_reducible refine is_move ?_); (refine At_plain hF (by (exact (rfl : _ = some (Value.int _ _)))) ?_)) | ((with_reducible refine is_bin ?_); ((with_reducible refine is_badd ?_); (refine At_add hF rfl rfl (by omega) ?_))) | ((with_reducible refine is_assign ?_); (refine At_plain hF (by (exact (rfl : _ = some (Value.int _ _)))) ?_)) | with_reducible refine At_nil ?_)) | ((with_reducible refine is_At ?_); (first | with_reducible refine At_region ?_ | with_reducible refine At_then_n ?_ | with_reducible refine At_inb_n ?_ | with_reducible refine At_go (by assumption) ?_))))
    refine At.sub ?_ (hL2 (k + 1, A', c') _ (by simp only; omega) (by simp only; omega) ?_)
    ·(repeat (first | exact List.Sublist.refl _ | exact List.Sublist.slnil | refine List.Sublist.cons_cons _ ?_ | refine List.Sublist.cons _ ?_))
    ·(repeat (first | exact True.intro | (refine And.intro ?_ ?_; focus (show _ = (_ : Value); first | exact rfl | (refine Eq.trans (b := Value.int IntKind.i64 _) rfl (congrArg (Value.int IntKind.i64) ?_); omega)))))
   obtain rfl : k = (R - 1) / 2 := by omega
   (repeat ((with_reducible refine is_At ?_); (first | with_reducible refine At_seq ?_; intro K hK | with_reducible refine At_exit ?_ | with_reducible refine At_then_n ?_ | with_reducible refine At_then_e ?_ | with_reducible refine At_inb_e rfl ?_ | with_reducible refine At_go (by assumption) ?_)))
   refine At_drawE hF 4 [0, 1, 2] [2] [3] (.obj bl (.cells #[rowV A2 (rnd0 n xs.length ++ rndK R xs.length ((R - 1) / 2)).length c2] 22 (0, 0)) :: .obj br (.cells #[.int .i64 xs.length] 3 (0, 0)) :: .row 44 3 enc44 A2 c2 (rnd0 n xs.length ++ rndK R xs.length ((R - 1) / 2)) :: .obj bc (.cells #[.int .i64 n, .int .i64 R] 70 (0, 0)) :: Rc s) (by kernel_rfl) (by decide +kernel) (by decide +kernel) ?_; simp only [List.drop_succ_cons, List.drop_zero]; (repeat ((with_reducible refine is_AQF ?_); first | refine AQF_early (by decide) (by exact (rfl : _ = some (Oper.mk _ _ _ _ _ _))) (by intro K Q hK; (repeat (first | ((with_reducible refine is_move ?_); (refine At_plain hF (by (exact (rfl : _ = some (Value.func _ _ _)))) ?_)) | ((with_reducible refine is_load ?_); (first | refine At_load hF 0 (by exact rfl) rfl (by (exact (rfl : _ = some (Value.slice _ _ _)))) ?_ | refine At_load hF 1 (by exact rfl) rfl (by (exact (rfl : _ = some (Value.int _ _)))) ?_)))); exact At_nilK hK) ?_ | refine AQF_late (by decide) (by exact (rfl : _ = some (Oper.mk _ _ _ _ _ _))) (by intro E K Q hK; simp only [List.cons_append, List.nil_append] at hK ⊢; (repeat (first | ((with_reducible refine is_move ?_); (refine At_plain hF (by (exact (rfl : _ = some (Value.func _ _ _)))) ?_)) | ((with_reducible refine is_load ?_); (first | refine At_load hF 0 (by exact rfl) rfl (by (exact (rfl : _ = some (Value.slice _ _ _)))) ?_ | refine At_load hF 1 (by exact rfl) rfl (by (exact (rfl : _ = some (Value.int _ _)))) ?_)))); exact At_nilK hK) ?_))
   (repeat ((with_reducible refine is_AQF ?_); first | refine AQF_early (by decide) (by exact (rfl : _ = some (Oper.mk _ _ _ _ _ _))) (by intro K Q hK; skip; exact At_nilK hK) ?_ | refine AQF_late (by decide) (by exact (rfl : _ = some (Oper.mk _ _ _ _ _ _))) (by intro E K Q hK; simp only [List.cons_append, List.nil_append] at hK ⊢; skip; exact At_nilK hK) ?_))
   refine AQF_done ?_
   (refine WAt_cons ?_ (by exact (rfl : _ = some (Oper.mk _ _ _ _ _ _))) ?_; (focus (repeat (first | exact List.Sublist.refl _ | exact List.Sublist.slnil | refine List.Sublist.cons_cons _ ?_ | refine List.Sublist.cons _ ?_))); intro K Q hK)
   have hl8 : (rnd0 n xs.length ++ rndK R xs.length ((R - 1) / 2)).length ≤ 1000000 := by
    have := rnd0_len n xs.length
    simp only [List.length_append, rndK_len]; omega
   refine At_callM hF E41 ha (Post := fun u Rs => ∃ A' c' l', u = rowV A' (rndL n R xs.length).length c' ∧ (l'.Perm (rndL n R xs.length) ∧ SrtL l') ∧ Rs = [.row 44 3 enc44 A' c' l']) (arg2 (by (first | exact (rfl : _ = (Value.int _ _)) | exact (rfl : _ = (Value.bool _)) | exact (rfl : _ = (Value.pointer _)) | exact (rfl : _ = (Value.slice _ _ _)) | exact (rfl : _ = (Value.map _)) | exact (rfl : _ = (Value.func _ _ _)) | exact (rfl : _ = (Value.tuple _)) | exact (rfl : _ = (Value.agg _)) | exact (rfl : _ = (Value.string _)) | exact (rfl : _ = (Value.nilFunc)) | exact (rfl : _ = (Value.nilIface)))) (by (first | exact (rfl : _ = (Value.int _ _)) | exact (rfl : _ = (Value.bool _)) | exact (rfl : _ = (Value.pointer _)) | exact (rfl : _ = (Value.slice _ _ _)) | exact (rfl : _ = (Value.map _)) | exact (rfl : _ = (Value.func _ _ _)) | exact (rfl : _ = (Value.tuple _)) | exact (rfl : _ = (Value.agg _)) | exact (rfl : _ = (Value.string _)) | exact (rfl : _ = (Value.nilFunc)) | exact (rfl : _ = (Value.nilIface))))) (fun w' hw' => ?_) ?_
   ·have hc := C_own44 (e := 44) (A := A2) (c := c2) (l := rnd0 n xs.length ++ rndK R xs.length ((R - 1) / 2)) hw' (by simp)
    refine (sorted_rets w' _ c2 _ hc hl8).mono ?_
    rintro _ w2 ⟨_, rfl, A', c', l', rfl, h1, h⟩
    exact ⟨_, rfl, _, ⟨A', c', l', rfl, h1, rfl⟩, h⟩
   rintro _ _ ⟨A', c', l', rfl, hl', rfl⟩
   have hll : (rndL n R xs.length).length = l'.length := hl'.1.length_eq.symm
   rw [hll]
   refine At_nilK (hK _ _ ?_)
   (refine WAt_nil ?_ ?_; (focus (repeat (first | exact List.Sublist.refl _ | exact List.Sublist.slnil | refine List.Sublist.cons_cons _ ?_ | refine List.Sublist.cons _ ?_))))
   refine At_yieldG hF ha hy (.row 44 3 enc44 A' c' l' :: .obj bl (.cells #[rowV A2 (rnd0 n xs.length ++ rndK R xs.length ((R - 1) / 2)).length c2] 22 (0, 0)) :: .obj br (.cells #[.int .i64 xs.length] 3 (0, 0)) :: .row 44 3 enc44 A2 c2 (rnd0 n xs.length ++ rndK R xs.length ((R - 1) / 2)) :: [.obj bc (.cells #[.int .i64 n, .int .i64 R] 70 (0, 0))]) (xs := xs) (s := s) (xs.length, (A', c'), l') ⟨_, rfl⟩ hφ (okR_snoc hok hltR ⟨rfl, hl'⟩) rfl (by exact rfl) (arg2 (by (first | exact (rfl : _ = (Value.int _ _)) | exact (rfl : _ = (Value.bool _)) | exact (rfl : _ = (Value.pointer _)) | exact (rfl : _ = (Value.slice _ _ _)) | exact (rfl : _ = (Value.map _)) | exact (rfl : _ = (Value.func _ _ _)) | exact (rfl : _ = (Value.tuple _)) | exact (rfl : _ = (Value.agg _)) | exact (rfl : _ = (Value.string _)) | exact (rfl : _ = (Value.nilFunc)) | exact (rfl : _ = (Value.nilIface)))) (by (first | exact (rfl : _ = (Value.int _ _)) | exact (rfl : _ = (Value.bool _)) | exact (rfl : _ = (Value.pointer _)) | exact (rfl : _ = (Value.slice _ _ _)) | exact (rfl : _ = (Value.map _)) | exact (rfl : _ = (Value.func _ _ _)) | exact (rfl : _ = (Value.tuple _)) | exact (rfl : _ = (Value.agg _)) | exact (rfl : _ = (Value.string _)) | exact (rfl : _ = (Value.nilFunc)) | exact (rfl : _ = (Value.nilIface))))) ?_ ?_
   ·intro s' hs'
    simp only [List.cons_append, List.nil_append]
    (repeat (first | ((with_reducible refine is_AL ?_); (first | ((with_reducible refine is_move ?_); (refine At_plain hF (by (exact (rfl : _ = some (Value.int _ _)))) ?_)) | ((with_reducible refine is_bin ?_); ((with_reducible refine is_badd ?_); (refine At_add hF rfl rfl (by omega) ?_))) | ((with_reducible refine is_un ?_); (refine At_plain hF (by (exact (rfl : _ = some (Value.bool _)))) ?_)) | with_reducible refine At_nil ?_)) | ((with_reducible refine is_At ?_); (first | with_reducible refine At_region ?_ | with_reducible refine At_skip ?_ | with_reducible refine At_then_n ?_ | with_reducible refine At_inb_n ?_ | with_reducible refine At_go (by assumption) ?_ | ((with_reducible refine is_cond ?_); (refine At_cond_f rfl ?_))))))
    refine At.sub ?_ (hL (xs ++ [(xs.length, (A', c'), l')], s') _ ⟨okR_snoc hok hltR ⟨rfl, hl'⟩, hs'⟩ (by simp only [List.length_append, List.length_cons, List.length_nil]; omega) ?_)
    ·(repeat (first | exact List.Sublist.refl _ | exact List.Sublist.slnil | refine List.Sublist.cons_cons _ ?_ | refine List.Sublist.cons _ ?_))
    ·simp only [List.length_append, List.length_cons, List.length_nil]
     (repeat (first | exact True.intro | (refine And.intro ?_ ?_; focus (show _ = (_ : Value); first | exact rfl | (refine Eq.trans (b := Value.int IntKind.i64 _) rfl (congrArg (Value.int IntKind.i64) ?_); omega)))))
   ·intro s' hs'
    simp only [List.cons_append, List.nil_append]
    (repeat (first | ((with_reducible refine is_AL ?_); (first | ((with_reducible refine is_un ?_); (refine At_plain hF (by (exact (rfl : _ = some (Value.bool _)))) ?_)) | with_reducible refine At_nil ?_)) | ((with_reducible refine is_At ?_); (first | with_reducible refine At_ret ?_ | with_reducible refine At_then_n ?_ | with_reducible refine At_then_r ?_ | with_reducible refine At_inb_r ?_ | with_reducible refine At_go (by assumption) ?_ | ((with_reducible refine is_cond ?_); (refine At_cond_t rfl ?_))))))
    exact At_fin0 rfl (fun w' hw' => ⟨_, s', rfl, hw'.sub (by (repeat (first | exact List.Sublist.refl _ | exact List.Sublist.slnil | refine List.Sublist.cons_cons _ ?_ | refine List.Sublist.cons _ ?_))), .inr hs'⟩)
 obtain hl : xs.length = R := by have := hok.1; omega
 (repeat ((with_reducible refine is_At ?_); (first | with_reducible refine At_exit ?_ | with_reducible refine At_then_e ?_ | with_reducible refine At_inb_e rfl ?_)))
 exact At_fin0n rfl (fun w' hw' => ⟨_, s, rfl, hw', .inl ⟨xs, ⟨hok, hl⟩, hφ⟩⟩)
end Go.Proofs.Ytecgklfcblpkdaa.RB
