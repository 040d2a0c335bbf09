import Derived.Test.YtecgklfcblpkdaaAllW
import Derived.Test.YtecgklfcblpkdaaXStr
/- robin.Make. -/
namespace Go.Proofs.Ytecgklfcblpkdaa.RB
open Go.RowKit Go.Proofs.Ytecgklfcblpkdaa.P Go.Proofs.YtecgklfcblpkdaaW.PrintWords Go.Proofs.YtecgklfcblpkdaaW.PrintLast Go.Proofs.YtecgklfcblpkdaaW.PrintMore
open XW RegInv
attribute [local irreducible] Addr.add
set_option linter.unusedSimpArgs false
set_option linter.unusedVariables false
def mkA (R : Nat) (kind : Int) (r : Nat) : Int := if kind = 2 then 2 * r else r
def mkB (R : Nat) (kind : Int) (r : Nat) : Int := if kind = 2 then 2 * r + 1 else if kind = 3 then R + r else -1
def setR (a : Int) (x : S44) : S44 := ⟨a, x.f1, x.f2⟩
def mkRnd (n R : Nat) (kind : Int) (r : Nat) : List S44 := (rndL n R r).map (setR (mkA R kind r)) ++ if 0 ≤ mkB R kind r then (rndL n R r).map (trn (mkB R kind r)) else []
def mkRaw (n R : Nat) (kind : Int) : Nat → List S44
 | 0 => []
 | r + 1 => mkRaw n R kind r ++ mkRnd n R kind r
theorem rndL_len (n R r : Nat) : (rndL n R r).length ≤ 1 + R / 2 := by
 have := rnd0_len n r
 simp only [rndL, List.length_append, rndK_len]; omega
theorem mkRnd_len (n R : Nat) (kind : Int) (r : Nat) : (mkRnd n R kind r).length ≤ 2 + R := by
 have := rndL_len n R r
 unfold mkRnd; split <;> simp <;> omega
theorem mkRaw_len (n R : Nat) (kind : Int) (k : Nat) (hR : R ≤ 100) : (mkRaw n R kind k).length ≤ k * 102 := by
 induction k with
 | zero => simp [mkRaw]
 | succ k ih =>
  have := mkRnd_len n R kind k
  simp only [mkRaw, List.length_append]; omega
theorem pair_f (n R r : Nat) (kind : Int) (hr : r < R) (hR : R ≤ 100) : robin_circle_pair.f n R r kind = some (mkA R kind r, mkB R kind r) := by
 unfold robin_circle_pair.f mkA mkB
 have e1 : wrap64 (2 * (r : Int)) = 2 * r := by unfold wrap64; omega
 have e2 : wrap64 (2 * (r : Int) + 1) = 2 * r + 1 := by unfold wrap64; omega
 have e3 : wrap64 ((R : Int) + r) = R + r := by unfold wrap64; omega
 rw [e1, e2, e3]
 by_cases h2 : kind = 2
 ·simp [h2]
 ·by_cases h3 : kind = 3
  ·simp [h3]
  ·simp [h2, h3]
theorem E37 : Enters Try.prog 37 := enters Try.func37 (by kernel_rfl) rfl
theorem E38 : Enters Try.prog 38 := enters Try.func38 (by kernel_rfl) rfl
theorem E39 : Enters Try.prog 39 := enters Try.func39 (by kernel_rfl) rfl
theorem of_rets (n kind : Int) (hn : 0 ≤ n ∧ n ≤ 1000) (w : World) : Rets Try.prog 37 #[.int .i64 n, .int .i64 kind] w fun u w' => u = .tuple #[.agg #[.int .i64 n, .int .i64 (n - 1 + n % 2)], .bool (decide (2 ≤ n ∧ n ≤ 20 ∧ 1 ≤ kind ∧ kind ≤ 3))] ∧ Below w.heap.size w w' := by
 refine (robin_of.calls n kind n (n - 1 + n % 2) (decide (2 ≤ n ∧ n ≤ 20 ∧ 1 ≤ kind ∧ kind ≤ 3)) w ?_).mono (by rintro e w' ⟨rfl, hb⟩; exact ⟨_, rfl, rfl, hb⟩)
 have e : wrap64 (wrap64 (n - 1) + Int.tmod n 2) = n - 1 + n % 2 := by
  rw [Int.tmod_eq_emod_of_nonneg hn.1]; unfold wrap64; omega
 unfold robin_of.f
 rw [e]
 by_cases h1 : n ≥ 2
 ·by_cases h2 : n ≤ 20
  ·by_cases h3 : kind ≥ 1
   ·rw [if_pos h1, if_pos h2, if_pos h3]; congr 3; rw [decide_eq_decide]; omega
   ·rw [if_pos h1, if_pos h2, if_neg h3]; congr 3; symm; rw [decide_eq_false_iff_not]; omega
  ·rw [if_pos h1, if_neg h2]; congr 3; symm; rw [decide_eq_false_iff_not]; omega
 ·rw [if_neg h1]; congr 3; symm; rw [decide_eq_false_iff_not]; omega
set_option maxHeartbeats 4000000 in
theorem allf_rets (w0 : World) (n R : Int) : Rets Try.prog 38 #[.agg #[.int .i64 n, .int .i64 R]] w0 fun u w' => ∃ bc, u = .func (.func 45) #[] #[ip bc] ∧ Mem w0 w' [.obj bc (.cells #[.int .i64 n, .int .i64 R] 70 (0, 0))] := by
 have hF := wide_wide
 refine rets_at (n := 4) Try.func38 rfl Try.ntmps38 (by simp) ?_
 ((repeat (first | ((with_reducible refine is_AL ?_); (first | ((with_reducible refine is_assign ?_); (refine At_plain hF (by (first | exact (rfl : _ = some (Value.func _ _ _)) | exact (rfl : _ = some (Value.nilFunc)))) ?_)) | ((with_reducible refine is_func ?_); (refine At_func1 hF (by (exact (rfl : _ = (Value.pointer _)))) ?_)) | with_reducible refine At_nil ?_)) | ((with_reducible refine is_At ?_); (first | with_reducible refine At_seq ?_; intro K hK | with_reducible refine At_region ?_ | with_reducible refine At_ret ?_ | with_reducible refine At_then_n ?_ | with_reducible refine At_go (by assumption) ?_)))); ((with_reducible refine is_box ?_); (refine At_boxA hF rfl ?_; intro bc)); (repeat (first | ((with_reducible refine is_AL ?_); (first | ((with_reducible refine is_assign ?_); (refine At_plain hF (by (first | exact (rfl : _ = some (Value.func _ _ _)) | exact (rfl : _ = some (Value.nilFunc)))) ?_)) | ((with_reducible refine is_func ?_); (refine At_func1 hF (by (exact (rfl : _ = (Value.pointer _)))) ?_)) | with_reducible refine At_nil ?_)) | ((with_reducible refine is_At ?_); (first | with_reducible refine At_seq ?_; intro K hK | with_reducible refine At_region ?_ | with_reducible refine At_ret ?_ | with_reducible refine At_then_n ?_ | with_reducible refine At_go (by assumption) ?_)))))
 exact At_ret1 rfl (rv_tmp (by decide)) (fun w' hw' => ⟨_, rfl, _, rfl, hw'⟩)
set_option maxHeartbeats 4000000 in
theorem make_rets (w0 : World) (n R : Nat) (kind : Int) (hn : 2 ≤ n ∧ n ≤ 20) (hk : 1 ≤ kind ∧ kind ≤ 3) (hRe : R = n - 1 + n % 2) :
  Rets Try.prog 32 #[.int .i64 n, .int .i64 kind] w0 fun u w' => ∃ A' c' l', u = .tuple #[rowV A' l'.length c', .int .i64 0] ∧ (l'.Perm (mkRaw n R kind R) ∧ SrtL l') ∧ Mem w0 w' [.row 44 3 enc44 A' c' l'] := by
 have hF := wide_wide
 have hR100 : R ≤ 100 := by omega
 refine rets_at (n := 55) Try.func32 rfl Try.ntmps32 (by simp) ?_
 refine At.newNil 44 3 enc44 enc44_len ?_
 ((repeat (first | ((with_reducible refine is_AL ?_); (first | ((with_reducible refine is_move ?_); (refine At_plain hF (by (exact (rfl : _ = some (Value.int _ _)))) ?_)) | ((with_reducible refine is_assign ?_); (refine At_plain hF (by (exact (rfl : _ = some (Value.int _ _)))) ?_)) | ((with_reducible refine is_load ?_); (refine At_load hF 1 (by exact rfl) rfl (by (exact (rfl : _ = some (Value.int _ _)))) ?_)) | with_reducible refine At_nil ?_)) | ((with_reducible refine is_At ?_); (first | with_reducible refine At_seq ?_; intro K hK | with_reducible refine At_region ?_ | with_reducible refine At_then_n ?_ | with_reducible refine At_go (by assumption) ?_)))); (first | ((with_reducible refine is_alloc ?_); (refine At_alloc hF (by (exact (rfl : _ = List.toArray (_ :: _)))) ?_; intro b3)) | ((with_reducible refine is_box ?_); (refine At_box1 hF (by (exact (rfl : _ = (Value.int _ _)))) rfl ?_; intro b3))); (repeat (first | ((with_reducible refine is_AL ?_); (first | ((with_reducible refine is_move ?_); (refine At_plain hF (by (exact (rfl : _ = some (Value.int _ _)))) ?_)) | ((with_reducible refine is_assign ?_); (refine At_plain hF (by (exact (rfl : _ = some (Value.int _ _)))) ?_)) | ((with_reducible refine is_load ?_); (refine At_load hF 1 (by exact rfl) rfl (by (exact (rfl : _ = some (Value.int _ _)))) ?_)) | with_reducible refine At_nil ?_)) | ((with_reducible refine is_At ?_); (first | with_reducible refine At_seq ?_; intro K hK | with_reducible refine At_region ?_ | with_reducible refine At_then_n ?_ | with_reducible refine At_go (by assumption) ?_)))); (first | ((with_reducible refine is_alloc ?_); (refine At_alloc hF (by (exact (rfl : _ = List.toArray (_ :: _)))) ?_; intro b4)) | ((with_reducible refine is_box ?_); (refine At_box1 hF (by (exact (rfl : _ = (Value.int _ _)))) rfl ?_; intro b4))); (repeat (first | ((with_reducible refine is_AL ?_); (first | ((with_reducible refine is_move ?_); (refine At_plain hF (by (exact (rfl : _ = some (Value.int _ _)))) ?_)) | ((with_reducible refine is_assign ?_); (refine At_plain hF (by (exact (rfl : _ = some (Value.int _ _)))) ?_)) | ((with_reducible refine is_load ?_); (refine At_load hF 1 (by exact rfl) rfl (by (exact (rfl : _ = some (Value.int _ _)))) ?_)) | with_reducible refine At_nil ?_)) | ((with_reducible refine is_At ?_); (first | with_reducible refine At_seq ?_; intro K hK | with_reducible refine At_region ?_ | with_reducible refine At_then_n ?_ | with_reducible refine At_go (by assumption) ?_)))))
 refine At_callB hF E37 rfl (u := .tuple #[.agg #[.int .i64 n, .int .i64 R], .bool true]) (arg2 (by (first | exact (rfl : _ = (Value.int _ _)) | exact (rfl : _ = (Value.bool _)) | exact (rfl : _ = (Value.pointer _)) | exact (rfl : _ = (Value.slice _ _ _)) | exact (rfl : _ = (Value.map _)) | exact (rfl : _ = (Value.func _ _ _)) | exact (rfl : _ = (Value.tuple _)) | exact (rfl : _ = (Value.agg _)) | exact (rfl : _ = (Value.string _)) | exact (rfl : _ = (Value.nilFunc)) | exact (rfl : _ = (Value.nilIface)))) (by (first | exact (rfl : _ = (Value.int _ _)) | exact (rfl : _ = (Value.bool _)) | exact (rfl : _ = (Value.pointer _)) | exact (rfl : _ = (Value.slice _ _ _)) | exact (rfl : _ = (Value.map _)) | exact (rfl : _ = (Value.func _ _ _)) | exact (rfl : _ = (Value.tuple _)) | exact (rfl : _ = (Value.agg _)) | exact (rfl : _ = (Value.string _)) | exact (rfl : _ = (Value.nilFunc)) | exact (rfl : _ = (Value.nilIface))))) (fun w' hw' => (of_rets n kind (by omega) w').mono (by
  rintro _ w2 ⟨_, rfl, rfl, hb⟩
  refine ⟨_, rfl, ?_, hb⟩
  rw [show (n : Int) - 1 + (n : Int) % 2 = (R : Int) by omega, decide_eq_true (by omega)])) ?_
 ((repeat (first | ((with_reducible refine is_AL ?_); (first | ((with_reducible refine is_move ?_); (refine At_plain hF (by (first | exact (rfl : _ = some (Value.bool _)) | exact (rfl : _ = some (Value.tuple _)))) ?_)) | ((with_reducible refine is_assign ?_); (refine At_plain hF (by (exact (rfl : _ = some (Value.bool _)))) ?_)) | ((with_reducible refine is_extract ?_); (refine At_plain hF (by (first | exact (rfl : _ = some (Value.bool _)) | exact (rfl : _ = some (Value.agg _)))) ?_)) | ((with_reducible refine is_un ?_); (refine At_plain hF (by (exact (rfl : _ = some (Value.bool _)))) ?_)) | ((with_reducible refine is_load ?_); (refine At_loadB hF 0 rfl rfl rfl ?_)) | ((with_reducible refine is_store ?_); (refine At_storeB_0 hF rfl rfl rfl rfl (by simp [Value.one1, epair]) ?_)) | with_reducible refine At_nil ?_)) | ((with_reducible refine is_At ?_); (first | with_reducible refine At_seq ?_; intro K hK | with_reducible refine At_region ?_ | with_reducible refine At_skip ?_ | with_reducible refine At_then_n ?_ | with_reducible refine At_go (by assumption) ?_ | ((with_reducible refine is_cond ?_); (refine At_cond_f rfl ?_)))))); ((with_reducible refine is_alloc ?_); (refine At_alloc hF (by (exact (rfl : _ = List.toArray (_ :: _)))) ?_; intro b6)); (repeat (first | ((with_reducible refine is_AL ?_); (first | ((with_reducible refine is_move ?_); (refine At_plain hF (by (first | exact (rfl : _ = some (Value.bool _)) | exact (rfl : _ = some (Value.tuple _)))) ?_)) | ((with_reducible refine is_assign ?_); (refine At_plain hF (by (exact (rfl : _ = some (Value.bool _)))) ?_)) | ((with_reducible refine is_extract ?_); (refine At_plain hF (by (first | exact (rfl : _ = some (Value.bool _)) | exact (rfl : _ = some (Value.agg _)))) ?_)) | ((with_reducible refine is_un ?_); (refine At_plain hF (by (exact (rfl : _ = some (Value.bool _)))) ?_)) | ((with_reducible refine is_load ?_); (refine At_loadB hF 0 rfl rfl rfl ?_)) | ((with_reducible refine is_store ?_); (refine At_storeB_0 hF rfl rfl rfl rfl (by simp [Value.one1, epair]) ?_)) | with_reducible refine At_nil ?_)) | ((with_reducible refine is_At ?_); (first | with_reducible refine At_seq ?_; intro K hK | with_reducible refine At_region ?_ | with_reducible refine At_skip ?_ | with_reducible refine At_then_n ?_ | with_reducible refine At_go (by assumption) ?_ | ((with_reducible refine is_cond ?_); (refine At_cond_f rfl ?_)))))))
 refine At_callM hF E38 rfl (Post := fun u Rs => ∃ bc, u = .func (.func 45) #[] #[ip bc] ∧ Rs = [.obj bc (.cells #[.int .i64 n, .int .i64 R] 70 (0, 0))]) (arg1 (by (first | exact (rfl : _ = (Value.int _ _)) | exact (rfl : _ = (Value.bool _)) | exact (rfl : _ = (Value.pointer _)) | exact (rfl : _ = (Value.slice _ _ _)) | exact (rfl : _ = (Value.map _)) | exact (rfl : _ = (Value.func _ _ _)) | exact (rfl : _ = (Value.tuple _)) | exact (rfl : _ = (Value.agg _)) | exact (rfl : _ = (Value.string _)) | exact (rfl : _ = (Value.nilFunc)) | exact (rfl : _ = (Value.nilIface))))) (fun w' hw' => (allf_rets w' n R).mono ?_) ?_
 ·rintro _ w2 ⟨_, rfl, bc, rfl, h⟩
  exact ⟨_, rfl, _, ⟨bc, rfl, rfl⟩, h⟩
 rintro _ _ ⟨bc, rfl, rfl⟩
 simp only [List.cons_append, List.nil_append]
 (repeat (first | ((with_reducible refine is_AL ?_); (with_reducible refine At_nil ?_)) | ((with_reducible refine is_At ?_); (first | with_reducible refine At_block ?_ | with_reducible refine At_then_n ?_ | with_reducible refine At_go (by assumption) ?_))))
 refine At_rangeG hF rfl rfl (by exact rfl) E45 [.obj bc (.cells #[.int .i64 n, .int .i64 R] 70 (0, 0))] argsR GvR (okR n R) (fun xs => okR n R xs ∧ xs.length = R) (all_iter hF rfl rfl w0 bc n R (by omega) (by omega) (by omega) (by omega) (by omega))
  (fun st : (Option Nat × Nat) × List S44 => [.obj b6 (.cells #[.int .i64 n, .int .i64 R] 70 (0, 0)), .obj b4 (.cells #[rowV st.1.1 st.2.length st.1.2] 22 (0, 0)), .obj b3 (.cells #[.int .i64 kind] 3 (0, 0)), .row 44 3 enc44 st.1.1 st.1.2 st.2]) (fun xs st => st.2.Perm (mkRaw n R kind xs.length)) (fun _ _ => False) ((none, 0), []) ?_ (by exact List.Perm.refl _) (fun _ => rfl) ?_ ?_ ?_
 ·(repeat (first | exact List.Sublist.refl _ | exact List.Sublist.slnil | refine List.Sublist.cons_cons _ ?_ | refine List.Sublist.cons _ ?_))
 ·rintro lp rec D Ri xs ⟨r, ⟨A, c⟩, x⟩ ⟨⟨A1, c1⟩, ys⟩ ⟨Ri', rfl⟩ hφ hpre
  simp only at hφ
  have hF := Wide.inRound hF lp
  obtain ⟨hlen, hall⟩ := hpre
  have hxs : xs.length < R := by simp only [List.length_append, List.length_cons, List.length_nil] at hlen; omega
  obtain ⟨hr, hx, hsx⟩ := hall xs.length (r, (A, c), x) (by simp)
  simp only at hr hx hsx
  subst hr
  have hxl : x.length ≤ 51 := by have := hx.length_eq; have := rndL_len n R xs.length; omega
  have hyl : ys.length ≤ 10200 := by
   have := hφ.length_eq; have h2 := mkRaw_len n R kind xs.length hR100
   have h3 : xs.length * 102 ≤ 100 * 102 := Nat.mul_le_mul_right _ (by omega)
   omega
  simp only [List.cons_append, List.nil_append]
  (repeat (first | ((with_reducible refine is_AL ?_); (first | ((with_reducible refine is_assign ?_); (refine At_plain hF (by (first | exact (rfl : _ = some (Value.int _ _)) | exact (rfl : _ = some (Value.slice _ _ _)))) ?_)) | with_reducible refine At_nil ?_)) | ((with_reducible refine is_At ?_); (first | with_reducible refine At_seq ?_; intro K hK | with_reducible refine At_region ?_ | with_reducible refine At_then_n ?_ | with_reducible refine At_go (by assumption) ?_))))
  refine fun w' hw' => ⟨rfl, [], hw', ?_⟩
  clear hw' w'
  simp only [List.cons_append, List.nil_append]
  (repeat (first | ((with_reducible refine is_AL ?_); (first | ((with_reducible refine is_move ?_); (refine At_plain hF (by (exact (rfl : _ = some (Value.int _ _)))) ?_)) | ((with_reducible refine is_load ?_); (first | refine At_load hF 3 (by exact rfl) rfl (by (exact (rfl : _ = some (Value.int _ _)))) ?_ | refine At_loadB hF 1 rfl rfl rfl ?_)))) | ((with_reducible refine is_At ?_); (first | with_reducible refine At_seq ?_; intro K hK | with_reducible refine At_block ?_ | with_reducible refine At_region ?_))))
  refine At_callB hF E39 rfl (u := .tuple #[.int .i64 (mkA R kind xs.length), .int .i64 (mkB R kind xs.length)]) (arg3 (by (first | exact (rfl : _ = (Value.int _ _)) | exact (rfl : _ = (Value.bool _)) | exact (rfl : _ = (Value.pointer _)) | exact (rfl : _ = (Value.slice _ _ _)) | exact (rfl : _ = (Value.map _)) | exact (rfl : _ = (Value.func _ _ _)) | exact (rfl : _ = (Value.tuple _)) | exact (rfl : _ = (Value.agg _)) | exact (rfl : _ = (Value.string _)) | exact (rfl : _ = (Value.nilFunc)) | exact (rfl : _ = (Value.nilIface)))) (by (first | exact (rfl : _ = (Value.int _ _)) | exact (rfl : _ = (Value.bool _)) | exact (rfl : _ = (Value.pointer _)) | exact (rfl : _ = (Value.slice _ _ _)) | exact (rfl : _ = (Value.map _)) | exact (rfl : _ = (Value.func _ _ _)) | exact (rfl : _ = (Value.tuple _)) | exact (rfl : _ = (Value.agg _)) | exact (rfl : _ = (Value.string _)) | exact (rfl : _ = (Value.nilFunc)) | exact (rfl : _ = (Value.nilIface)))) (by (first | exact (rfl : _ = (Value.int _ _)) | exact (rfl : _ = (Value.bool _)) | exact (rfl : _ = (Value.pointer _)) | exact (rfl : _ = (Value.slice _ _ _)) | exact (rfl : _ = (Value.map _)) | exact (rfl : _ = (Value.func _ _ _)) | exact (rfl : _ = (Value.tuple _)) | exact (rfl : _ = (Value.agg _)) | exact (rfl : _ = (Value.string _)) | exact (rfl : _ = (Value.nilFunc)) | exact (rfl : _ = (Value.nilIface))))) (fun w' hw' => (robin_circle_pair.calls n R xs.length kind _ _ w' (pair_f n R xs.length kind hxs hR100)).mono (by rintro e w2 ⟨rfl, hb⟩; exact ⟨_, rfl, rfl, hb⟩)) ?_
  (repeat (first | ((with_reducible refine is_AL ?_); (first | ((with_reducible refine is_move ?_); (refine At_plain hF (by (first | exact (rfl : _ = some (Value.int _ _)) | exact (rfl : _ = some (Value.slice _ _ _)) | exact (rfl : _ = some (Value.tuple _)))) ?_)) | ((with_reducible refine is_assign ?_); (refine At_plain hF (by (exact (rfl : _ = some (Value.int _ _)))) ?_)) | ((with_reducible refine is_extract ?_); (refine At_plain hF (by (exact (rfl : _ = some (Value.int _ _)))) ?_)) | ((with_reducible refine is_call ?_); (refine At_len hF rfl ?_)) | with_reducible refine At_nil ?_)) | ((with_reducible refine is_At ?_); (first | with_reducible refine At_seq ?_; intro K hK | with_reducible refine At_block ?_ | with_reducible refine At_region ?_ | with_reducible refine At_then_n ?_ | with_reducible refine At_go (by assumption) ?_))))
  have hmB : -1 ≤ mkB R kind xs.length ∧ mkB R kind xs.length ≤ 1000 := by unfold mkB; (repeat split) <;> omega
  generalize ha : mkA R kind xs.length = a
  generalize hb : mkB R kind xs.length = b at hmB ⊢
  refine At_loop (fun st : Nat × (Option Nat × Nat) => [(4, ip b4), (9, rowV A x.length c), (11, .int .i64 b), (10, .int .i64 a), (33, rowV A x.length c), (34, .int .i64 x.length), (35, .int .i64 st.1)]) (fun st => .obj lp (.loop { rec with state := .busy }) :: .obj b6 (.cells #[.int .i64 n, .int .i64 R] 70 (0, 0)) :: .obj b4 (.cells #[rowV st.2.1 (ys ++ (x.take st.1).map (setR a)).length st.2.2] 22 (0, 0)) :: .obj b3 (.cells #[.int .i64 kind] 3 (0, 0)) :: .row 44 3 enc44 st.2.1 st.2.2 (ys ++ (x.take st.1).map (setR a)) :: .obj D (.deferred (some [])) :: .row 44 3 enc44 A c x :: Ri') (fun st => st.1 ≤ x.length) (fun st => x.length - st.1) (0, A1, c1) ?_ ?_ (Nat.zero_le _) ?_
  ·simp only [List.take_zero, List.map_nil, List.append_nil]
   (repeat (first | exact List.Sublist.refl _ | exact List.Sublist.slnil | refine List.Sublist.cons_cons _ ?_ | refine List.Sublist.cons _ ?_))
  ·(repeat (first | exact True.intro | (refine And.intro ?_ ?_; focus (show _ = (_ : Value); first | exact rfl | (refine Eq.trans (b := Value.int IntKind.i64 _) rfl (congrArg (Value.int IntKind.i64) ?_); omega)))))
  rintro ⟨k, A2, c2⟩ hk K hL ρ1
  simp only at hk
  try dsimp only
  have hz : (ys ++ (x.take k).map (setR a)).length ≤ 100000 := by simp only [List.length_append, List.length_map, List.length_take]; omega
  (repeat (first | ((with_reducible refine is_AL ?_); (first | ((with_reducible refine is_bin ?_); (refine At_plain hF (by (exact (rfl : _ = some (Value.bool _)))) ?_)) | with_reducible refine At_nil ?_)) | ((with_reducible refine is_At ?_); (first | with_reducible refine At_seq ?_; intro K hK | with_reducible refine At_region ?_ | with_reducible refine At_then_n ?_ | with_reducible refine At_go (by assumption) ?_))))
  ((with_reducible refine is_cond ?_); (refine At_cond rfl ?_ ?_ <;> (intro hg; try (simp only [decide_eq_true_eq, decide_eq_false_iff_not, beq_iff_eq, bne_iff_ne, beq_eq_false_iff_ne, bne_eq_false_iff_eq, ne_eq, Bool.not_eq_true', Bool.not_eq_false', Bool.not_true, Bool.not_false, Decidable.not_not] at hg); try (exfalso; first | omega | exact hg True.intro))))
  ·have hlt : k < x.length := by omega
   refine At_rowSome 6 rfl (by omega) ?_
   rintro bA rfl
   have htk := take_snocS x k z44 hlt
   have hzz : ys ++ (x.take k).map (setR a) ++ [setR a (x.getD k z44)] = ys ++ (x.take (k + 1)).map (setR a) := by rw [htk, List.map_append, List.append_assoc]; rfl
   (repeat (first | ((with_reducible refine is_AL ?_); ((with_reducible refine is_index ?_); (refine At_indexS hF rfl rfl (by omega) ?_))) | ((with_reducible refine is_At ?_); (first | with_reducible refine At_seq ?_; intro K hK | with_reducible refine At_block ?_ | with_reducible refine At_region ?_ | with_reducible refine At_skip ?_ | with_reducible refine At_then_n ?_ | with_reducible refine At_go (by assumption) ?_))))
   refine At_loadRow hF 6 (by exact rfl) rfl z44 hlt rfl (by exact (rfl : _ = Value.agg #[.int .i64 (x.getD k z44).f0, .int .i64 (x.getD k z44).f1, .int .i64 (x.getD k z44).f2])) ?_
   generalize x.getD k z44 = y at hzz ⊢
   generalize ys ++ (x.take k).map (setR a) = zs at hz hzz ⊢
   ((repeat (first | ((with_reducible refine is_AL ?_); (first | ((with_reducible refine is_move ?_); (refine At_plain hF (by (exact (rfl : _ = some (Value.int _ _)))) ?_)) | ((with_reducible refine is_field ?_); (refine At_field hF rfl ?_)) | ((with_reducible refine is_load ?_); (first | refine At_load hF 3 (by exact rfl) rfl (by (exact (rfl : _ = some (Value.slice _ _ _)))) ?_ | refine At_loadB hF 0 rfl rfl rfl ?_)) | ((with_reducible refine is_store ?_); (first | refine At_store_0 hF rfl (by (exact (rfl : _ = (Value.int _ _)))) (by (exact of_decide_eq_true rfl)) (by exact rfl) (by exact rfl) (by (exact (rfl : _ = List.toArray (_ :: _)))) ?_ | refine At_storeB_0 hF rfl rfl rfl rfl (by simp [Value.one1, epair]) ?_)) | with_reducible refine At_nil ?_)) | ((with_reducible refine is_At ?_); (first | with_reducible refine At_seq ?_; intro K hK | with_reducible refine At_region ?_ | with_reducible refine At_then_n ?_ | with_reducible refine At_go (by assumption) ?_)))); (first | ((with_reducible refine is_alloc ?_); (refine At_alloc hF (by (exact (rfl : _ = List.toArray (_ :: _)))) ?_; intro b13)) | ((with_reducible refine is_bslice ?_); (refine At_sliceA_1 hF (by decide) rfl rfl ?_; intro b13))); (repeat (first | ((with_reducible refine is_AL ?_); (first | ((with_reducible refine is_move ?_); (refine At_plain hF (by (exact (rfl : _ = some (Value.int _ _)))) ?_)) | ((with_reducible refine is_field ?_); (refine At_field hF rfl ?_)) | ((with_reducible refine is_load ?_); (first | refine At_load hF 3 (by exact rfl) rfl (by (exact (rfl : _ = some (Value.slice _ _ _)))) ?_ | refine At_loadB hF 0 rfl rfl rfl ?_)) | ((with_reducible refine is_store ?_); (first | refine At_store_0 hF rfl (by (exact (rfl : _ = (Value.int _ _)))) (by (exact of_decide_eq_true rfl)) (by exact rfl) (by exact rfl) (by (exact (rfl : _ = List.toArray (_ :: _)))) ?_ | refine At_storeB_0 hF rfl rfl rfl rfl (by simp [Value.one1, epair]) ?_)) | with_reducible refine At_nil ?_)) | ((with_reducible refine is_At ?_); (first | with_reducible refine At_seq ?_; intro K hK | with_reducible refine At_region ?_ | with_reducible refine At_then_n ?_ | with_reducible refine At_go (by assumption) ?_)))); (first | ((with_reducible refine is_alloc ?_); (refine At_alloc hF (by (exact (rfl : _ = List.toArray (_ :: _)))) ?_; intro bs)) | ((with_reducible refine is_bslice ?_); (refine At_sliceA_1 hF (by decide) rfl rfl ?_; intro bs))); (repeat (first | ((with_reducible refine is_AL ?_); (first | ((with_reducible refine is_move ?_); (refine At_plain hF (by (exact (rfl : _ = some (Value.int _ _)))) ?_)) | ((with_reducible refine is_field ?_); (refine At_field hF rfl ?_)) | ((with_reducible refine is_load ?_); (first | refine At_load hF 3 (by exact rfl) rfl (by (exact (rfl : _ = some (Value.slice _ _ _)))) ?_ | refine At_loadB hF 0 rfl rfl rfl ?_)) | ((with_reducible refine is_store ?_); (first | refine At_store_0 hF rfl (by (exact (rfl : _ = (Value.int _ _)))) (by (exact of_decide_eq_true rfl)) (by exact rfl) (by exact rfl) (by (exact (rfl : _ = List.toArray (_ :: _)))) ?_ | refine At_storeB_0 hF rfl rfl rfl rfl (by simp [Value.one1, epair]) ?_)) | with_reducible refine At_nil ?_)) | ((with_reducible refine is_At ?_); (first | with_reducible refine At_seq ?_; intro K hK | with_reducible refine At_region ?_ | with_reducible refine At_then_n ?_ | with_reducible refine At_go (by assumption) ?_)))))
   refine At_append_6 hF 0 rfl rfl rfl rfl (x0 := setR a y) rfl (by decide) (by simp [Value.one1]) (by simp only [TS.bytes]; omega) (by omega) ?_
   intro A3 c3
   rw [show zs.length + 1 = (zs ++ [setR a y]).length by simp, hzz]
   (repeat (first | ((with_reducible refine is_AL ?_); (first | ((with_reducible refine is_move ?_); (refine At_plain hF (by (exact (rfl : _ = some (Value.int _ _)))) ?_)) | ((with_reducible refine is_bin ?_); ((with_reducible refine is_badd ?_); (refine At_add hF rfl rfl (by omega) ?_))) | ((with_reducible refine is_store ?_); (refine At_store_4 hF rfl (by (exact (rfl : _ = (Value.slice _ _ _)))) (by (exact of_decide_eq_true rfl)) (by exact rfl) (by exact rfl) (by (exact (rfl : _ = List.toArray (_ :: _)))) ?_)) | with_reducible refine At_nil ?_)) | ((with_reducible refine is_At ?_); (first | with_reducible refine At_region ?_ | with_reducible refine At_then_n ?_ | with_reducible refine At_inb_n ?_ | with_reducible refine At_go (by assumption) ?_))))
   refine At.sub ?_ (hL (k + 1, A3, c3) _ (by simp only; omega) (by simp only; omega) ?_)
   ·(repeat (first | exact List.Sublist.refl _ | exact List.Sublist.slnil | refine List.Sublist.cons_cons _ ?_ | refine List.Sublist.cons _ ?_))
   ·(repeat (first | exact True.intro | (refine And.intro ?_ ?_; focus (show _ = (_ : Value); first | exact rfl | (refine Eq.trans (b := Value.int IntKind.i64 _) rfl (congrArg (Value.int IntKind.i64) ?_); omega)))))
  obtain rfl : k = x.length := by omega
  rw [List.take_length] at hz ⊢
  have hmr : (mkRaw n R kind (xs ++ [(xs.length, (A, c), x)]).length) = mkRaw n R kind xs.length ++ mkRnd n R kind xs.length := by rw [List.length_append]; rfl
  have hmk : mkRnd n R kind xs.length = (rndL n R xs.length).map (setR a) ++ if 0 ≤ b then (rndL n R xs.length).map (trn b) else [] := by rw [mkRnd, ha, hb]
  (repeat (first | ((with_reducible refine is_AL ?_); (first | ((with_reducible refine is_move ?_); (refine At_plain hF (by (exact (rfl : _ = some (Value.int _ _)))) ?_)) | ((with_reducible refine is_bin ?_); (refine At_plain hF (by (exact (rfl : _ = some (Value.bool _)))) ?_)) | with_reducible refine At_nil ?_)) | ((with_reducible refine is_At ?_); (first | with_reducible refine At_seq ?_; intro K hK | with_reducible refine At_region ?_ | with_reducible refine At_exit ?_ | with_reducible refine At_then_n ?_ | with_reducible refine At_then_e ?_ | with_reducible refine At_inb_e rfl ?_ | with_reducible refine At_go (by assumption) ?_))))
  ((with_reducible refine is_cond ?_); (refine At_cond rfl ?_ ?_ <;> (intro hg; try (simp only [decide_eq_true_eq, decide_eq_false_iff_not, beq_iff_eq, bne_iff_ne, beq_eq_false_iff_ne, bne_eq_false_iff_eq, ne_eq, Bool.not_eq_true', Bool.not_eq_false', Bool.not_true, Bool.not_false, Decidable.not_not] at hg); try (exfalso; first | omega | exact hg True.intro))))
  ·refine At_drawE hF 4 [0, 1, 2] [1, 2] [3] (.obj lp (.loop { rec with state := .busy }) :: .obj b6 (.cells #[.int .i64 n, .int .i64 R] 70 (0, 0)) :: .obj b4 (.cells #[rowV A2 (ys ++ x.map (setR a)).length c2] 22 (0, 0)) :: .obj b3 (.cells #[.int .i64 kind] 3 (0, 0)) :: .row 44 3 enc44 A2 c2 (ys ++ x.map (setR a)) :: .obj D (.deferred (some [])) :: .row 44 3 enc44 A c x :: Ri') (by kernel_rfl) (by decide +kernel) (by decide +kernel) ?_; simp only [List.drop_succ_cons, List.drop_zero]; (repeat ((with_reducible refine is_AQF ?_); first | refine AQF_early (by decide) (by exact (rfl : _ = some (Oper.mk _ _ _ _ _ _))) (by intro K Q hK; (repeat (first | ((with_reducible refine is_move ?_); (refine At_plain hF (by (first | exact (rfl : _ = some (Value.int _ _)) | exact (rfl : _ = some (Value.slice _ _ _)))) ?_)) | ((with_reducible refine is_load ?_); (refine At_load hF 2 (by exact rfl) rfl (by (exact (rfl : _ = some (Value.slice _ _ _)))) ?_)))); exact At_nilK hK) ?_ | refine AQF_late (by decide) (by exact (rfl : _ = some (Oper.mk _ _ _ _ _ _))) (by intro E K Q hK; simp only [List.cons_append, List.nil_append] at hK ⊢; (repeat (first | ((with_reducible refine is_move ?_); (refine At_plain hF (by (first | exact (rfl : _ = some (Value.int _ _)) | exact (rfl : _ = some (Value.slice _ _ _)))) ?_)) | ((with_reducible refine is_load ?_); (refine At_load hF 2 (by exact rfl) rfl (by (exact (rfl : _ = some (Value.slice _ _ _)))) ?_)))); exact At_nilK hK) ?_))
   (repeat ((with_reducible refine is_AQF ?_); first | refine AQF_early (by decide) (by exact (rfl : _ = some (Oper.mk _ _ _ _ _ _))) (by intro K Q hK; skip; exact At_nilK hK) ?_ | refine AQF_late (by decide) (by exact (rfl : _ = some (Oper.mk _ _ _ _ _ _))) (by intro E K Q hK; simp only [List.cons_append, List.nil_append] at hK ⊢; skip; exact At_nilK hK) ?_))
   refine AQF_done ?_
   (refine WAt_cons ?_ (by exact (rfl : _ = some (Oper.mk _ _ _ _ _ _))) ?_; (focus (repeat (first | exact List.Sublist.refl _ | exact List.Sublist.slnil | refine List.Sublist.cons_cons _ ?_ | refine List.Sublist.cons _ ?_))); intro K Q hK)
   refine At_callM hF E40 rfl (Post := fun u Rs => ∃ A' c' l', u = rowV A' l'.length c' ∧ l'.Perm (x.map (trn b)) ∧ (A' = none → l'.length = 0) ∧ Rs = [.row 44 3 enc44 A' c' l']) (arg2 (by (first | exact (rfl : _ = (Value.int _ _)) | exact (rfl : _ = (Value.bool _)) | exact (rfl : _ = (Value.pointer _)) | exact (rfl : _ = (Value.slice _ _ _)) | exact (rfl : _ = (Value.map _)) | exact (rfl : _ = (Value.func _ _ _)) | exact (rfl : _ = (Value.tuple _)) | exact (rfl : _ = (Value.agg _)) | exact (rfl : _ = (Value.string _)) | exact (rfl : _ = (Value.nilFunc)) | exact (rfl : _ = (Value.nilIface)))) (by (first | exact (rfl : _ = (Value.int _ _)) | exact (rfl : _ = (Value.bool _)) | exact (rfl : _ = (Value.pointer _)) | exact (rfl : _ = (Value.slice _ _ _)) | exact (rfl : _ = (Value.map _)) | exact (rfl : _ = (Value.func _ _ _)) | exact (rfl : _ = (Value.tuple _)) | exact (rfl : _ = (Value.agg _)) | exact (rfl : _ = (Value.string _)) | exact (rfl : _ = (Value.nilFunc)) | exact (rfl : _ = (Value.nilIface))))) (fun w' hw' => ?_) ?_
   ·have hc := C_own44 (e := 44) (A := A) (c := c) (l := x) hw' (by simp)
    refine (turned_rets w' _ c x b hc (by omega)).mono ?_
    rintro _ w2 ⟨_, rfl, A', c', l', rfl, ⟨h1, h2⟩, h⟩
    rw [show x.length = l'.length by rw [h1.length_eq, List.length_map]]
    exact ⟨_, rfl, _, ⟨A', c', l', rfl, h1, (by
     rintro rfl
     obtain ⟨_, _, _, h4, _⟩ : RowOk 44 3 enc44 none c' l' w2 := h.ok _ (List.mem_cons_self ..)
     rw [h4]; rfl), rfl⟩, h⟩
   rintro _ _ ⟨A', c', l', rfl, hl', hnone, rfl⟩
   have hll : l'.length = x.length := by rw [hl'.length_eq, List.length_map]
   refine At_nilK (hK _ _ ?_)
   (refine WAt_nil ?_ ?_; (focus (repeat (first | exact List.Sublist.refl _ | exact List.Sublist.slnil | refine List.Sublist.cons_cons _ ?_ | refine List.Sublist.cons _ ?_))))
   refine At_spread hF (l := ys ++ x.map (setR a)) (ys := l') 5 rfl (by exact rfl) rfl (by exact rfl) rfl (fun w' hw' => lies_C (fun _ _ _ h => k44_open h) (C_own44 (e := 44) (A := A') (c := c') (l := l') hw' (by simp))) (by decide) ?_ (by simp only [TS.bytes]; omega) (by omega) ?_ ?_
   ·intro y _ u hu
    simp only [enc44, List.mem_cons, List.mem_nil_iff, or_false] at hu
    rcases hu with rfl | rfl | rfl <;> rfl
   ·intro e
    exact hnone (Option.map_eq_none_iff.1 e)
   intro A5 c5
   simp only [List.set_cons_succ, List.set_cons_zero]
   rw [← List.length_append]
   (repeat (first | ((with_reducible refine is_AL ?_); (first | ((with_reducible refine is_store ?_); (refine At_store_3 hF rfl (by (exact (rfl : _ = (Value.slice _ _ _)))) (by (exact of_decide_eq_true rfl)) (by exact rfl) (by exact rfl) (by (exact (rfl : _ = List.toArray (_ :: _)))) ?_)) | with_reducible refine At_nil ?_)) | ((with_reducible refine is_At ?_); (with_reducible refine At_inb_n ?_))))
   refine rnd_n ((A5, c5), ys ++ x.map (setR a) ++ l') ?_ ?_
   ·(repeat (first | exact List.Sublist.refl _ | exact List.Sublist.slnil | refine List.Sublist.cons_cons _ ?_ | refine List.Sublist.cons _ ?_))
   ·simp only
    rw [hmr, hmk, if_pos hg, ← List.append_assoc]
    exact (hφ.append (hx.map _)).append (hl'.trans (hx.map _))
  ·(repeat ((with_reducible refine is_At ?_); (first | with_reducible refine At_skip ?_ | with_reducible refine At_inb_n ?_)))
   refine rnd_n ((A2, c2), ys ++ x.map (setR a)) ?_ ?_
   ·(repeat (first | exact List.Sublist.refl _ | exact List.Sublist.slnil | refine List.Sublist.cons_cons _ ?_ | refine List.Sublist.cons _ ?_))
   ·simp only
    rw [hmr, hmk, if_neg (by omega), List.append_nil]
    exact hφ.append (hx.map _)
 ·rintro D xs ⟨⟨A1, c1⟩, ys⟩ ⟨hok, hl⟩ hφ
  simp only at hφ
  rw [hl] at hφ
  have hyl : ys.length ≤ 10200 := by
   have := hφ.length_eq; have h2 := mkRaw_len n R kind R hR100
   have h3 : R * 102 ≤ 100 * 102 := Nat.mul_le_mul_right _ (by omega)
   omega
  simp only [List.cons_append, List.nil_append]
  (repeat (first | ((with_reducible refine is_AL ?_); ((with_reducible refine is_load ?_); (refine At_load hF 3 (by exact rfl) rfl (by (exact (rfl : _ = some (Value.slice _ _ _)))) ?_))) | ((with_reducible refine is_At ?_); (first | with_reducible refine At_seq ?_; intro K hK | with_reducible refine At_region ?_ | with_reducible refine At_then_n ?_ | with_reducible refine At_inb_n ?_ | with_reducible refine At_go (by assumption) ?_))))
  refine At_callM hF E41 rfl (Post := fun u Rs => ∃ A' c' l', u = rowV A' l'.length c' ∧ (l'.Perm ys ∧ SrtL l') ∧ Rs = [.row 44 3 enc44 A' c' l']) (arg2 (by (first | exact (rfl : _ = (Value.int _ _)) | exact (rfl : _ = (Value.bool _)) | exact (rfl : _ = (Value.pointer _)) | exact (rfl : _ = (Value.slice _ _ _)) | exact (rfl : _ = (Value.map _)) | exact (rfl : _ = (Value.func _ _ _)) | exact (rfl : _ = (Value.tuple _)) | exact (rfl : _ = (Value.agg _)) | exact (rfl : _ = (Value.string _)) | exact (rfl : _ = (Value.nilFunc)) | exact (rfl : _ = (Value.nilIface)))) (by (first | exact (rfl : _ = (Value.int _ _)) | exact (rfl : _ = (Value.bool _)) | exact (rfl : _ = (Value.pointer _)) | exact (rfl : _ = (Value.slice _ _ _)) | exact (rfl : _ = (Value.map _)) | exact (rfl : _ = (Value.func _ _ _)) | exact (rfl : _ = (Value.tuple _)) | exact (rfl : _ = (Value.agg _)) | exact (rfl : _ = (Value.string _)) | exact (rfl : _ = (Value.nilFunc)) | exact (rfl : _ = (Value.nilIface))))) (fun w' hw' => ?_) ?_
  ·have hc := C_own44 (e := 44) (A := A1) (c := c1) (l := ys) hw' (by simp)
   refine (sorted_rets w' _ c1 _ hc (by omega)).mono ?_
   rintro _ w2 ⟨_, rfl, A', c', l', rfl, h1, h⟩
   rw [← h1.1.length_eq]
   exact ⟨_, rfl, _, ⟨A', c', l', rfl, h1, rfl⟩, h⟩
  rintro _ _ ⟨A', c', l', rfl, hl', rfl⟩
  simp only [List.cons_append, List.nil_append]
  (repeat (first | ((with_reducible refine is_AL ?_); (first | ((with_reducible refine is_assign ?_); (refine At_plain hF (by (exact (rfl : _ = some (Value.int _ _)))) ?_)) | ((with_reducible refine is_store ?_); (refine At_store_4 hF rfl (by (exact (rfl : _ = (Value.slice _ _ _)))) (by (exact of_decide_eq_true rfl)) (by exact rfl) (by exact rfl) (by (exact (rfl : _ = List.toArray (_ :: _)))) ?_)) | with_reducible refine At_nil ?_)) | ((with_reducible refine is_At ?_); (first | with_reducible refine At_ret ?_ | with_reducible refine At_then_n ?_ | with_reducible refine At_go (by assumption) ?_))))
  (refine At.pick [1, 4, 0] (by decide) (R' := [_, _, _]) rfl ?_)
  refine At_retm2 rfl (rv_cell (by decide) (by exact rfl) 0 rfl rfl) (rv_tmp (by decide)) (fun w' hw' => ⟨_, rfl, A', c', l', rfl, ⟨hl'.1.trans hφ, hl'.2⟩, hw'.sub (List.sublist_cons_self _ _)⟩)
 ·intro D e st _ h
  exact h.elim
end Go.Proofs.Ytecgklfcblpkdaa.RB

/- slices.Equal over meetings. -/
namespace Go.Proofs.Ytecgklfcblpkdaa.RB
open Go.RowKit Go.Proofs.Ytecgklfcblpkdaa.P Go.Proofs.YtecgklfcblpkdaaW.PrintWords Go.Proofs.YtecgklfcblpkdaaW.PrintLast Go.Proofs.YtecgklfcblpkdaaW.PrintMore
open XW RegInv
attribute [local irreducible] Addr.add
set_option linter.unusedSimpArgs false
set_option linter.unusedVariables false
instance dec44 : DecidableEq S44 := fun a b => decidable_of_iff (a.f0 = b.f0 ∧ a.f1 = b.f1 ∧ a.f2 = b.f2) ⟨fun h => by cases a; cases b; simp_all, fun h => by subst h; exact ⟨rfl, rfl, rfl⟩⟩
def v44 (x : S44) : Value := .agg #[.int .i64 x.f0, .int .i64 x.f1, .int .i64 x.f2]
theorem run_ne44 (x y : Operand) (a b : S44) (w : World) : (do eqGuard .neq 44 x y (v44 a) (v44 b); binOp .neq 44 (v44 a) (v44 b) : Sem Value).run Try.prog w = .ok (.bool (decide (a ≠ b))) w := by
  have hg : Try.prog.eqGuardType Try.prog.depth 44 = false := by kernel_rfl
  obtain ⟨d, hd⟩ : ∃ d, Op.maxDepth = d + 2 := ⟨Op.maxDepth - 2, by decide⟩
  have h1 := eqA44 d w a.f0 b.f0 a.f1 b.f1 a.f2 b.f2
  rw [← hd] at h1
  have e1 : (a.f0 == b.f0 && (a.f1 == b.f1 && a.f2 == b.f2)) = decide (a = b) := by
    rw [Bool.eq_iff_iff]
    cases a; cases b; simp
  rw [e1] at h1
  have e2 : decide (a ≠ b) = !decide (a = b) := by simp
  rw [e2]
  have h2 : (eqGuard .neq 44 x y (v44 a) (v44 b)).run Try.prog w = .ok () w := by
    simp [eqGuard, v44, program, hg, Sem.run_bind, Sem.run, Result.andThen]
  rw [Sem.run_bind, h2]
  simp only [Result.andThen]
  have e3 : binOp .neq 44 (v44 a) (v44 b) = (do pure (.bool (!(← Op.equal 44 (v44 a) (v44 b))))) := rfl
  rw [e3]
  show (Sem.run Try.prog _ w) = _
  have h3 : (Op.equal 44 (v44 a) (v44 b)).run Try.prog w = .ok (decide (a = b)) w := by
    simp only [Op.equal]
    exact h1
  rw [Sem.run_bind, h3]
  rfl
theorem At_ne44 {F : Fence} {n : Nat} {Q : XW.Post} {ρ : Nat → Value} {ds : List Deferred} {base : World} {R : List Res} {ops : Array Oper} (hF : Wide F) {dst : Option Tmp} {ty : TypeId} {x y : Operand} {pos : String} {af : Array Edge} {rest : List Oper} (a b : S44) (hx : xv n ρ x = v44 a) (hy : xv n ρ y = v44 b) (h : AL F Try.prog n Q ops rest (updO ρ dst (.bool (decide (a ≠ b)))) ds base R) :
    AL F Try.prog n Q ops (⟨dst, .binOp .neq 44 x y 44, ty, pos, af, none⟩ :: rest) ρ ds base R := ⟨fun w hw => XL_gives hF rfl (by simp) (.inl (by
  have := run_ne44 x y a b w
  simp only [execOp, hx, hy]
  rw [Sem.run_bind, this]; rfl)) (h.use w hw)⟩
theorem E44 : Enters Try.prog 44 := enters Try.func44 (by kernel_rfl) rfl
set_option maxHeartbeats 4000000 in
theorem eq_rets (w0 : World) (A B : Option Addr) (c c' : Nat) (l m : List S44) (hr : Kd.C k44 w0 A l.length l) (hm : Kd.C k44 w0 B m.length m) :
    Rets Try.prog 44 #[.slice A l.length c, .slice B m.length c'] w0 fun u w' => u = .bool (decide (l = m)) ∧ Below w0.heap.size w0 w' := by
  have hF := wide_wide
  have hmx := hr.2.1
  refine rets_at (n := 26) Try.func44 rfl Try.ntmps44 (by simp) ?_
  (repeat (first | ((with_reducible refine is_AL ?_); (first | ((with_reducible refine is_move ?_); (refine At_plain hF (by (exact (rfl : _ = some (Value.slice _ _ _)))) ?_)) | ((with_reducible refine is_bin ?_); (refine At_plain hF (by (exact (rfl : _ = some (Value.bool _)))) ?_)) | ((with_reducible refine is_assign ?_); (refine At_plain hF (by (exact (rfl : _ = some (Value.bool _)))) ?_)) | ((with_reducible refine is_call ?_); (refine At_len hF rfl ?_)) | with_reducible refine At_nil ?_)) | ((with_reducible refine is_At ?_); (first | with_reducible refine At_seq ?_; intro K hK | with_reducible refine At_region ?_ | with_reducible refine At_then_n ?_ | with_reducible refine At_go (by assumption) ?_))))
  ((with_reducible refine is_cond ?_); (refine At_cond rfl ?_ ?_ <;> (intro hg; try (simp only [decide_eq_true_eq, decide_eq_false_iff_not, beq_iff_eq, bne_iff_ne, beq_eq_false_iff_ne, bne_eq_false_iff_eq, ne_eq, Bool.not_eq_true', Bool.not_eq_false', Bool.not_true, Bool.not_false, Decidable.not_not] at hg); try (exfalso; first | omega | exact hg True.intro))))
  · have hne : decide (l = m) = false := by rw [decide_eq_false_iff_not]; rintro rfl; omega
    rw [hne]
    (repeat (first | ((with_reducible refine is_AL ?_); (first | ((with_reducible refine is_assign ?_); (refine At_plain hF (by (exact (rfl : _ = some (Value.bool _)))) ?_)) | with_reducible refine At_nil ?_)) | ((with_reducible refine is_At ?_); (first | with_reducible refine At_seq ?_; intro K hK | with_reducible refine At_region ?_ | with_reducible refine At_ret ?_ | with_reducible refine At_then_n ?_ | with_reducible refine At_then_r ?_ | with_reducible refine At_go (by assumption) ?_))))
    exact At_ret1 rfl (rv_tmp (by decide)) (fun w' hw' => ⟨_, rfl, rfl, hw'.below⟩)
  have hlm : l.length = m.length := by omega
  (repeat (first | ((with_reducible refine is_AL ?_); (first | ((with_reducible refine is_move ?_); (refine At_plain hF (by (first | exact (rfl : _ = some (Value.int _ _)) | exact (rfl : _ = some (Value.slice _ _ _)))) ?_)) | ((with_reducible refine is_call ?_); (refine At_len hF rfl ?_)) | with_reducible refine At_nil ?_)) | ((with_reducible refine is_At ?_); (first | with_reducible refine At_seq ?_; intro K hK | with_reducible refine At_block ?_ | with_reducible refine At_region ?_ | with_reducible refine At_skip ?_ | with_reducible refine At_then_n ?_ | with_reducible refine At_go (by assumption) ?_))))
  refine At_loop (fun i : Nat => [(0, .slice A l.length c), (1, .slice B m.length c'), (11, .slice A l.length c), (12, .int .i64 l.length), (13, .int .i64 i)]) (fun i => []) (fun i => i ≤ l.length ∧ l.take i = m.take i) (fun i => l.length - i) 0 ?_ ?_ ⟨Nat.zero_le _, rfl⟩ ?_
  · (repeat (first | exact List.Sublist.refl _ | exact List.Sublist.slnil | refine List.Sublist.cons_cons _ ?_ | refine List.Sublist.cons _ ?_))
  · (repeat (first | exact True.intro | (refine And.intro ?_ ?_; focus (show _ = (_ : Value); first | exact rfl | (refine Eq.trans (b := Value.int IntKind.i64 _) rfl (congrArg (Value.int IntKind.i64) ?_); omega)))))
  rintro i ⟨hi, htk⟩ K hL ρ1
  try dsimp only
  (repeat (first | ((with_reducible refine is_AL ?_); (first | ((with_reducible refine is_bin ?_); (refine At_plain hF (by (exact (rfl : _ = some (Value.bool _)))) ?_)) | with_reducible refine At_nil ?_)) | ((with_reducible refine is_At ?_); (first | with_reducible refine At_seq ?_; intro K hK | with_reducible refine At_region ?_ | with_reducible refine At_then_n ?_ | with_reducible refine At_go (by assumption) ?_))))
  ((with_reducible refine is_cond ?_); (refine At_cond rfl ?_ ?_ <;> (intro hg; try (simp only [decide_eq_true_eq, decide_eq_false_iff_not, beq_iff_eq, bne_iff_ne, beq_eq_false_iff_ne, bne_eq_false_iff_eq, ne_eq, Bool.not_eq_true', Bool.not_eq_false', Bool.not_true, Bool.not_false, Decidable.not_not] at hg); try (exfalso; first | omega | exact hg True.intro))))
  · have hlt : i < l.length := by omega
    obtain ⟨ad, hA, hcell⟩ := C_flat (enc := enc44) (fun h => k44_open h) hr z44 i hlt
    obtain ⟨bd, hB, hcell'⟩ := C_flat (enc := enc44) (fun h => k44_open h) hm z44 i (by omega)
    have h1 := take_snocS l i z44 hlt
    have h2 := take_snocS m i z44 (by omega)
    have hd : l.getD i z44 ≠ m.getD i z44 → l ≠ m := fun h e => h (by rw [e])
    generalize l.getD i z44 = x at hcell h1 hd
    generalize m.getD i z44 = y at hcell' h2 hd
    (repeat (first | ((with_reducible refine is_AL ?_); (first | ((with_reducible refine is_move ?_); (refine At_plain hF (by (exact (rfl : _ = some (Value.int _ _)))) ?_)) | ((with_reducible refine is_assign ?_); (refine At_plain hF (by (exact (rfl : _ = some (Value.int _ _)))) ?_)) | with_reducible refine At_nil ?_)) | ((with_reducible refine is_At ?_); (first | with_reducible refine At_seq ?_; intro K hK | with_reducible refine At_block ?_ | with_reducible refine At_region ?_ | with_reducible refine At_skip ?_ | with_reducible refine At_then_n ?_ | with_reducible refine At_go (by assumption) ?_))))
    refine At_draw hF 9 (by kernel_rfl) (by decide +kernel) ?_; simp only [List.take_succ_cons, List.take_zero, List.drop_succ_cons, List.drop_zero]; (repeat ((with_reducible refine is_AQc ?_); refine AQ_cons (by intro K Q hK; (repeat (first | ((with_reducible refine is_move ?_); (refine At_plain hF (by (first | exact (rfl : _ = some (Value.int _ _)) | exact (rfl : _ = some (Value.slice _ _ _)))) ?_)) | ((with_reducible refine is_index ?_); (refine At_indexC hF rfl (by assumption) rfl (by omega) ?_)))); exact At_nilK hK) ?_))
    refine AQ_cons (by intro K Q hK; refine At_loadCS (vs := [.int .i64 x.f0, .int .i64 x.f1, .int .i64 x.f2]) hF (by exact rfl) (by exact rfl) hcell ?_; exact At_nilK hK) ?_
    (repeat ((with_reducible refine is_AQc ?_); refine AQ_cons (by intro K Q hK; (repeat (first | ((with_reducible refine is_move ?_); (refine At_plain hF (by (first | exact (rfl : _ = some (Value.int _ _)) | exact (rfl : _ = some (Value.slice _ _ _)))) ?_)) | ((with_reducible refine is_index ?_); (refine At_indexC hF rfl (by assumption) rfl (by omega) ?_)))); exact At_nilK hK) ?_))
    refine AQ_cons (by intro K Q hK; refine At_loadCS (vs := [.int .i64 y.f0, .int .i64 y.f1, .int .i64 y.f2]) hF (by exact rfl) (by exact rfl) hcell' ?_; exact At_nilK hK) ?_
    refine AQ_cons (by intro K Q hK; refine At_ne44 hF x y rfl rfl ?_; exact At_nilK hK) ?_
    (repeat ((with_reducible refine is_AQc ?_); refine AQ_cons (by intro K Q hK; skip; exact At_nilK hK) ?_)); refine AQ_done ?_
    (repeat (first | ((with_reducible refine is_AL ?_); (with_reducible refine At_nil ?_)) | ((with_reducible refine is_At ?_); (first | with_reducible refine At_then_n ?_ | with_reducible refine At_go (by assumption) ?_))))
    ((with_reducible refine is_cond ?_); (refine At_cond rfl ?_ ?_ <;> (intro hg; try (simp only [decide_eq_true_eq, decide_eq_false_iff_not, beq_iff_eq, bne_iff_ne, beq_eq_false_iff_ne, bne_eq_false_iff_eq, ne_eq, Bool.not_eq_true', Bool.not_eq_false', Bool.not_true, Bool.not_false, Decidable.not_not] at hg); try (exfalso; first | omega | exact hg True.intro))))
    · have hne : decide (l = m) = false := by rw [decide_eq_false_iff_not]; exact hd hg
      rw [hne]
      (repeat (first | ((with_reducible refine is_AL ?_); (first | ((with_reducible refine is_assign ?_); (refine At_plain hF (by (exact (rfl : _ = some (Value.bool _)))) ?_)) | with_reducible refine At_nil ?_)) | ((with_reducible refine is_At ?_); (first | with_reducible refine At_seq ?_; intro K hK | with_reducible refine At_region ?_ | with_reducible refine At_ret ?_ | with_reducible refine At_then_n ?_ | with_reducible refine At_then_r ?_ | with_reducible refine At_inb_r ?_ | with_reducible refine At_go (by assumption) ?_))))
      exact At_ret1 rfl (rv_tmp (by decide)) (fun w' hw' => ⟨_, rfl, rfl, hw'.below⟩)
    · (repeat (first | ((with_reducible refine is_AL ?_); (first | ((with_reducible refine is_move ?_); (refine At_plain hF (by (exact (rfl : _ = some (Value.int _ _)))) ?_)) | ((with_reducible refine is_bin ?_); ((with_reducible refine is_badd ?_); (refine At_add hF rfl rfl (by omega) ?_))) | with_reducible refine At_nil ?_)) | ((with_reducible refine is_At ?_); (first | with_reducible refine At_region ?_ | with_reducible refine At_skip ?_ | with_reducible refine At_then_n ?_ | with_reducible refine At_inb_n ?_ | with_reducible refine At_go (by assumption) ?_))))
      refine At.sub ?_ (hL (i + 1) _ ⟨hlt, by rw [h1, h2, htk, hg]⟩ (by omega) ?_)
      · (repeat (first | exact List.Sublist.refl _ | exact List.Sublist.slnil | refine List.Sublist.cons_cons _ ?_ | refine List.Sublist.cons _ ?_))
      · (repeat (first | exact True.intro | (refine And.intro ?_ ?_; focus (show _ = (_ : Value); first | exact rfl | (refine Eq.trans (b := Value.int IntKind.i64 _) rfl (congrArg (Value.int IntKind.i64) ?_); omega)))))
  obtain rfl : i = l.length := by omega
  have he : l = m := by rw [List.take_length, hlm, List.take_length] at htk; exact htk
  have hne : decide (l = m) = true := decide_eq_true he
  (repeat (first | ((with_reducible refine is_AL ?_); (first | ((with_reducible refine is_assign ?_); (refine At_plain hF (by (exact (rfl : _ = some (Value.bool _)))) ?_)) | with_reducible refine At_nil ?_)) | ((with_reducible refine is_At ?_); (first | with_reducible refine At_seq ?_; intro K hK | with_reducible refine At_region ?_ | with_reducible refine At_ret ?_ | with_reducible refine At_exit ?_ | with_reducible refine At_then_n ?_ | with_reducible refine At_then_e ?_ | with_reducible refine At_inb_e rfl ?_ | with_reducible refine At_go (by assumption) ?_))))
  exact At_ret1 rfl (rv_tmp (by decide)) (fun w' hw' => ⟨_, rfl, congrArg Value.bool hne.symm, hw'.below⟩)
end Go.Proofs.Ytecgklfcblpkdaa.RB

/- robin.Check: what it decides, in plain Lean. -/
namespace Go.Proofs.Ytecgklfcblpkdaa.RB
open Go.RowKit Go.Proofs.Ytecgklfcblpkdaa.P Go.Proofs.YtecgklfcblpkdaaW.PrintWords Go.Proofs.YtecgklfcblpkdaaW.PrintLast Go.Proofs.YtecgklfcblpkdaaW.PrintMore
open XW RegInv
set_option linter.unusedSimpArgs false
set_option linter.unusedVariables false
def bef (x y : S44) : Prop := x.f0 < y.f0 ∨ (x.f0 = y.f0 ∧ x.f1 < y.f1)
instance (x y : S44) : Decidable (bef x y) := inferInstanceAs (Decidable (_ ∨ _))
def okX (n Q : Int) (x : S44) : Prop := 0 ≤ x.f0 ∧ x.f0 < Q ∧ (0 ≤ x.f1 ∧ x.f1 < n) ∧ (0 ≤ x.f2 ∧ x.f2 < n) ∧ x.f1 ≠ x.f2
instance (n Q : Int) (x : S44) : Decidable (okX n Q x) := inferInstanceAs (Decidable (_ ∧ _))
def slots (m : List S44) : List (Int × Int) := m.flatMap fun x => [(x.f0, x.f1), (x.f0, x.f2)]
def okI (n Q : Int) (m : List S44) (i : Nat) : Prop := okX n Q (m.getD i z44) ∧ (0 < i → bef (m.getD (i - 1) z44) (m.getD i z44)) ∧ ((m.getD i z44).f0, (m.getD i z44).f1) ∉ slots (m.take i) ∧ ((m.getD i z44).f0, (m.getD i z44).f2) ∉ slots (m.take i)
instance (n Q : Int) (m : List S44) (i : Nat) : Decidable (okI n Q m i) := inferInstanceAs (Decidable (_ ∧ _))
def byR (m : List S44) (r : Int) : List S44 := m.filter fun x => x.f0 == r
def pr (x : S44) : Int × Int := (min x.f1 x.f2, max x.f1 x.f2)
def metL (m : List S44) (R : Nat) (kind : Int) : Nat → List (Int × Int)
  | 0 => []
  | r + 1 => metL m R kind r ++ (byR m (mkA R kind r)).map pr
def okR2 (m : List S44) (R : Nat) (kind : Int) (r : Nat) : Prop := (metL m R kind (r + 1)).Nodup ∧ (0 ≤ mkB R kind r → (byR m (mkB R kind r)).Perm ((byR m (mkA R kind r)).map (trn (mkB R kind r))))
instance (m : List S44) (R : Nat) (kind : Int) (r : Nat) : Decidable (okR2 m R kind r) := inferInstanceAs (Decidable (_ ∧ _))
def rndsQ (R : Nat) (kind : Int) : Nat := if kind = 1 then R else 2 * R
def okC (n R : Nat) (kind : Int) (m : List S44) : Prop := (∀ i, i < m.length → okI n (rndsQ R kind) m i) ∧ (∀ r, r < R → okR2 m R kind r) ∧ (metL m R kind R).length = n * (n - 1) / 2
instance (n R : Nat) (kind : Int) (m : List S44) : Decidable (okC n R kind m) := inferInstanceAs (Decidable (_ ∧ _))
theorem slots_snoc (l : List S44) (x : S44) : slots (l ++ [x]) = slots l ++ [(x.f0, x.f1), (x.f0, x.f2)] := by simp [slots]
theorem byR_snoc (l : List S44) (x : S44) (r : Int) : byR (l ++ [x]) r = if x.f0 = r then byR l r ++ [x] else byR l r := by
  unfold byR
  rw [List.filter_append]
  by_cases h : x.f0 = r <;> simp [h]
theorem SrtL.filter {l : List S44} (h : SrtL l) (p : S44 → Bool) : SrtL (l.filter p) := List.Pairwise.filter p h
theorem bef_trans {x y z : S44} (h1 : bef x y) (h2 : bef y z) : bef x z := by unfold bef at *; omega
theorem SrtL.head {x : S44} {l : List S44} (h : SrtL (x :: l)) : ∀ y ∈ l, x.f0 < y.f0 ∨ (x.f0 = y.f0 ∧ x.f1 ≤ y.f1) := (List.pairwise_cons.1 h).1
theorem srt_uniq : ∀ {s l : List S44}, l.Perm s → SrtL l → s.Pairwise bef → l = s
  | [], l, hp, _, _ => List.perm_nil.1 hp
  | y :: s, [], hp, _, _ => absurd hp.length_eq (by simp)
  | y :: s, x :: l, hp, hl, hs => by
    have hxy : x = y := by
      by_cases e : x = y
      · exact e
      exfalso
      have h1 : x ∈ s := (List.mem_cons.1 (hp.subset (List.mem_cons_self ..))).resolve_left e
      have h2 : y ∈ l := (List.mem_cons.1 (hp.symm.subset (List.mem_cons_self ..))).resolve_left (Ne.symm e)
      have h3 := (List.pairwise_cons.1 hs).1 x h1
      have h4 := hl.head y h2
      unfold bef at h3; omega
    subst hxy
    rw [srt_uniq (List.Perm.cons_inv hp) (List.pairwise_cons.1 hl).2 (List.pairwise_cons.1 hs).2]
theorem okI_bef {n Q : Int} {m : List S44} (h : ∀ i, i < m.length → okI n Q m i) : m.Pairwise bef := by
  rw [List.pairwise_iff_getElem]
  intro i j hi hj hij
  have e : ∀ k (hk : k < m.length), m.getD k z44 = m[k] := fun k hk => by rw [List.getD_eq_getElem?_getD, List.getElem?_eq_getElem hk]; rfl
  induction j with
  | zero => omega
  | succ j ih =>
    have h1 := (h (j + 1) hj).2.1 (by omega)
    rw [Nat.add_sub_cancel, e j (by omega), e (j + 1) hj] at h1
    rcases Nat.lt_or_ge i j with h2 | h2
    · exact bef_trans (ih (by omega) h2) h1
    · obtain rfl : i = j := by omega
      exact h1
theorem turn_eq {m l' : List S44} {a b : Int} (hm : m.Pairwise bef) (hp : l'.Perm ((byR m a).map (trn b))) (hs : SrtL l') : byR m b = l' ↔ (byR m b).Perm ((byR m a).map (trn b)) := by
  refine ⟨fun e => by rw [e]; exact hp, fun h => ?_⟩
  exact (srt_uniq (hp.trans h.symm) hs (hm.filter _)).symm
theorem nodup_no {ks : List (Int × Int)} {la : List S44} (h : (ks ++ la.map pr).Nodup) (k : Nat) (hk : k < la.length) : pr (la.getD k z44) ∉ ks ++ (la.take k).map pr := by
  have e : la = la.take k ++ la.getD k z44 :: la.drop (k + 1) := by
    have h1 := take_snocS la k z44 hk
    have h2 := List.take_append_drop (k + 1) la
    rw [h1, List.append_assoc] at h2
    exact h2.symm
  intro hm
  rw [e, List.map_append, List.map_cons, ← List.append_assoc] at h
  exact (List.nodup_append.1 h).2.2 _ hm _ (List.mem_cons_self ..) rfl
theorem mkA_nat (R : Nat) (kind : Int) (r : Nat) (hk : 1 ≤ kind ∧ kind ≤ 3) (hr : r < R) : ∃ a : Nat, mkA R kind r = a ∧ a < rndsQ R kind := by
  unfold mkA rndsQ
  by_cases h2 : kind = 2
  · exact ⟨2 * r, by rw [if_pos h2]; omega, by rw [if_neg (by omega)]; omega⟩
  · refine ⟨r, by rw [if_neg h2], ?_⟩
    split <;> omega
theorem mkB_nat (R : Nat) (kind : Int) (r : Nat) (hk : 1 ≤ kind ∧ kind ≤ 3) (hr : r < R) (h : 0 ≤ mkB R kind r) : ∃ b : Nat, mkB R kind r = b ∧ b < rndsQ R kind := by
  unfold mkB rndsQ at *
  by_cases h2 : kind = 2
  · exact ⟨2 * r + 1, by rw [if_pos h2]; omega, by rw [if_neg (by omega)]; omega⟩
  · by_cases h3 : kind = 3
    · exact ⟨R + r, by rw [if_neg h2, if_pos h3]; omega, by rw [if_neg (by omega)]; omega⟩
    · rw [if_neg h2, if_neg h3] at h; omega
end Go.Proofs.Ytecgklfcblpkdaa.RB

/- robin.Check, walked: the first loop. -/
namespace Go.Proofs.Ytecgklfcblpkdaa.RB
open Go.RowKit Go.Proofs.Ytecgklfcblpkdaa.P Go.Proofs.YtecgklfcblpkdaaW.PrintWords Go.Proofs.YtecgklfcblpkdaaW.PrintLast Go.Proofs.YtecgklfcblpkdaaW.PrintMore
open XW RegInv
attribute [local irreducible] Addr.add
set_option linter.unusedSimpArgs false
set_option linter.unusedVariables false
theorem grow_below (w : World) (q : Nat) (os' : Array Obj) : Below w.heap.size w (Go.Sort.grow (w.drewN q) os') := by
  refine ⟨rfl, rfl, rfl, ?_, ?_⟩
  · simp [Go.Sort.grow, World.drewN]
  · intro k hk
    simp only [Go.Sort.grow, World.drewN]
    exact Array.getElem?_append_left hk
theorem ord_rets (x y : S44) (w : World) : Rets Try.prog 42 #[.agg #[.int .i64 x.f0, .int .i64 x.f1, .int .i64 x.f2], .agg #[.int .i64 y.f0, .int .i64 y.f1, .int .i64 y.f2]] w fun u w' => u = .int .i64 (cfM x y) ∧ Below w.heap.size w w' := by
  refine (order_exact x y w).mono ?_
  rintro e w' ⟨v, rfl, rfl, q, os', rfl⟩
  exact ⟨_, rfl, rfl, grow_below w q os'⟩
theorem cfM_bef (x y : S44) : 0 ≤ cfM x y ↔ ¬ bef x y := by
  have h := lt_cfM x y
  simp only [Go.Proofs.ltOf, decide_eq_true_eq] at h
  unfold bef
  rw [← h]; omega
theorem E43 : Enters Try.prog 43 := enters Try.func43 (by kernel_rfl) rfl
theorem E33 : Enters Try.prog 33 := enters Try.func33 (by kernel_rfl) rfl
set_option maxHeartbeats 4000000 in
theorem in_rets (w0 : World) (b3 : Nat) (n k : Int) (hbox : w0.cell? ⟨b3, 0, none⟩ = some (.int .i64 n)) : Rets Try.prog 43 #[.int .i64 k, ip b3] w0 fun u w' => u = .bool (decide (0 ≤ k ∧ k < n)) ∧ Below w0.heap.size w0 w' := by
  have hF := wide_wide
  refine rets_at (n := 11) Try.func43 rfl Try.ntmps43 (by simp) ?_
  (repeat (first | ((with_reducible refine is_AL ?_); (first | ((with_reducible refine is_move ?_); (refine At_plain hF (by (first | exact (rfl : _ = some (Value.int _ _)) | exact (rfl : _ = some (Value.bool _)))) ?_)) | ((with_reducible refine is_bin ?_); (refine At_plain hF (by (exact (rfl : _ = some (Value.bool _)))) ?_)) | ((with_reducible refine is_assign ?_); (refine At_plain hF (by (exact (rfl : _ = some (Value.bool _)))) ?_)) | with_reducible refine At_nil ?_)) | ((with_reducible refine is_At ?_); (first | with_reducible refine At_seq ?_; intro K hK | with_reducible refine At_region ?_ | with_reducible refine At_then_n ?_ | with_reducible refine At_go (by assumption) ?_))))
  ((with_reducible refine is_guarded ?_); (refine At_guard hF rfl (by decide) rfl ?_ ?_ <;> (intro hg; try (simp only [decide_eq_true_eq, decide_eq_false_iff_not, beq_iff_eq, bne_iff_ne, beq_eq_false_iff_ne, bne_eq_false_iff_eq, ne_eq, Bool.not_eq_true', Bool.not_eq_false', Bool.not_true, Bool.not_false, Decidable.not_not] at hg); try (exfalso; first | omega | exact hg True.intro))))
  · have e : decide (0 ≤ k ∧ k < n) = decide (k < n) := by rw [decide_eq_decide]; omega
    (repeat ((with_reducible refine is_AL ?_); (first | ((with_reducible refine is_guarded ?_); (refine At_guard_t rfl (by decide) rfl ?_)) | ((with_reducible refine is_move ?_); (refine At_plain hF (by (exact (rfl : _ = some (Value.int _ _)))) ?_)))))
    refine At_loadC hF (by exact rfl) hbox ?_
    (repeat (first | ((with_reducible refine is_AL ?_); (first | ((with_reducible refine is_guarded ?_); (refine At_guard_t rfl (by decide) rfl ?_)) | ((with_reducible refine is_bin ?_); (refine At_plain hF (by (exact (rfl : _ = some (Value.bool _)))) ?_)) | ((with_reducible refine is_assign ?_); (refine At_plain hF (by (exact (rfl : _ = some (Value.bool _)))) ?_)) | ((with_reducible refine is_pick ?_); (refine At_plain hF (by (exact (rfl : _ = some (Value.bool _)))) ?_)) | with_reducible refine At_nil ?_)) | ((with_reducible refine is_At ?_); (first | with_reducible refine At_ret ?_ | with_reducible refine At_then_n ?_ | with_reducible refine At_go (by assumption) ?_))))
    exact At_ret1 rfl (rv_tmp (by decide)) (fun w' hw' => ⟨_, rfl, congrArg Value.bool e.symm, hw'.below⟩)
  · have e : decide (0 ≤ k ∧ k < n) = false := by rw [decide_eq_false_iff_not]; omega
    (repeat (first | ((with_reducible refine is_AL ?_); (first | ((with_reducible refine is_guarded ?_); (refine At_guard_f hF rfl (by decide) rfl rfl ?_)) | ((with_reducible refine is_assign ?_); (refine At_plain hF (by (exact (rfl : _ = some (Value.bool _)))) ?_)) | ((with_reducible refine is_pick ?_); (refine At_plain hF (by (exact (rfl : _ = some (Value.bool _)))) ?_)) | with_reducible refine At_nil ?_)) | ((with_reducible refine is_At ?_); (first | with_reducible refine At_ret ?_ | with_reducible refine At_then_n ?_ | with_reducible refine At_go (by assumption) ?_))))
    exact At_ret1 rfl (rv_tmp (by decide)) (fun w' hw' => ⟨_, rfl, congrArg Value.bool e.symm, hw'.below⟩)
theorem rounds_rets (n R : Nat) (kind : Int) (hn : 2 ≤ n ∧ n ≤ 20) (hk : 1 ≤ kind ∧ kind ≤ 3) (hRe : R = n - 1 + n % 2) (w : World) : Rets Try.prog 33 #[.int .i64 n, .int .i64 kind] w fun u w' => u = .tuple #[.int .i64 (rndsQ R kind), .int .i64 0] ∧ Below w.heap.size w w' := by
  refine (robin_Rounds.calls n kind (rndsQ R kind) 0 w ?_).mono (by rintro e w' ⟨rfl, hb⟩; exact ⟨_, rfl, rfl, hb⟩)
  have e : wrap64 (wrap64 ((n : Int) - 1) + Int.tmod n 2) = R := by
    rw [Int.tmod_eq_emod_of_nonneg (by omega)]; unfold wrap64; omega
  have e2 : wrap64 (2 * (R : Int)) = ((2 * R : Nat) : Int) := by unfold wrap64; omega
  unfold robin_Rounds.f robin_of.f rndsQ
  rw [e, if_pos (by omega), if_pos (by omega), if_pos (by omega)]
  simp only [Option.bind_some, decide_eq_true (show kind ≤ 3 by omega), if_true, e2]
  by_cases h1 : kind = 1 <;> simp [h1]
abbrev RW := Option Nat × Nat × List S44
def rwV (g : RW) : Value := rowV g.1 g.2.2.length g.2.1
def rwR (g : RW) : Res := .row 44 3 enc44 g.1 g.2.1 g.2.2
instance : Inhabited RW := ⟨(none, 0, [])⟩
theorem At.newNils {base : World} {R : List Res} {Φ : World → Prop} : ∀ (Q : Nat), At base (R ++ (List.replicate Q ((none, 0, []) : RW)).map rwR) Φ → At base R Φ
  | 0, h => by simpa using h
  | Q + 1, h => by
    refine At.newNils Q (At.newNil 44 3 enc44 enc44_len (fun w hw => h w (hw.perm ?_)))
    rw [List.replicate_succ, List.map_cons]
    exact List.perm_middle
def ByOk (Q : Nat) (m : List S44) (L : List RW) : Prop := L.length = Q ∧ ∀ r : Nat, r < Q → (L.getD r (none, 0, [])).2.2 = byR m r
theorem ByOk.nil (Q : Nat) : ByOk Q [] (List.replicate Q (none, 0, [])) := ⟨by simp, fun r hr => by
  rw [List.getD_eq_getElem?_getD, List.getElem?_replicate, if_pos hr]; rfl⟩
theorem ByOk.snoc {Q : Nat} {m : List S44} {L : List RW} (h : ByOk Q m L) (x : S44) (r : Nat) (hr : r < Q) (hx : x.f0 = r) (A : Option Nat) (c : Nat) : ByOk Q (m ++ [x]) (L.set r (A, c, (L.getD r (none, 0, [])).2.2 ++ [x])) := by
  refine ⟨by simp [h.1], fun r' hr' => ?_⟩
  rw [byR_snoc, hx]
  have h1 := h.2 r' hr'
  rw [List.getD_eq_getElem?_getD] at h1 ⊢
  rw [List.getElem?_set]
  by_cases e : r = r'
  · subst e
    rw [if_pos rfl, if_pos (by rw [h.1]; exact hr), if_pos rfl]
    simp only [Option.getD_some]
    rw [h.2 r hr]
  · rw [if_neg e, if_neg (by omega)]; exact h1
theorem keyOk84 : KeyOk Try.prog 84 epair := by
  obtain ⟨i, h1, h2, _⟩ := inf3
  exact keyOk_pair Try.underlying84 Try.underlying3 h1 h2
def setE (ks : List (Int × Int)) : List ((Int × Int) × Bool) := ks.map fun k => (k, true)
theorem mget_setE (ks : List (Int × Int)) (k : Int × Int) : mget (setE ks) k = if k ∈ ks then some true else none := by
  induction ks with
  | nil => rfl
  | cons a ks ih =>
    have e : setE (a :: ks) = (a, true) :: setE ks := rfl
    rw [e, mget]
    by_cases h : a = k
    · subst h; simp
    · rw [if_neg h, ih]
      by_cases h2 : k ∈ ks <;> simp [h2, Ne.symm h]
theorem look_setE (ks : List (Int × Int)) (k : Int × Int) : ((mget (setE ks) k).map Value.bool).getD (.bool false) = .bool (decide (k ∈ ks)) := by
  rw [mget_setE]; by_cases h : k ∈ ks <;> simp [h]
theorem mput_setE (ks : List (Int × Int)) (k : Int × Int) (h : k ∉ ks) : mput (setE ks) k true = setE (ks ++ [k]) := by
  rw [mput_new true (by rw [mget_setE, if_neg h])]; simp [setE]
end Go.Proofs.Ytecgklfcblpkdaa.RB

/- robin.Check, walked. -/
namespace Go.Proofs.Ytecgklfcblpkdaa.RB
open Go.RowKit Go.Proofs.Ytecgklfcblpkdaa.P Go.Proofs.YtecgklfcblpkdaaW.PrintWords Go.Proofs.YtecgklfcblpkdaaW.PrintLast Go.Proofs.YtecgklfcblpkdaaW.PrintMore
open XW RegInv
attribute [local irreducible] Addr.add
set_option linter.unusedSimpArgs false
set_option linter.unusedVariables false
theorem rows_set (L : List RW) (r : Nat) (A : Option Nat) (c : Nat) (l : List S44) : (L.map rwR).set r (.row 44 3 enc44 A c l) = (L.set r (A, c, l)).map rwR := by rw [List.map_set]; rfl
theorem rows_get {L : List RW} {r : Nat} (h : r < L.length) : (L.map rwR)[r]? = some (.row 44 3 enc44 (L.getD r (none, 0, [])).1 (L.getD r (none, 0, [])).2.1 (L.getD r (none, 0, [])).2.2) := by
 rw [List.getElem?_map, List.getD_eq_getElem?_getD, List.getElem?_eq_getElem h]; rfl
set_option maxHeartbeats 8000000 in
theorem check_rets (w0 : World) (n R Q : Nat) (kind : Int) (A : Option Addr) (c : Nat) (m : List S44) (hn : 2 ≤ n ∧ n ≤ 20) (hk : 1 ≤ kind ∧ kind ≤ 3) (hRe : R = n - 1 + n % 2) (hQ : Q = rndsQ R kind) (hr : Kd.C k44 w0 A m.length m) (hlen : m.length ≤ 1000000) :
  Rets Try.prog 34 #[.int .i64 n, .int .i64 kind, .slice A m.length c] w0 fun u w' => u = .int .i64 (if okC n R kind m then 0 else 200) ∧ Below w0.heap.size w0 w' := by
 have hF := wide_wide
 have hR : 1 ≤ R ∧ R ≤ 20 := by omega
 have hQ2 : 1 ≤ Q ∧ Q ≤ 40 := by rw [hQ]; unfold rndsQ; split <;> omega
 refine rets_at (n := 193) Try.func34 rfl Try.ntmps34 (by simp) ?_
 ((repeat (first | ((with_reducible refine is_AL ?_); (first | ((with_reducible refine is_move ?_); (refine At_plain hF (by (exact (rfl : _ = some (Value.int _ _)))) ?_)) | ((with_reducible refine is_assign ?_); (refine At_plain hF (by (exact (rfl : _ = some (Value.int _ _)))) ?_)) | ((with_reducible refine is_load ?_); (refine At_load hF 0 (by exact rfl) rfl (by (exact (rfl : _ = some (Value.int _ _)))) ?_)) | with_reducible refine At_nil ?_)) | ((with_reducible refine is_At ?_); (first | with_reducible refine At_seq ?_; intro K hK | with_reducible refine At_region ?_ | with_reducible refine At_then_n ?_ | with_reducible refine At_go (by assumption) ?_)))); ((with_reducible refine is_box ?_); (refine At_box1 hF (by (exact (rfl : _ = (Value.int _ _)))) rfl ?_; intro b3)); (repeat (first | ((with_reducible refine is_AL ?_); (first | ((with_reducible refine is_move ?_); (refine At_plain hF (by (exact (rfl : _ = some (Value.int _ _)))) ?_)) | ((with_reducible refine is_assign ?_); (refine At_plain hF (by (exact (rfl : _ = some (Value.int _ _)))) ?_)) | ((with_reducible refine is_load ?_); (refine At_load hF 0 (by exact rfl) rfl (by (exact (rfl : _ = some (Value.int _ _)))) ?_)) | with_reducible refine At_nil ?_)) | ((with_reducible refine is_At ?_); (first | with_reducible refine At_seq ?_; intro K hK | with_reducible refine At_region ?_ | with_reducible refine At_then_n ?_ | with_reducible refine At_go (by assumption) ?_)))))
 refine At_callB hF E37 rfl (u := .tuple #[.agg #[.int .i64 n, .int .i64 R], .bool true]) (arg2 (by (first | exact (rfl : _ = (Value.int _ _)) | exact (rfl : _ = (Value.bool _)) | exact (rfl : _ = (Value.pointer _)) | exact (rfl : _ = (Value.slice _ _ _)) | exact (rfl : _ = (Value.map _)) | exact (rfl : _ = (Value.func _ _ _)) | exact (rfl : _ = (Value.tuple _)) | exact (rfl : _ = (Value.agg _)) | exact (rfl : _ = (Value.string _)) | exact (rfl : _ = (Value.nilFunc)) | exact (rfl : _ = (Value.nilIface)))) (by (first | exact (rfl : _ = (Value.int _ _)) | exact (rfl : _ = (Value.bool _)) | exact (rfl : _ = (Value.pointer _)) | exact (rfl : _ = (Value.slice _ _ _)) | exact (rfl : _ = (Value.map _)) | exact (rfl : _ = (Value.func _ _ _)) | exact (rfl : _ = (Value.tuple _)) | exact (rfl : _ = (Value.agg _)) | exact (rfl : _ = (Value.string _)) | exact (rfl : _ = (Value.nilFunc)) | exact (rfl : _ = (Value.nilIface))))) (fun w' hw' => (of_rets n kind (by omega) w').mono (by
  rintro _ w2 ⟨_, rfl, rfl, hb⟩
  refine ⟨_, rfl, ?_, hb⟩
  rw [show (n : Int) - 1 + (n : Int) % 2 = (R : Int) by omega, decide_eq_true (by omega)])) ?_
 ((repeat (first | ((with_reducible refine is_AL ?_); (first | ((with_reducible refine is_move ?_); (refine At_plain hF (by (first | exact (rfl : _ = some (Value.int _ _)) | exact (rfl : _ = some (Value.bool _)) | exact (rfl : _ = some (Value.tuple _)))) ?_)) | ((with_reducible refine is_assign ?_); (refine At_plain hF (by (exact (rfl : _ = some (Value.bool _)))) ?_)) | ((with_reducible refine is_extract ?_); (refine At_plain hF (by (first | exact (rfl : _ = some (Value.bool _)) | exact (rfl : _ = some (Value.agg _)))) ?_)) | ((with_reducible refine is_un ?_); (refine At_plain hF (by (exact (rfl : _ = some (Value.bool _)))) ?_)) | ((with_reducible refine is_load ?_); (refine At_load hF 1 (by exact rfl) rfl (by (exact (rfl : _ = some (Value.int _ _)))) ?_)) | ((with_reducible refine is_store ?_); (refine At_storeB_0 hF rfl rfl rfl rfl (by simp [Value.one1, epair]) ?_)) | with_reducible refine At_nil ?_)) | ((with_reducible refine is_At ?_); (first | with_reducible refine At_seq ?_; intro K hK | with_reducible refine At_region ?_ | with_reducible refine At_skip ?_ | with_reducible refine At_then_n ?_ | with_reducible refine At_go (by assumption) ?_ | ((with_reducible refine is_cond ?_); (refine At_cond_f rfl ?_)))))); ((with_reducible refine is_alloc ?_); (refine At_alloc hF (by (exact (rfl : _ = List.toArray (_ :: _)))) ?_; intro b7)); (repeat (first | ((with_reducible refine is_AL ?_); (first | ((with_reducible refine is_move ?_); (refine At_plain hF (by (first | exact (rfl : _ = some (Value.int _ _)) | exact (rfl : _ = some (Value.bool _)) | exact (rfl : _ = some (Value.tuple _)))) ?_)) | ((with_reducible refine is_assign ?_); (refine At_plain hF (by (exact (rfl : _ = some (Value.bool _)))) ?_)) | ((with_reducible refine is_extract ?_); (refine At_plain hF (by (first | exact (rfl : _ = some (Value.bool _)) | exact (rfl : _ = some (Value.agg _)))) ?_)) | ((with_reducible refine is_un ?_); (refine At_plain hF (by (exact (rfl : _ = some (Value.bool _)))) ?_)) | ((with_reducible refine is_load ?_); (refine At_load hF 1 (by exact rfl) rfl (by (exact (rfl : _ = some (Value.int _ _)))) ?_)) | ((with_reducible refine is_store ?_); (refine At_storeB_0 hF rfl rfl rfl rfl (by simp [Value.one1, epair]) ?_)) | with_reducible refine At_nil ?_)) | ((with_reducible refine is_At ?_); (first | with_reducible refine At_seq ?_; intro K hK | with_reducible refine At_region ?_ | with_reducible refine At_skip ?_ | with_reducible refine At_then_n ?_ | with_reducible refine At_go (by assumption) ?_ | ((with_reducible refine is_cond ?_); (refine At_cond_f rfl ?_)))))))
 refine At_callB hF E33 rfl (u := .tuple #[.int .i64 Q, .int .i64 0]) (arg2 (by (first | exact (rfl : _ = (Value.int _ _)) | exact (rfl : _ = (Value.bool _)) | exact (rfl : _ = (Value.pointer _)) | exact (rfl : _ = (Value.slice _ _ _)) | exact (rfl : _ = (Value.map _)) | exact (rfl : _ = (Value.func _ _ _)) | exact (rfl : _ = (Value.tuple _)) | exact (rfl : _ = (Value.agg _)) | exact (rfl : _ = (Value.string _)) | exact (rfl : _ = (Value.nilFunc)) | exact (rfl : _ = (Value.nilIface)))) (by (first | exact (rfl : _ = (Value.int _ _)) | exact (rfl : _ = (Value.bool _)) | exact (rfl : _ = (Value.pointer _)) | exact (rfl : _ = (Value.slice _ _ _)) | exact (rfl : _ = (Value.map _)) | exact (rfl : _ = (Value.func _ _ _)) | exact (rfl : _ = (Value.tuple _)) | exact (rfl : _ = (Value.agg _)) | exact (rfl : _ = (Value.string _)) | exact (rfl : _ = (Value.nilFunc)) | exact (rfl : _ = (Value.nilIface))))) (fun w' hw' => by have := rounds_rets n R kind hn hk hRe w'; rw [← hQ] at this; exact this) ?_
 (repeat (first | ((with_reducible refine is_AL ?_); (first | ((with_reducible refine is_move ?_); (refine At_plain hF (by (first | exact (rfl : _ = some (Value.int _ _)) | exact (rfl : _ = some (Value.tuple _)))) ?_)) | ((with_reducible refine is_assign ?_); (refine At_plain hF (by (first | exact (rfl : _ = some (Value.int _ _)) | exact (rfl : _ = some (Value.func _ _ _)))) ?_)) | ((with_reducible refine is_extract ?_); (refine At_plain hF (by (exact (rfl : _ = some (Value.int _ _)))) ?_)) | ((with_reducible refine is_func ?_); (refine At_func1 hF (by (exact (rfl : _ = (Value.pointer _)))) ?_)) | with_reducible refine At_nil ?_)) | ((with_reducible refine is_At ?_); (first | with_reducible refine At_seq ?_; intro K hK | with_reducible refine At_region ?_ | with_reducible refine At_then_n ?_ | with_reducible refine At_go (by assumption) ?_))))
 (refine At_make hF rwV (none, 0, []) rfl rfl rfl rfl (by exact rfl) (by exact rfl) (by simp only [TS.bytes] <;> omega) (by omega) ?_; intro bo)
 (repeat (first | ((with_reducible refine is_AL ?_); (first | ((with_reducible refine is_assign ?_); (refine At_plain hF (by (exact (rfl : _ = some (Value.slice _ _ _)))) ?_)) | with_reducible refine At_nil ?_)) | ((with_reducible refine is_At ?_); (first | with_reducible refine At_seq ?_; intro K hK | with_reducible refine At_region ?_ | with_reducible refine At_then_n ?_ | with_reducible refine At_go (by assumption) ?_))))
 refine At_makeMap hF epair Value.bool ?_
 intro bm
 (repeat (first | ((with_reducible refine is_AL ?_); (first | ((with_reducible refine is_move ?_); (refine At_plain hF (by (first | exact (rfl : _ = some (Value.int _ _)) | exact (rfl : _ = some (Value.slice _ _ _)))) ?_)) | ((with_reducible refine is_assign ?_); (refine At_plain hF (by (exact (rfl : _ = some (Value.map _)))) ?_)) | ((with_reducible refine is_call ?_); (refine At_len hF rfl ?_)) | with_reducible refine At_nil ?_)) | ((with_reducible refine is_At ?_); (first | with_reducible refine At_seq ?_; intro K hK | with_reducible refine At_block ?_ | with_reducible refine At_region ?_ | with_reducible refine At_then_n ?_ | with_reducible refine At_go (by assumption) ?_))))
 refine At.newNils Q ?_
 simp only [List.cons_append, List.nil_append]
 refine At_loop (fun st : Nat × List RW => [(1, .int .i64 kind), (2, .slice A m.length c), (3, ip b3), (7, ip b7), (9, .int .i64 Q), (11, .func (.func 43) #[] #[ip b3]), (12, .slice (some ⟨bo, 0, none⟩) Q Q), (13, .map (some bm)), (43, .slice A m.length c), (44, .int .i64 m.length), (45, .int .i64 st.1)]) (fun st => .map epair Value.bool bm (setE (slots (m.take st.1))) :: .obj bo (.cells (buf (sc rwV) st.2 []) 22 (0, 0)) :: .obj b7 (.cells #[.int .i64 n, .int .i64 R] 70 (0, 0)) :: .obj b3 (.cells #[.int .i64 n] 3 (0, 0)) :: st.2.map rwR) (fun st => st.1 ≤ m.length ∧ (∀ i, i < st.1 → okI n Q m i) ∧ ByOk Q (m.take st.1) st.2) (fun st => m.length - st.1) (0, List.replicate Q (none, 0, [])) ?_ ?_ ⟨Nat.zero_le _, fun i hi => absurd hi (Nat.not_lt_zero _), ByOk.nil Q⟩ ?_
 ·(repeat (first | exact List.Sublist.refl _ | exact List.Sublist.slnil | refine List.Sublist.cons_cons _ ?_ | refine List.Sublist.cons _ ?_))
 ·(repeat (first | exact True.intro | (refine And.intro ?_ ?_; focus (show _ = (_ : Value); first | exact rfl | (refine Eq.trans (b := Value.int IntKind.i64 _) rfl (congrArg (Value.int IntKind.i64) ?_); omega)))))
 rintro ⟨i, L⟩ ⟨hi, hok, hby⟩ K hL ρ1
 simp only at hi hok hby
 try dsimp only
 (repeat (first | ((with_reducible refine is_AL ?_); (first | ((with_reducible refine is_bin ?_); (refine At_plain hF (by (exact (rfl : _ = some (Value.bool _)))) ?_)) | with_reducible refine At_nil ?_)) | ((with_reducible refine is_At ?_); (first | with_reducible refine At_seq ?_; intro K hK | with_reducible refine At_region ?_ | with_reducible refine At_then_n ?_ | with_reducible refine At_go (by assumption) ?_))))
 ((with_reducible refine is_cond ?_); (refine At_cond rfl ?_ ?_ <;> (intro hg; try (simp only [decide_eq_true_eq, decide_eq_false_iff_not, beq_iff_eq, bne_iff_ne, beq_eq_false_iff_ne, bne_eq_false_iff_eq, ne_eq, Bool.not_eq_true', Bool.not_eq_false', Bool.not_true, Bool.not_false, Decidable.not_not] at hg); try (exfalso; first | omega | exact hg True.intro))))
 ·have hlt : i < m.length := by omega
  obtain ⟨ad, hA, hcell⟩ := C_flat (enc := enc44) (fun h => k44_open h) hr z44 i hlt
  have htk := take_snocS m i z44 hlt
  have hbad : ¬ okI n Q m i → ¬ okC n R kind m := fun h h2 => h (by rw [hQ]; exact h2.1 i hlt)
  have hokd : okI n Q m i ↔ okX n Q (m.getD i z44) ∧ (0 < i → bef (m.getD (i - 1) z44) (m.getD i z44)) ∧ ((m.getD i z44).f0, (m.getD i z44).f1) ∉ slots (m.take i) ∧ ((m.getD i z44).f0, (m.getD i z44).f2) ∉ slots (m.take i) := Iff.rfl
  generalize m.getD i z44 = x at hcell htk hokd
  (repeat (first | ((with_reducible refine is_AL ?_); (first | ((with_reducible refine is_move ?_); (refine At_plain hF (by (exact (rfl : _ = some (Value.int _ _)))) ?_)) | ((with_reducible refine is_index ?_); (refine At_indexC hF rfl (by assumption) rfl (by omega) ?_)))) | ((with_reducible refine is_At ?_); (first | with_reducible refine At_seq ?_; intro K hK | with_reducible refine At_block ?_ | with_reducible refine At_region ?_ | with_reducible refine At_skip ?_ | with_reducible refine At_then_n ?_ | with_reducible refine At_go (by assumption) ?_))))
  refine At_loadCS (vs := [.int .i64 x.f0, .int .i64 x.f1, .int .i64 x.f2]) hF (by exact rfl) (by exact rfl) hcell ?_
  clear hA hcell
  ((repeat (first | ((with_reducible refine is_AL ?_); (first | ((with_reducible refine is_assign ?_); (refine At_plain hF (by (exact (rfl : _ = some (Value.int _ _)))) ?_)) | ((with_reducible refine is_store ?_); (refine At_storeB_0 hF rfl rfl rfl rfl (by simp [Value.one1, epair]) ?_)) | with_reducible refine At_nil ?_)) | ((with_reducible refine is_At ?_); (first | with_reducible refine At_seq ?_; intro K hK | with_reducible refine At_then_n ?_ | with_reducible refine At_go (by assumption) ?_)))); ((with_reducible refine is_alloc ?_); (refine At_alloc hF (by (exact (rfl : _ = List.toArray (_ :: _)))) ?_; intro b15)); (repeat (first | ((with_reducible refine is_AL ?_); (first | ((with_reducible refine is_assign ?_); (refine At_plain hF (by (exact (rfl : _ = some (Value.int _ _)))) ?_)) | ((with_reducible refine is_store ?_); (refine At_storeB_0 hF rfl rfl rfl rfl (by simp [Value.one1, epair]) ?_)) | with_reducible refine At_nil ?_)) | ((with_reducible refine is_At ?_); (first | with_reducible refine At_seq ?_; intro K hK | with_reducible refine At_then_n ?_ | with_reducible refine At_go (by assumption) ?_)))))
  refine At_mergeE (σ := Bool) (fun b => [(1, .int .i64 kind), (2, .slice A m.length c), (3, ip b3), (7, ip b7), (9, .int .i64 Q), (11, .func (.func 43) #[] #[ip b3]), (12, .slice (some ⟨bo, 0, none⟩) Q Q), (13, .map (some bm)), (15, ip b15), (43, .slice A m.length c), (44, .int .i64 m.length), (45, .int .i64 i), (93, .bool b)]) (fun b => .obj b15 (.cells #[.int .i64 x.f0, .int .i64 x.f1, .int .i64 x.f2] 44 (0, 0)) :: .map epair Value.bool bm (setE (slots (m.take i))) :: .obj bo (.cells (buf (sc rwV) L []) 22 (0, 0)) :: .obj b7 (.cells #[.int .i64 n, .int .i64 R] 70 (0, 0)) :: .obj b3 (.cells #[.int .i64 n] 3 (0, 0)) :: L.map rwR) (fun b => b = false ↔ okX n Q x ∧ (0 < i → bef (m.getD (i - 1) z44) x)) ?_ ?_
  ·intro K' hK'
   have hno : ¬ okX n Q x → (true = false ↔ okX n Q x ∧ (0 < i → bef (m.getD (i - 1) z44) x)) := fun h => ⟨fun h3 => absurd h3 (by decide), fun h2 => absurd h2.1 h⟩
   have hnb : ¬ (0 < i → bef (m.getD (i - 1) z44) x) → (true = false ↔ okX n Q x ∧ (0 < i → bef (m.getD (i - 1) z44) x)) := fun h => ⟨fun h3 => absurd h3 (by decide), fun h2 => absurd h2.2 h⟩
   refine At_drawM hF 44 (by kernel_rfl) (by decide +kernel) ?_; simp only [List.take_succ_cons, List.take_zero, List.drop_succ_cons, List.drop_zero]; (repeat ((with_reducible refine is_AQc ?_); refine AQ_cons (by intro K Q hK; (repeat (first | ((with_reducible refine is_move ?_); (refine At_plain hF (by (exact (rfl : _ = some (Value.bool _)))) ?_)) | ((with_reducible refine is_bin ?_); (refine At_plain hF (by (exact (rfl : _ = some (Value.bool _)))) ?_)) | ((with_reducible refine is_field ?_); (refine At_field hF rfl ?_)) | ((with_reducible refine is_load ?_); (refine At_load hF 0 (by exact rfl) rfl (by (exact (rfl : _ = some (Value.int _ _)))) ?_)))); exact At_nilK hK) ?_))
   by_cases c1 : x.f0 < 0
   ·rw [decide_eq_true c1]
    (repeat ((with_reducible refine is_AQc ?_); refine AQ_cons (by intro K Q hK; (repeat (first | ((with_reducible refine is_guarded ?_); (first | refine At_guard_f hF rfl (by decide) rfl rfl ?_ | refine At_guard_u hF rfl (by decide) rfl ?_)) | ((with_reducible refine is_move ?_); (refine At_plain hF (by (exact (rfl : _ = some (Value.bool _)))) ?_)) | ((with_reducible refine is_pick ?_); (refine At_plain hF (by (exact (rfl : _ = some (Value.bool _)))) ?_)))); exact At_nilK hK) ?_)); refine AQ_done ?_
    (repeat (first | ((with_reducible refine is_AL ?_); (with_reducible refine At_nil ?_)) | ((with_reducible refine is_At ?_); (with_reducible refine At_then_n ?_))))
    refine At.sub ?_ (hK' true _ (hno (by unfold okX; omega)) ?_)
    ·(repeat (first | exact List.Sublist.refl _ | exact List.Sublist.slnil | refine List.Sublist.cons_cons _ ?_ | refine List.Sublist.cons _ ?_))
    ·(repeat (first | exact True.intro | (refine And.intro ?_ ?_; focus (show _ = (_ : Value); first | exact rfl | (refine Eq.trans (b := Value.int IntKind.i64 _) rfl (congrArg (Value.int IntKind.i64) ?_); omega)))))
   rw [decide_eq_false c1]
   (repeat ((with_reducible refine is_AQc ?_); refine AQ_cons (by intro K Q hK; (repeat (first | ((with_reducible refine is_guarded ?_); (refine At_guard_t rfl (by decide) rfl ?_)) | ((with_reducible refine is_move ?_); (refine At_plain hF (by (first | exact (rfl : _ = some (Value.int _ _)) | exact (rfl : _ = some (Value.bool _)))) ?_)) | ((with_reducible refine is_bin ?_); (refine At_plain hF (by (exact (rfl : _ = some (Value.bool _)))) ?_)) | ((with_reducible refine is_pick ?_); (refine At_plain hF (by (exact (rfl : _ = some (Value.bool _)))) ?_)) | ((with_reducible refine is_field ?_); (refine At_field hF rfl ?_)) | ((with_reducible refine is_load ?_); (refine At_load hF 0 (by exact rfl) rfl (by (exact (rfl : _ = some (Value.int _ _)))) ?_)))); exact At_nilK hK) ?_))
   by_cases c2 : x.f0 ≥ Q
   ·rw [decide_eq_true c2]
    (repeat ((with_reducible refine is_AQc ?_); refine AQ_cons (by intro K Q hK; (repeat (first | ((with_reducible refine is_guarded ?_); (first | refine At_guard_f hF rfl (by decide) rfl rfl ?_ | refine At_guard_u hF rfl (by decide) rfl ?_)) | ((with_reducible refine is_move ?_); (refine At_plain hF (by (exact (rfl : _ = some (Value.bool _)))) ?_)) | ((with_reducible refine is_pick ?_); (refine At_plain hF (by (exact (rfl : _ = some (Value.bool _)))) ?_)))); exact At_nilK hK) ?_)); refine AQ_done ?_
    (repeat (first | ((with_reducible refine is_AL ?_); (with_reducible refine At_nil ?_)) | ((with_reducible refine is_At ?_); (with_reducible refine At_then_n ?_))))
    refine At.sub ?_ (hK' true _ (hno (by unfold okX; omega)) ?_)
    ·(repeat (first | exact List.Sublist.refl _ | exact List.Sublist.slnil | refine List.Sublist.cons_cons _ ?_ | refine List.Sublist.cons _ ?_))
    ·(repeat (first | exact True.intro | (refine And.intro ?_ ?_; focus (show _ = (_ : Value); first | exact rfl | (refine Eq.trans (b := Value.int IntKind.i64 _) rfl (congrArg (Value.int IntKind.i64) ?_); omega)))))
   rw [decide_eq_false c2]
   (repeat ((with_reducible refine is_AQc ?_); refine AQ_cons (by intro K Q hK; (repeat (first | ((with_reducible refine is_guarded ?_); (refine At_guard_t rfl (by decide) rfl ?_)) | ((with_reducible refine is_move ?_); (refine At_plain hF (by (exact (rfl : _ = some (Value.func _ _ _)))) ?_)) | ((with_reducible refine is_field ?_); (refine At_field hF rfl ?_)) | ((with_reducible refine is_load ?_); (refine At_load hF 0 (by exact rfl) rfl (by (exact (rfl : _ = some (Value.int _ _)))) ?_)))); exact At_nilK hK) ?_))
   refine AQ_cons (by intro K Q hK; refine At_guard_t rfl (by decide) rfl ?_; refine At_callvB hF E43 rfl (by exact rfl) (arg1 (by (first | exact (rfl : _ = (Value.int _ _)) | exact (rfl : _ = (Value.bool _)) | exact (rfl : _ = (Value.pointer _)) | exact (rfl : _ = (Value.slice _ _ _)) | exact (rfl : _ = (Value.map _)) | exact (rfl : _ = (Value.func _ _ _)) | exact (rfl : _ = (Value.tuple _)) | exact (rfl : _ = (Value.agg _)) | exact (rfl : _ = (Value.string _)) | exact (rfl : _ = (Value.nilFunc)) | exact (rfl : _ = (Value.nilIface))))) (by exact rfl) (fun w' hw' => in_rets w' b3 n x.f1 (cell_of (hw'.at_ 4 rfl) rfl)) ?_; exact At_nilK hK) ?_
   (repeat ((with_reducible refine is_AQc ?_); refine AQ_cons (by intro K Q hK; (repeat (first | ((with_reducible refine is_guarded ?_); (refine At_guard_t rfl (by decide) rfl ?_)) | ((with_reducible refine is_move ?_); (refine At_plain hF (by (exact (rfl : _ = some (Value.bool _)))) ?_)) | ((with_reducible refine is_pick ?_); (refine At_plain hF (by (exact (rfl : _ = some (Value.bool _)))) ?_)) | ((with_reducible refine is_un ?_); (refine At_plain hF (by (exact (rfl : _ = some (Value.bool _)))) ?_)))); exact At_nilK hK) ?_))
   by_cases c3 : 0 ≤ x.f1 ∧ x.f1 < n
   case neg =>
    rw [decide_eq_false c3]
    (repeat ((with_reducible refine is_AQc ?_); refine AQ_cons (by intro K Q hK; (repeat (first | ((with_reducible refine is_guarded ?_); (first | refine At_guard_f hF rfl (by decide) rfl rfl ?_ | refine At_guard_u hF rfl (by decide) rfl ?_)) | ((with_reducible refine is_move ?_); (refine At_plain hF (by (exact (rfl : _ = some (Value.bool _)))) ?_)) | ((with_reducible refine is_pick ?_); (refine At_plain hF (by (exact (rfl : _ = some (Value.bool _)))) ?_)))); exact At_nilK hK) ?_)); refine AQ_done ?_
    (repeat (first | ((with_reducible refine is_AL ?_); (with_reducible refine At_nil ?_)) | ((with_reducible refine is_At ?_); (with_reducible refine At_then_n ?_))))
    refine At.sub ?_ (hK' true _ (hno (by unfold okX; omega)) ?_)
    ·(repeat (first | exact List.Sublist.refl _ | exact List.Sublist.slnil | refine List.Sublist.cons_cons _ ?_ | refine List.Sublist.cons _ ?_))
    ·(repeat (first | exact True.intro | (refine And.intro ?_ ?_; focus (show _ = (_ : Value); first | exact rfl | (refine Eq.trans (b := Value.int IntKind.i64 _) rfl (congrArg (Value.int IntKind.i64) ?_); omega)))))
   rw [decide_eq_true c3]
   (repeat ((with_reducible refine is_AQc ?_); refine AQ_cons (by intro K Q hK; (repeat (first | ((with_reducible refine is_guarded ?_); (refine At_guard_t rfl (by decide) rfl ?_)) | ((with_reducible refine is_move ?_); (refine At_plain hF (by (exact (rfl : _ = some (Value.func _ _ _)))) ?_)) | ((with_reducible refine is_field ?_); (refine At_field hF rfl ?_)) | ((with_reducible refine is_load ?_); (refine At_load hF 0 (by exact rfl) rfl (by (exact (rfl : _ = some (Value.int _ _)))) ?_)))); exact At_nilK hK) ?_))
   refine AQ_cons (by intro K Q hK; refine At_guard_t rfl (by decide) rfl ?_; refine At_callvB hF E43 rfl (by exact rfl) (arg1 (by (first | exact (rfl : _ = (Value.int _ _)) | exact (rfl : _ = (Value.bool _)) | exact (rfl : _ = (Value.pointer _)) | exact (rfl : _ = (Value.slice _ _ _)) | exact (rfl : _ = (Value.map _)) | exact (rfl : _ = (Value.func _ _ _)) | exact (rfl : _ = (Value.tuple _)) | exact (rfl : _ = (Value.agg _)) | exact (rfl : _ = (Value.string _)) | exact (rfl : _ = (Value.nilFunc)) | exact (rfl : _ = (Value.nilIface))))) (by exact rfl) (fun w' hw' => in_rets w' b3 n x.f2 (cell_of (hw'.at_ 4 rfl) rfl)) ?_; exact At_nilK hK) ?_
   (repeat ((with_reducible refine is_AQc ?_); refine AQ_cons (by intro K Q hK; (repeat (first | ((with_reducible refine is_guarded ?_); (refine At_guard_t rfl (by decide) rfl ?_)) | ((with_reducible refine is_move ?_); (refine At_plain hF (by (exact (rfl : _ = some (Value.bool _)))) ?_)) | ((with_reducible refine is_pick ?_); (refine At_plain hF (by (exact (rfl : _ = some (Value.bool _)))) ?_)) | ((with_reducible refine is_un ?_); (refine At_plain hF (by (exact (rfl : _ = some (Value.bool _)))) ?_)))); exact At_nilK hK) ?_))
   by_cases c4 : 0 ≤ x.f2 ∧ x.f2 < n
   case neg =>
    rw [decide_eq_false c4]
    (repeat ((with_reducible refine is_AQc ?_); refine AQ_cons (by intro K Q hK; (repeat (first | ((with_reducible refine is_guarded ?_); (first | refine At_guard_f hF rfl (by decide) rfl rfl ?_ | refine At_guard_u hF rfl (by decide) rfl ?_)) | ((with_reducible refine is_move ?_); (refine At_plain hF (by (exact (rfl : _ = some (Value.bool _)))) ?_)) | ((with_reducible refine is_pick ?_); (refine At_plain hF (by (exact (rfl : _ = some (Value.bool _)))) ?_)))); exact At_nilK hK) ?_)); refine AQ_done ?_
    (repeat (first | ((with_reducible refine is_AL ?_); (with_reducible refine At_nil ?_)) | ((with_reducible refine is_At ?_); (with_reducible refine At_then_n ?_))))
    refine At.sub ?_ (hK' true _ (hno (by unfold okX; omega)) ?_)
    ·(repeat (first | exact List.Sublist.refl _ | exact List.Sublist.slnil | refine List.Sublist.cons_cons _ ?_ | refine List.Sublist.cons _ ?_))
    ·(repeat (first | exact True.intro | (refine And.intro ?_ ?_; focus (show _ = (_ : Value); first | exact rfl | (refine Eq.trans (b := Value.int IntKind.i64 _) rfl (congrArg (Value.int IntKind.i64) ?_); omega)))))
   rw [decide_eq_true c4]
   (repeat ((with_reducible refine is_AQc ?_); refine AQ_cons (by intro K Q hK; (repeat (first | ((with_reducible refine is_guarded ?_); (refine At_guard_t rfl (by decide) rfl ?_)) | ((with_reducible refine is_move ?_); (refine At_plain hF (by (exact (rfl : _ = some (Value.bool _)))) ?_)) | ((with_reducible refine is_bin ?_); (refine At_plain hF (by (exact (rfl : _ = some (Value.bool _)))) ?_)) | ((with_reducible refine is_pick ?_); (refine At_plain hF (by (exact (rfl : _ = some (Value.bool _)))) ?_)) | ((with_reducible refine is_field ?_); (refine At_field hF rfl ?_)) | ((with_reducible refine is_load ?_); (refine At_load hF 0 (by exact rfl) rfl (by (exact (rfl : _ = some (Value.int _ _)))) ?_)))); exact At_nilK hK) ?_))
   by_cases c5 : x.f1 = x.f2
   ·rw [show (x.f1 == x.f2) = true by simp [c5]]
    (repeat ((with_reducible refine is_AQc ?_); refine AQ_cons (by intro K Q hK; (repeat (first | ((with_reducible refine is_guarded ?_); (first | refine At_guard_f hF rfl (by decide) rfl rfl ?_ | refine At_guard_u hF rfl (by decide) rfl ?_)) | ((with_reducible refine is_pick ?_); (refine At_plain hF (by (exact (rfl : _ = some (Value.bool _)))) ?_)))); exact At_nilK hK) ?_)); refine AQ_done ?_
    (repeat (first | ((with_reducible refine is_AL ?_); (with_reducible refine At_nil ?_)) | ((with_reducible refine is_At ?_); (with_reducible refine At_then_n ?_))))
    refine At.sub ?_ (hK' true _ (hno (by unfold okX; omega)) ?_)
    ·(repeat (first | exact List.Sublist.refl _ | exact List.Sublist.slnil | refine List.Sublist.cons_cons _ ?_ | refine List.Sublist.cons _ ?_))
    ·(repeat (first | exact True.intro | (refine And.intro ?_ ?_; focus (show _ = (_ : Value); first | exact rfl | (refine Eq.trans (b := Value.int IntKind.i64 _) rfl (congrArg (Value.int IntKind.i64) ?_); omega)))))
   rw [show (x.f1 == x.f2) = false by simp [c5]]
   (repeat ((with_reducible refine is_AQc ?_); refine AQ_cons (by intro K Q hK; (repeat (first | ((with_reducible refine is_guarded ?_); (refine At_guard_t rfl (by decide) rfl ?_)) | ((with_reducible refine is_move ?_); (refine At_plain hF (by (first | exact (rfl : _ = some (Value.int _ _)) | exact (rfl : _ = some (Value.bool _)))) ?_)) | ((with_reducible refine is_bin ?_); (refine At_plain hF (by (exact (rfl : _ = some (Value.bool _)))) ?_)))); exact At_nilK hK) ?_))
   have hokx : okX n Q x := ⟨by omega, by omega, c3, c4, c5⟩
   by_cases c6 : (i : Int) > 0
   case neg =>
    rw [decide_eq_false c6]
    (repeat ((with_reducible refine is_AQc ?_); refine AQ_cons (by intro K Q hK; (repeat (first | ((with_reducible refine is_guarded ?_); (first | refine At_guard_t rfl (by decide) rfl ?_ | refine At_guard_f hF rfl (by decide) rfl rfl ?_)) | ((with_reducible refine is_pick ?_); (refine At_plain hF (by (exact (rfl : _ = some (Value.bool _)))) ?_)))); exact At_nilK hK) ?_)); refine AQ_done ?_
    (repeat (first | ((with_reducible refine is_AL ?_); (with_reducible refine At_nil ?_)) | ((with_reducible refine is_At ?_); (with_reducible refine At_then_n ?_))))
    refine At.sub ?_ (hK' false _ ⟨fun _ => ⟨hokx, fun h => absurd h (by omega)⟩, fun _ => rfl⟩ ?_)
    ·(repeat (first | exact List.Sublist.refl _ | exact List.Sublist.slnil | refine List.Sublist.cons_cons _ ?_ | refine List.Sublist.cons _ ?_))
    ·(repeat (first | exact True.intro | (refine And.intro ?_ ?_; focus (show _ = (_ : Value); first | exact rfl | (refine Eq.trans (b := Value.int IntKind.i64 _) rfl (congrArg (Value.int IntKind.i64) ?_); omega)))))
   rw [decide_eq_true c6]
   obtain ⟨ad, hA, hcell⟩ := C_flat (enc := enc44) (fun h => k44_open h) hr z44 (i - 1) (by omega)
   have hcb := cfM_bef (m.getD (i - 1) z44) x
   generalize m.getD (i - 1) z44 = y at hcell hcb hK' hno hnb
   (repeat ((with_reducible refine is_AQc ?_); refine AQ_cons (by intro K Q hK; (repeat (first | ((with_reducible refine is_guarded ?_); (refine At_guard_t rfl (by decide) rfl ?_)) | ((with_reducible refine is_move ?_); (refine At_plain hF (by (first | exact (rfl : _ = some (Value.int _ _)) | exact (rfl : _ = some (Value.slice _ _ _)))) ?_)) | ((with_reducible refine is_bin ?_); ((with_reducible refine is_bsub ?_); (refine At_sub hF rfl rfl (by omega) ?_))))); exact At_nilK hK) ?_))
   rw [show (i : Int) - 1 = ((i - 1 : Nat) : Int) by omega]
   refine AQ_cons (by intro K Q hK; refine At_guard_t rfl (by decide) rfl ?_; refine At_indexC hF (by exact rfl) hA (by exact rfl) (by omega) ?_; exact At_nilK hK) ?_
   refine AQ_cons (by intro K Q hK; refine At_guard_t rfl (by decide) rfl ?_; refine At_loadCS (vs := [.int .i64 y.f0, .int .i64 y.f1, .int .i64 y.f2]) hF (by exact rfl) (by exact rfl) hcell ?_; exact At_nilK hK) ?_
   (repeat ((with_reducible refine is_AQc ?_); refine AQ_cons (by intro K Q hK; (repeat (first | ((with_reducible refine is_guarded ?_); (refine At_guard_t rfl (by decide) rfl ?_)) | ((with_reducible refine is_load ?_); (refine At_loadB hF 0 rfl rfl rfl ?_)))); exact At_nilK hK) ?_))
   refine AQ_cons (by intro K Q hK; refine At_guard_t rfl (by decide) rfl ?_; refine At_callB hF E42 rfl (arg2 (by (first | exact (rfl : _ = (Value.int _ _)) | exact (rfl : _ = (Value.bool _)) | exact (rfl : _ = (Value.pointer _)) | exact (rfl : _ = (Value.slice _ _ _)) | exact (rfl : _ = (Value.map _)) | exact (rfl : _ = (Value.func _ _ _)) | exact (rfl : _ = (Value.tuple _)) | exact (rfl : _ = (Value.agg _)) | exact (rfl : _ = (Value.string _)) | exact (rfl : _ = (Value.nilFunc)) | exact (rfl : _ = (Value.nilIface)))) (by (first | exact (rfl : _ = (Value.int _ _)) | exact (rfl : _ = (Value.bool _)) | exact (rfl : _ = (Value.pointer _)) | exact (rfl : _ = (Value.slice _ _ _)) | exact (rfl : _ = (Value.map _)) | exact (rfl : _ = (Value.func _ _ _)) | exact (rfl : _ = (Value.tuple _)) | exact (rfl : _ = (Value.agg _)) | exact (rfl : _ = (Value.string _)) | exact (rfl : _ = (Value.nilFunc)) | exact (rfl : _ = (Value.nilIface))))) (fun w' hw' => ord_rets y x w') ?_; exact At_nilK hK) ?_
   (repeat ((with_reducible refine is_AQc ?_); refine AQ_cons (by intro K Q hK; (repeat (first | ((with_reducible refine is_guarded ?_); (refine At_guard_t rfl (by decide) rfl ?_)) | ((with_reducible refine is_bin ?_); (refine At_plain hF (by (exact (rfl : _ = some (Value.bool _)))) ?_)) | ((with_reducible refine is_pick ?_); (refine At_plain hF (by (exact (rfl : _ = some (Value.bool _)))) ?_)))); exact At_nilK hK) ?_)); refine AQ_done ?_
   (repeat (first | ((with_reducible refine is_AL ?_); (with_reducible refine At_nil ?_)) | ((with_reducible refine is_At ?_); (with_reducible refine At_then_n ?_))))
   refine At.sub ?_ (hK' (decide (cfM y x ≥ 0)) _ ⟨fun h => ⟨hokx, fun _ => ?_⟩, fun h => ?_⟩ ?_)
   ·(repeat (first | exact List.Sublist.refl _ | exact List.Sublist.slnil | refine List.Sublist.cons_cons _ ?_ | refine List.Sublist.cons _ ?_))
   ·have h2 := of_decide_eq_false h
    exact Decidable.byContradiction fun h3 => h2 (hcb.2 h3)
   ·have h2 := h.2 (by omega)
    exact decide_eq_false fun h3 => hcb.1 h3 h2
   ·(repeat (first | exact True.intro | (refine And.intro ?_ ?_; focus (show _ = (_ : Value); first | exact rfl | (refine Eq.trans (b := Value.int IntKind.i64 _) rfl (congrArg (Value.int IntKind.i64) ?_); omega)))))
  rintro b ρ2 hb
  try dsimp only
  cases b with
  | true =>
   have hno : ¬ okC n R kind m := hbad (fun h => by
    have := hb.2 ⟨(hokd.1 h).1, (hokd.1 h).2.1⟩
    cases this)
   (repeat (first | ((with_reducible refine is_AL ?_); (first | ((with_reducible refine is_assign ?_); (refine At_plain hF (by (exact (rfl : _ = some (Value.int _ _)))) ?_)) | with_reducible refine At_nil ?_)) | ((with_reducible refine is_At ?_); (first | with_reducible refine At_seq ?_; intro K hK | with_reducible refine At_region ?_ | with_reducible refine At_ret ?_ | with_reducible refine At_then_n ?_ | with_reducible refine At_then_r ?_ | with_reducible refine At_inb_r ?_ | with_reducible refine At_go (by assumption) ?_ | ((with_reducible refine is_cond ?_); (refine At_cond_t rfl ?_))))))
   exact At_ret1 rfl (rv_tmp (by decide)) (fun w' hw' => ⟨_, rfl, congrArg (Value.int .i64) (if_neg hno).symm, hw'.below⟩)
  | false =>
   obtain ⟨hokx, hbx⟩ := hb.1 rfl
   clear hb
   obtain ⟨f0, f1, f2⟩ := x
   have hr0 : 0 ≤ f0 ∧ f0 < Q := ⟨hokx.1, hokx.2.1⟩
   have h12 : f1 ≠ f2 := hokx.2.2.2.2
   obtain ⟨r, rfl⟩ : ∃ r : Nat, f0 = r := ⟨f0.toNat, by omega⟩
   dsimp only at hokd
   have hrQ : r < L.length := by have := hby.1; omega
   have hbyl : (L.getD r (none, 0, [])).2.2.length ≤ 1000000 := by
    rw [hby.2 r (by omega)]
    have h1 := List.length_filter_le (fun x : S44 => x.f0 == (r : Int)) (m.take i)
    have h2 : (m.take i).length ≤ m.length := by simp; omega
    unfold byR; omega
   (repeat ((with_reducible refine is_At ?_); (first | with_reducible refine At_seq ?_; intro K hK | with_reducible refine At_skip ?_ | with_reducible refine At_then_n ?_ | with_reducible refine At_go (by assumption) ?_ | ((with_reducible refine is_cond ?_); (refine At_cond_f rfl ?_)))))
   refine At_mergeE (σ := Nat × Nat) (fun b => [(1, .int .i64 kind), (2, .slice A m.length c), (3, ip b3), (7, ip b7), (9, .int .i64 Q), (11, .func (.func 43) #[] #[ip b3]), (12, .slice (some ⟨bo, 0, none⟩) Q Q), (13, .map (some bm)), (15, ip b15), (16, ip b.1), (17, ip b.2), (43, .slice A m.length c), (44, .int .i64 m.length), (45, .int .i64 i)]) (fun b => .obj b.1 (.cells #[.int .i64 (r : Nat), .int .i64 f1] 84 (0, 0)) :: .obj b.2 (.cells #[.int .i64 (r : Nat), .int .i64 f2] 84 (0, 0)) :: .obj b15 (.cells #[.int .i64 (r : Nat), .int .i64 f1, .int .i64 f2] 44 (0, 0)) :: .map epair Value.bool bm (setE (slots (m.take i))) :: .obj bo (.cells (buf (sc rwV) L []) 22 (0, 0)) :: .obj b7 (.cells #[.int .i64 n, .int .i64 R] 70 (0, 0)) :: .obj b3 (.cells #[.int .i64 n] 3 (0, 0)) :: L.map rwR) (fun b => True) ?_ ?_
   ·intro K' hK'
    refine At_drawF hF 14 [0, 1, 2, 3, 4, 5, 6, 7, 8, 9] [] [10, 11, 12, 13] (.obj b15 (.cells #[.int .i64 (r : Nat), .int .i64 f1, .int .i64 f2] 44 (0, 0)) :: L.map rwR) (by kernel_rfl) (by decide +kernel) (by decide +kernel) ?_; simp only [List.drop_succ_cons, List.drop_zero]; (repeat ((with_reducible refine is_AQF ?_); first | refine AQF_early (by decide) (by exact (rfl : _ = some (Oper.mk _ _ _ _ _ _))) (by intro K Q hK; (repeat (first | ((with_reducible refine is_field ?_); (refine At_field hF rfl ?_)) | ((with_reducible refine is_load ?_); (refine At_load hF 0 (by exact rfl) rfl (by (exact (rfl : _ = some (Value.int _ _)))) ?_)) | ((with_reducible refine is_build ?_); (refine At_buildPair hF (by decide) rfl rfl rfl ?_)))); exact At_nilK hK) ?_ | refine AQF_late (by decide) (by exact (rfl : _ = some (Oper.mk _ _ _ _ _ _))) (by intro E K Q hK; simp only [List.cons_append, List.nil_append] at hK ⊢; (repeat (first | ((with_reducible refine is_field ?_); (refine At_field hF rfl ?_)) | ((with_reducible refine is_load ?_); (refine At_load hF 0 (by exact rfl) rfl (by (exact (rfl : _ = some (Value.int _ _)))) ?_)) | ((with_reducible refine is_build ?_); (refine At_buildPair hF (by decide) rfl rfl rfl ?_)))); exact At_nilK hK) ?_))
    refine AQF_doneF ?_
    refine FAt_step (l := [10, 11]) (by (repeat (first | exact List.Sublist.refl _ | exact List.Sublist.slnil | refine List.Sublist.cons_cons _ ?_ | refine List.Sublist.cons _ ?_))) (by decide +kernel) ?_
    refine AT_all ?_ ?_
    ·refine FAt_op (by exact (rfl : _ = some (Oper.mk _ _ _ _ _ _))) ?_
     intro K Q' hK
     (refine At_alloc hF (by exact (rfl : _ = List.toArray (_ :: _))) ?_; intro b16)
     refine At_nilK (hK _ _ ?_)
     refine FAt_step (l := [11]) (by (repeat (first | exact List.Sublist.refl _ | exact List.Sublist.slnil | refine List.Sublist.cons_cons _ ?_ | refine List.Sublist.cons _ ?_))) (by decide +kernel) ?_
     refine AT_all1 ?_
     ·refine FAt_op (by exact (rfl : _ = some (Oper.mk _ _ _ _ _ _))) ?_
      intro K Q' hK
      (refine At_alloc hF (by exact (rfl : _ = List.toArray (_ :: _))) ?_; intro b17)
      refine At_nilK (hK _ _ ?_)
      refine FAt_step (l := [12]) (by (repeat (first | exact List.Sublist.refl _ | exact List.Sublist.slnil | refine List.Sublist.cons_cons _ ?_ | refine List.Sublist.cons _ ?_))) (by decide +kernel) ?_
      refine AT_all1 ?_
      ·refine FAt_op (by exact (rfl : _ = some (Oper.mk _ _ _ _ _ _))) ?_
       intro K Q' hK
       (repeat ((with_reducible refine is_store ?_); (refine At_storeB_1 hF rfl rfl rfl rfl (by simp [Value.one1, epair]) ?_)))
       refine At_nilK (hK _ _ ?_)
       refine FAt_step (l := [13]) (by (repeat (first | exact List.Sublist.refl _ | exact List.Sublist.slnil | refine List.Sublist.cons_cons _ ?_ | refine List.Sublist.cons _ ?_))) (by decide +kernel) ?_
       refine AT_all1 ?_
       ·refine FAt_op (by exact (rfl : _ = some (Oper.mk _ _ _ _ _ _))) ?_
        intro K Q' hK
        (repeat ((with_reducible refine is_store ?_); (refine At_storeB_0 hF rfl rfl rfl rfl (by simp [Value.one1, epair]) ?_)))
        refine At_nilK (hK _ _ ?_)
        refine FAt_done (by (repeat (first | exact List.Sublist.refl _ | exact List.Sublist.slnil | refine List.Sublist.cons_cons _ ?_ | refine List.Sublist.cons _ ?_))) (by decide +kernel) ?_
        (repeat (first | ((with_reducible refine is_AL ?_); (with_reducible refine At_nil ?_)) | ((with_reducible refine is_At ?_); (with_reducible refine At_then_n ?_))))
        first | (refine At.sub ?_ (hK' (b16, b17) _ trivial ?_); focus ((repeat (first | exact List.Sublist.refl _ | exact List.Sublist.slnil | refine List.Sublist.cons_cons _ ?_ | refine List.Sublist.cons _ ?_)); done)) | (refine fun w' hw' => (hK' (b16, b17) _ trivial ?_) w' (hw'.perm (List.Perm.swap _ _ _)))
        (repeat (first | exact True.intro | (refine And.intro ?_ ?_; focus (show _ = (_ : Value); first | exact rfl | (refine Eq.trans (b := Value.int IntKind.i64 _) rfl (congrArg (Value.int IntKind.i64) ?_); omega)))))
    refine AT_all1 ?_
    ·refine FAt_op (by exact (rfl : _ = some (Oper.mk _ _ _ _ _ _))) ?_
     intro K Q' hK
     (refine At_alloc hF (by exact (rfl : _ = List.toArray (_ :: _))) ?_; intro b17)
     refine At_nilK (hK _ _ ?_)
     refine FAt_step (l := [10]) (by (repeat (first | exact List.Sublist.refl _ | exact List.Sublist.slnil | refine List.Sublist.cons_cons _ ?_ | refine List.Sublist.cons _ ?_))) (by decide +kernel) ?_
     refine AT_all1 ?_
     ·refine FAt_op (by exact (rfl : _ = some (Oper.mk _ _ _ _ _ _))) ?_
      intro K Q' hK
      (refine At_alloc hF (by exact (rfl : _ = List.toArray (_ :: _))) ?_; intro b16)
      refine At_nilK (hK _ _ ?_)
      refine FAt_step (l := [12]) (by (repeat (first | exact List.Sublist.refl _ | exact List.Sublist.slnil | refine List.Sublist.cons_cons _ ?_ | refine List.Sublist.cons _ ?_))) (by decide +kernel) ?_
      refine AT_all1 ?_
      ·refine FAt_op (by exact (rfl : _ = some (Oper.mk _ _ _ _ _ _))) ?_
       intro K Q' hK
       (repeat ((with_reducible refine is_store ?_); (refine At_storeB_0 hF rfl rfl rfl rfl (by simp [Value.one1, epair]) ?_)))
       refine At_nilK (hK _ _ ?_)
       refine FAt_step (l := [13]) (by (repeat (first | exact List.Sublist.refl _ | exact List.Sublist.slnil | refine List.Sublist.cons_cons _ ?_ | refine List.Sublist.cons _ ?_))) (by decide +kernel) ?_
       refine AT_all1 ?_
       ·refine FAt_op (by exact (rfl : _ = some (Oper.mk _ _ _ _ _ _))) ?_
        intro K Q' hK
        (repeat ((with_reducible refine is_store ?_); (refine At_storeB_1 hF rfl rfl rfl rfl (by simp [Value.one1, epair]) ?_)))
        refine At_nilK (hK _ _ ?_)
        refine FAt_done (by (repeat (first | exact List.Sublist.refl _ | exact List.Sublist.slnil | refine List.Sublist.cons_cons _ ?_ | refine List.Sublist.cons _ ?_))) (by decide +kernel) ?_
        (repeat (first | ((with_reducible refine is_AL ?_); (with_reducible refine At_nil ?_)) | ((with_reducible refine is_At ?_); (with_reducible refine At_then_n ?_))))
        first | (refine At.sub ?_ (hK' (b16, b17) _ trivial ?_); focus ((repeat (first | exact List.Sublist.refl _ | exact List.Sublist.slnil | refine List.Sublist.cons_cons _ ?_ | refine List.Sublist.cons _ ?_)); done)) | (refine fun w' hw' => (hK' (b16, b17) _ trivial ?_) w' (hw'.perm (List.Perm.swap _ _ _)))
        (repeat (first | exact True.intro | (refine And.intro ?_ ?_; focus (show _ = (_ : Value); first | exact rfl | (refine Eq.trans (b := Value.int IntKind.i64 _) rfl (congrArg (Value.int IntKind.i64) ?_); omega)))))
   ·rintro ⟨b16, b17⟩ ρ3 -
    try dsimp only
    (repeat (first | ((with_reducible refine is_AL ?_); (first | ((with_reducible refine is_move ?_); (refine At_plain hF (by (exact (rfl : _ = some (Value.map _)))) ?_)) | ((with_reducible refine is_load ?_); (refine At_loadB hF 0 rfl rfl rfl ?_)))) | ((with_reducible refine is_At ?_); (first | with_reducible refine At_seq ?_; intro K hK | with_reducible refine At_region ?_ | with_reducible refine At_go (by assumption) ?_))))
    refine At_lookup hF 3 (k := ((r : Int), f1)) (z := .bool false) keyOk84 (by exact rfl) (by exact rfl) (by exact rfl) rfl ?_
    simp only [Bool.false_eq_true, if_false, look_setE]
    by_cases d1 : ((r : Int), f1) ∈ slots (m.take i)
    ·have hno : ¬ okC n R kind m := hbad (fun h => (hokd.1 h).2.2.1 d1)
     rw [decide_eq_true d1]
     (repeat (first | ((with_reducible refine is_AL ?_); (first | ((with_reducible refine is_guarded ?_); (refine At_guard_f hF rfl (by decide) rfl rfl ?_)) | ((with_reducible refine is_move ?_); (refine At_plain hF (by (exact (rfl : _ = some (Value.bool _)))) ?_)) | ((with_reducible refine is_assign ?_); (refine At_plain hF (by (exact (rfl : _ = some (Value.int _ _)))) ?_)) | ((with_reducible refine is_pick ?_); (refine At_plain hF (by (exact (rfl : _ = some (Value.bool _)))) ?_)) | with_reducible refine At_nil ?_)) | ((with_reducible refine is_At ?_); (first | with_reducible refine At_seq ?_; intro K hK | with_reducible refine At_region ?_ | with_reducible refine At_ret ?_ | with_reducible refine At_then_n ?_ | with_reducible refine At_then_r ?_ | with_reducible refine At_inb_r ?_ | with_reducible refine At_go (by assumption) ?_ | ((with_reducible refine is_cond ?_); (refine At_cond_t rfl ?_))))))
     exact At_ret1 rfl (rv_tmp (by decide)) (fun w' hw' => ⟨_, rfl, congrArg (Value.int .i64) (if_neg hno).symm, hw'.below⟩)
    rw [decide_eq_false d1]
    (repeat ((with_reducible refine is_AL ?_); (first | ((with_reducible refine is_guarded ?_); (refine At_guard_t rfl (by decide) rfl ?_)) | ((with_reducible refine is_move ?_); (refine At_plain hF (by (first | exact (rfl : _ = some (Value.bool _)) | exact (rfl : _ = some (Value.map _)))) ?_)) | ((with_reducible refine is_load ?_); (refine At_loadB hF 1 rfl rfl rfl ?_)))))
    refine At_lookup hF 3 (k := ((r : Int), f2)) (z := .bool false) keyOk84 (by exact rfl) (by exact rfl) (by exact rfl) rfl ?_
    simp only [Bool.false_eq_true, if_false, look_setE]
    by_cases d2 : ((r : Int), f2) ∈ slots (m.take i)
    ·have hno : ¬ okC n R kind m := hbad (fun h => (hokd.1 h).2.2.2 d2)
     rw [decide_eq_true d2]
     (repeat (first | ((with_reducible refine is_AL ?_); (first | ((with_reducible refine is_assign ?_); (refine At_plain hF (by (exact (rfl : _ = some (Value.int _ _)))) ?_)) | ((with_reducible refine is_pick ?_); (refine At_plain hF (by (exact (rfl : _ = some (Value.bool _)))) ?_)) | with_reducible refine At_nil ?_)) | ((with_reducible refine is_At ?_); (first | with_reducible refine At_seq ?_; intro K hK | with_reducible refine At_region ?_ | with_reducible refine At_ret ?_ | with_reducible refine At_then_n ?_ | with_reducible refine At_then_r ?_ | with_reducible refine At_inb_r ?_ | with_reducible refine At_go (by assumption) ?_ | ((with_reducible refine is_cond ?_); (refine At_cond_t rfl ?_))))))
     exact At_ret1 rfl (rv_tmp (by decide)) (fun w' hw' => ⟨_, rfl, congrArg (Value.int .i64) (if_neg hno).symm, hw'.below⟩)
    rw [decide_eq_false d2]
    have d3 : ((r : Int), f2) ∉ slots (m.take i) ++ [((r : Int), f1)] := by
     rw [List.mem_append, List.mem_singleton]
     rintro (h | h)
     ·exact d2 h
     ·exact h12 (congrArg Prod.snd h).symm
    (repeat (first | ((with_reducible refine is_AL ?_); (first | ((with_reducible refine is_pick ?_); (refine At_plain hF (by (exact (rfl : _ = some (Value.bool _)))) ?_)) | with_reducible refine At_nil ?_)) | ((with_reducible refine is_At ?_); (first | with_reducible refine At_seq ?_; intro K hK | with_reducible refine At_skip ?_ | with_reducible refine At_then_n ?_ | with_reducible refine At_go (by assumption) ?_ | ((with_reducible refine is_cond ?_); (refine At_cond_f rfl ?_))))))
    refine At_drawE hF 6 [0, 1, 2, 3] [] [4, 5] (.obj b16 (.cells #[.int .i64 (r : Nat), .int .i64 f1] 84 (0, 0)) :: .obj b17 (.cells #[.int .i64 (r : Nat), .int .i64 f2] 84 (0, 0)) :: L.map rwR) (by kernel_rfl) (by decide +kernel) (by decide +kernel) ?_; simp only [List.drop_succ_cons, List.drop_zero]; (repeat ((with_reducible refine is_AQF ?_); first | refine AQF_early (by decide) (by exact (rfl : _ = some (Oper.mk _ _ _ _ _ _))) (by intro K Q hK; (repeat (first | ((with_reducible refine is_move ?_); (refine At_plain hF (by (exact (rfl : _ = some (Value.map _)))) ?_)) | ((with_reducible refine is_load ?_); (first | refine At_loadB hF 0 rfl rfl rfl ?_ | refine At_loadB hF 1 rfl rfl rfl ?_)))); exact At_nilK hK) ?_ | refine AQF_late (by decide) (by exact (rfl : _ = some (Oper.mk _ _ _ _ _ _))) (by intro E K Q hK; simp only [List.cons_append, List.nil_append] at hK ⊢; (repeat (first | ((with_reducible refine is_move ?_); (refine At_plain hF (by (exact (rfl : _ = some (Value.map _)))) ?_)) | ((with_reducible refine is_load ?_); (first | refine At_loadB hF 0 rfl rfl rfl ?_ | refine At_loadB hF 1 rfl rfl rfl ?_)))); exact At_nilK hK) ?_))
    refine AQF_done ?_
    (refine WAt_cons ?_ (by exact (rfl : _ = some (Oper.mk _ _ _ _ _ _))) ?_; (focus (repeat (first | exact List.Sublist.refl _ | exact List.Sublist.slnil | refine List.Sublist.cons_cons _ ?_ | refine List.Sublist.cons _ ?_))); intro K Q hK)
    refine At_mapUpdate hF 3 (k := ((r : Int), f1)) (v := true) keyOk84 (by exact rfl) (by exact rfl) (by exact rfl) rfl ?_
    simp only [List.set_cons_succ, List.set_cons_zero]
    rw [mput_setE _ _ d1]
    refine At_nilK (hK _ _ ?_)
    (refine WAt_cons ?_ (by exact (rfl : _ = some (Oper.mk _ _ _ _ _ _))) ?_; (focus (repeat (first | exact List.Sublist.refl _ | exact List.Sublist.slnil | refine List.Sublist.cons_cons _ ?_ | refine List.Sublist.cons _ ?_))); intro K Q hK)
    refine At_mapUpdate hF 3 (k := ((r : Int), f2)) (v := true) keyOk84 (by exact rfl) (by exact rfl) (by exact rfl) rfl ?_
    simp only [List.set_cons_succ, List.set_cons_zero]
    rw [mput_setE _ _ d3]
    refine At_nilK (hK _ _ ?_)
    (refine WAt_nil ?_ ?_; (focus (repeat (first | exact List.Sublist.refl _ | exact List.Sublist.slnil | refine List.Sublist.cons_cons _ ?_ | refine List.Sublist.cons _ ?_))))
    rw [List.append_assoc, show slots (m.take i) ++ ([((r : Int), f1)] ++ [((r : Int), f2)]) = slots (m.take (i + 1)) by rw [htk, slots_snoc]; rfl]
    (repeat (first | ((with_reducible refine is_AL ?_); (with_reducible refine At_nil ?_)) | ((with_reducible refine is_At ?_); (first | with_reducible refine At_then_n ?_ | with_reducible refine At_go (by assumption) ?_))))
    refine At_drawE hF 11 [0, 1, 2, 3, 4, 5, 6, 7, 8] [] [9, 10] ([.obj b15 (.cells #[.int .i64 (r : Nat), .int .i64 f1, .int .i64 f2] 44 (0, 0)), .obj bo (.cells (buf (sc rwV) L []) 22 (0, 0))]) (by kernel_rfl) (by decide +kernel) (by decide +kernel) ?_; simp only [List.drop_succ_cons, List.drop_zero]; (repeat ((with_reducible refine is_AQF ?_); first | refine AQF_early (by decide) (by exact (rfl : _ = some (Oper.mk _ _ _ _ _ _))) (by intro K Q hK; (repeat (first | ((with_reducible refine is_move ?_); (refine At_plain hF (by (exact (rfl : _ = some (Value.slice _ _ _)))) ?_)) | ((with_reducible refine is_field ?_); (refine At_field hF rfl ?_)) | ((with_reducible refine is_load ?_); (first | refine At_load hF 0 (by exact rfl) rfl (by (exact (rfl : _ = some (Value.int _ _)))) ?_ | refine At_load hF 1 (by exact rfl) rfl (by (exact buf_getI _ (by omega))) ?_ | refine At_loadB hF 0 rfl rfl rfl ?_)) | ((with_reducible refine is_index ?_); (refine At_indexS1 hF rfl rfl rfl (by omega) ?_)))); exact At_nilK hK) ?_ | refine AQF_late (by decide) (by exact (rfl : _ = some (Oper.mk _ _ _ _ _ _))) (by intro E K Q hK; simp only [List.cons_append, List.nil_append] at hK ⊢; (repeat (first | ((with_reducible refine is_move ?_); (refine At_plain hF (by (exact (rfl : _ = some (Value.slice _ _ _)))) ?_)) | ((with_reducible refine is_field ?_); (refine At_field hF rfl ?_)) | ((with_reducible refine is_load ?_); (first | refine At_load hF 0 (by exact rfl) rfl (by (exact (rfl : _ = some (Value.int _ _)))) ?_ | refine At_load hF 1 (by exact rfl) rfl (by (exact buf_getI _ (by omega))) ?_ | refine At_loadB hF 0 rfl rfl rfl ?_)) | ((with_reducible refine is_index ?_); (refine At_indexS1 hF rfl rfl rfl (by omega) ?_)))); exact At_nilK hK) ?_))
    refine AQF_done ?_
    (refine WAt_cons ?_ (by exact (rfl : _ = some (Oper.mk _ _ _ _ _ _))) ?_; (focus (repeat (first | exact List.Sublist.refl _ | exact List.nil_sublist _ | refine List.Sublist.cons_cons _ ?_ | refine List.Sublist.cons _ ?_))); intro K Q' hK)
    (refine At_sliceA_1 hF (by decide) rfl rfl ?_; intro bs)
    refine At_nilK (hK _ _ ?_)
    (refine WAt_cons ?_ (by exact (rfl : _ = some (Oper.mk _ _ _ _ _ _))) ?_; (focus (repeat (first | exact List.Sublist.refl _ | exact List.nil_sublist _ | refine List.Sublist.cons_cons _ ?_ | refine List.Sublist.cons _ ?_))); intro K Q' hK)
    refine At_append hF (e := 44) (i := r + 8) (j := 0) (by rw [show r + 8 = r + 7 + 1 from rfl]; simp only [List.getElem?_cons_succ]; exact rows_get hrQ) rfl (by exact rfl) rfl (by exact rfl) (enc := enc44) (x0 := (⟨(r : Int), f1, f2⟩ : S44)) rfl (by decide) (by simp [Value.one1]) (by simp only [TS.bytes]; omega) (by omega) ?_
    intro A3 c3
    simp only [List.set_cons_succ, List.set_cons_zero]
    rw [rows_set, show (L.getD r (none, 0, [])).2.2.length + 1 = ((L.getD r (none, 0, [])).2.2 ++ [(⟨(r : Int), f1, f2⟩ : S44)]).length by simp]
    refine At_nilK (hK _ _ ?_)
    (refine WAt_nil ?_ ?_; (focus (repeat (first | exact List.Sublist.refl _ | exact List.nil_sublist _ | refine List.Sublist.cons_cons _ ?_ | refine List.Sublist.cons _ ?_))))
    (repeat (first | ((with_reducible refine is_AL ?_); (first | ((with_reducible refine is_move ?_); (refine At_plain hF (by (exact (rfl : _ = some (Value.int _ _)))) ?_)) | ((with_reducible refine is_bin ?_); ((with_reducible refine is_badd ?_); (refine At_add hF rfl rfl (by omega) ?_))) | ((with_reducible refine is_index ?_); (refine At_indexS1 hF rfl rfl rfl (by omega) ?_)) | ((with_reducible refine is_store ?_); (refine At_store_5 hF rfl (by (exact (rfl : _ = (Value.slice _ _ _)))) (by (simp [buf_size1]; omega)) (by exact rfl) (by exact rfl) (by (exact rfl)) ?_)) | with_reducible refine At_nil ?_)) | ((with_reducible refine is_At ?_); (first | with_reducible refine At_region ?_ | with_reducible refine At_then_n ?_ | with_reducible refine At_inb_n ?_ | with_reducible refine At_go (by assumption) ?_))))
    rw [show (buf (sc rwV) L []).setIfInBounds r (.slice (A3.map fun b => ⟨b, 0, none⟩) ((L.getD r (none, 0, [])).2.2 ++ [(⟨(r : Int), f1, f2⟩ : S44)]).length c3) = buf (sc rwV) (L.set r (A3, c3, (L.getD r (none, 0, [])).2.2 ++ [(⟨(r : Int), f1, f2⟩ : S44)])) [] from buf_set1 (l := L) (junk := []) (x := ((A3, c3, (L.getD r (none, 0, [])).2.2 ++ [(⟨(r : Int), f1, f2⟩ : S44)]) : RW)) rwV hrQ]
    refine At.sub ?_ (hL (i + 1, L.set r (A3, c3, (L.getD r (none, 0, [])).2.2 ++ [(⟨(r : Int), f1, f2⟩ : S44)])) _ ⟨by simp only; omega, ?_, ?_⟩ (by simp only; omega) ?_)
    ·(repeat (first | exact List.Sublist.refl _ | exact List.Sublist.slnil | refine List.Sublist.cons_cons _ ?_ | refine List.Sublist.cons _ ?_))
    ·intro j hj
     rcases Nat.lt_or_ge j i with h | h
     ·exact hok j h
     ·obtain rfl : j = i := by simp only at hj; omega
      exact hokd.2 ⟨hokx, hbx, d1, d2⟩
    ·simp only
     rw [htk]
     exact hby.snoc _ r (by omega) rfl A3 c3
    ·(repeat (first | exact True.intro | (refine And.intro ?_ ?_; focus (show _ = (_ : Value); first | exact rfl | (refine Eq.trans (b := Value.int IntKind.i64 _) rfl (congrArg (Value.int IntKind.i64) ?_); omega)))))
 obtain rfl : i = m.length := by omega
 rw [List.take_length] at hby
 clear hL
 have hmb : m.Pairwise bef := okI_bef hok
 have hL2 := hby.1
 have hlen2 : ∀ r, (byR m r).length ≤ 1000000 := fun r => Nat.le_trans (List.length_filter_le _ _) hlen
 (repeat ((with_reducible refine is_At ?_); (first | with_reducible refine At_seq ?_; intro K hK | with_reducible refine At_region ?_ | with_reducible refine At_exit ?_ | with_reducible refine At_then_n ?_ | with_reducible refine At_then_e ?_ | with_reducible refine At_inb_e rfl ?_ | with_reducible refine At_go (by assumption) ?_)))
 refine At_makeMap hF epair Value.bool ?_
 intro bq
 (repeat (first | ((with_reducible refine is_AL ?_); (first | ((with_reducible refine is_move ?_); (refine At_plain hF (by (exact (rfl : _ = some (Value.int _ _)))) ?_)) | ((with_reducible refine is_assign ?_); (refine At_plain hF (by (exact (rfl : _ = some (Value.map _)))) ?_)) | ((with_reducible refine is_field ?_); (refine At_field hF rfl ?_)) | ((with_reducible refine is_load ?_); (refine At_load hF 3 (by exact rfl) rfl (by (exact (rfl : _ = some (Value.int _ _)))) ?_)) | with_reducible refine At_nil ?_)) | ((with_reducible refine is_At ?_); (first | with_reducible refine At_seq ?_; intro K hK | with_reducible refine At_block ?_ | with_reducible refine At_region ?_ | with_reducible refine At_then_n ?_ | with_reducible refine At_go (by assumption) ?_))))
 refine At_loop (fun r : Nat => [(1, .int .i64 kind), (3, ip b3), (7, ip b7), (12, .slice (some ⟨bo, 0, none⟩) Q Q), (18, .map (some bq)), (131, .int .i64 R), (132, .int .i64 r)]) (fun r => .map epair Value.bool bq (setE (metL m R kind r)) :: .obj bo (.cells (buf (sc rwV) L []) 22 (0, 0)) :: .obj b7 (.cells #[.int .i64 n, .int .i64 R] 70 (0, 0)) :: .obj b3 (.cells #[.int .i64 n] 3 (0, 0)) :: L.map rwR) (fun r => r ≤ R ∧ (∀ q, q < r → okR2 m R kind q) ∧ (metL m R kind r).Nodup) (fun r => R - r) 0 ?_ ?_ ⟨Nat.zero_le _, fun q hq => absurd hq (Nat.not_lt_zero _), List.nodup_nil⟩ ?_
 ·(repeat (first | exact List.Sublist.refl _ | exact List.Sublist.slnil | refine List.Sublist.cons_cons _ ?_ | refine List.Sublist.cons _ ?_))
 ·(repeat (first | exact True.intro | (refine And.intro ?_ ?_; focus (show _ = (_ : Value); first | exact rfl | (refine Eq.trans (b := Value.int IntKind.i64 _) rfl (congrArg (Value.int IntKind.i64) ?_); omega)))))
 rintro r ⟨hrR, hok2, hnd⟩ K hL ρ1
 try dsimp only
 (repeat (first | ((with_reducible refine is_AL ?_); (first | ((with_reducible refine is_bin ?_); (refine At_plain hF (by (exact (rfl : _ = some (Value.bool _)))) ?_)) | with_reducible refine At_nil ?_)) | ((with_reducible refine is_At ?_); (first | with_reducible refine At_seq ?_; intro K hK | with_reducible refine At_region ?_ | with_reducible refine At_then_n ?_ | with_reducible refine At_go (by assumption) ?_))))
 ((with_reducible refine is_cond ?_); (refine At_cond rfl ?_ ?_ <;> (intro hg; try (simp only [decide_eq_true_eq, decide_eq_false_iff_not, beq_iff_eq, bne_iff_ne, beq_eq_false_iff_ne, bne_eq_false_iff_eq, ne_eq, Bool.not_eq_true', Bool.not_eq_false', Bool.not_true, Bool.not_false, Decidable.not_not] at hg); try (exfalso; first | omega | exact hg True.intro))))
 ·have hlt : r < R := by omega
  have hbad : ¬ okR2 m R kind r → ¬ okC n R kind m := fun h h2 => h (h2.2.1 r hlt)
  have hmet : metL m R kind (r + 1) = metL m R kind r ++ (byR m (mkA R kind r)).map pr := rfl
  obtain ⟨a, ha, haQ⟩ := mkA_nat R kind r hk hlt
  rw [← hQ] at haQ
  (repeat (first | ((with_reducible refine is_AL ?_); (first | ((with_reducible refine is_move ?_); (refine At_plain hF (by (exact (rfl : _ = some (Value.int _ _)))) ?_)) | ((with_reducible refine is_assign ?_); (refine At_plain hF (by (exact (rfl : _ = some (Value.int _ _)))) ?_)) | ((with_reducible refine is_load ?_); (refine At_loadB hF 2 rfl rfl rfl ?_)) | with_reducible refine At_nil ?_)) | ((with_reducible refine is_At ?_); (first | with_reducible refine At_seq ?_; intro K hK | with_reducible refine At_block ?_ | with_reducible refine At_region ?_ | with_reducible refine At_skip ?_ | with_reducible refine At_then_n ?_ | with_reducible refine At_go (by assumption) ?_))))
  refine At_callB hF E39 rfl (u := .tuple #[.int .i64 (mkA R kind r), .int .i64 (mkB R kind r)]) (arg3 (by (first | exact (rfl : _ = (Value.int _ _)) | exact (rfl : _ = (Value.bool _)) | exact (rfl : _ = (Value.pointer _)) | exact (rfl : _ = (Value.slice _ _ _)) | exact (rfl : _ = (Value.map _)) | exact (rfl : _ = (Value.func _ _ _)) | exact (rfl : _ = (Value.tuple _)) | exact (rfl : _ = (Value.agg _)) | exact (rfl : _ = (Value.string _)) | exact (rfl : _ = (Value.nilFunc)) | exact (rfl : _ = (Value.nilIface)))) (by (first | exact (rfl : _ = (Value.int _ _)) | exact (rfl : _ = (Value.bool _)) | exact (rfl : _ = (Value.pointer _)) | exact (rfl : _ = (Value.slice _ _ _)) | exact (rfl : _ = (Value.map _)) | exact (rfl : _ = (Value.func _ _ _)) | exact (rfl : _ = (Value.tuple _)) | exact (rfl : _ = (Value.agg _)) | exact (rfl : _ = (Value.string _)) | exact (rfl : _ = (Value.nilFunc)) | exact (rfl : _ = (Value.nilIface)))) (by (first | exact (rfl : _ = (Value.int _ _)) | exact (rfl : _ = (Value.bool _)) | exact (rfl : _ = (Value.pointer _)) | exact (rfl : _ = (Value.slice _ _ _)) | exact (rfl : _ = (Value.map _)) | exact (rfl : _ = (Value.func _ _ _)) | exact (rfl : _ = (Value.tuple _)) | exact (rfl : _ = (Value.agg _)) | exact (rfl : _ = (Value.string _)) | exact (rfl : _ = (Value.nilFunc)) | exact (rfl : _ = (Value.nilIface))))) (fun w' hw' => (robin_circle_pair.calls n R r kind _ _ w' (pair_f n R r kind hlt (by omega))).mono (by rintro e w2 ⟨rfl, hb⟩; exact ⟨_, rfl, rfl, hb⟩)) ?_
  rw [ha]
  have hga := hby.2 a haQ
  have hgr := rows_get (L := L) (r := a) (by omega)
  have hgv : (buf (sc rwV) L [])[a]? = some (rwV (L.getD a (none, 0, []))) := buf_get1 rwV _ (by omega)
  generalize hgl : L.getD a (none, 0, []) = g at hga hgr hgv
  obtain ⟨Aa, ca, la⟩ := g
  dsimp only at hga hgr
  have hla : la.length ≤ 1000000 := by rw [hga]; exact hlen2 _
  rw [← ha] at hga
  (repeat (first | ((with_reducible refine is_AL ?_); (first | ((with_reducible refine is_move ?_); (refine At_plain hF (by (first | exact (rfl : _ = some (Value.int _ _)) | exact (rfl : _ = some (Value.slice _ _ _)) | exact (rfl : _ = some (Value.tuple _)))) ?_)) | ((with_reducible refine is_assign ?_); (refine At_plain hF (by (exact (rfl : _ = some (Value.int _ _)))) ?_)) | ((with_reducible refine is_extract ?_); (refine At_plain hF (by (exact (rfl : _ = some (Value.int _ _)))) ?_)) | ((with_reducible refine is_call ?_); (refine At_len hF rfl ?_)) | ((with_reducible refine is_load ?_); (refine At_load hF 1 (by exact rfl) rfl (by (exact buf_getI _ (by omega))) ?_)) | ((with_reducible refine is_index ?_); (refine At_indexS1 hF rfl rfl rfl (by omega) ?_)) | with_reducible refine At_nil ?_)) | ((with_reducible refine is_At ?_); (first | with_reducible refine At_seq ?_; intro K hK | with_reducible refine At_block ?_ | with_reducible refine At_region ?_ | with_reducible refine At_then_n ?_ | with_reducible refine At_go (by assumption) ?_))))
  rw [show L.getD a default = (Aa, ca, la) from hgl]
  refine At_loop (fun k : Nat => [(1, .int .i64 kind), (3, ip b3), (7, ip b7), (12, .slice (some ⟨bo, 0, none⟩) Q Q), (18, .map (some bq)), (20, .int .i64 a), (21, .int .i64 (mkB R kind r)), (131, .int .i64 R), (132, .int .i64 r), (145, rowV Aa la.length ca), (146, .int .i64 la.length), (147, .int .i64 k)]) (fun k => .map epair Value.bool bq (setE (metL m R kind r ++ (la.take k).map pr)) :: .obj bo (.cells (buf (sc rwV) L []) 22 (0, 0)) :: .obj b7 (.cells #[.int .i64 n, .int .i64 R] 70 (0, 0)) :: .obj b3 (.cells #[.int .i64 n] 3 (0, 0)) :: L.map rwR) (fun k => k ≤ la.length ∧ (metL m R kind r ++ (la.take k).map pr).Nodup) (fun k => la.length - k) 0 ?_ ?_ ⟨Nat.zero_le _, by simpa using hnd⟩ ?_
  ·simp only [List.take_zero, List.map_nil, List.append_nil]
   (repeat (first | exact List.Sublist.refl _ | exact List.Sublist.slnil | refine List.Sublist.cons_cons _ ?_ | refine List.Sublist.cons _ ?_))
  ·(repeat (first | exact True.intro | (refine And.intro ?_ ?_; focus (show _ = (_ : Value); first | exact rfl | (refine Eq.trans (b := Value.int IntKind.i64 _) rfl (congrArg (Value.int IntKind.i64) ?_); omega)))))
  rintro k ⟨hk2, hnd2⟩ K2 hL3 ρ2
  try dsimp only
  (repeat (first | ((with_reducible refine is_AL ?_); (first | ((with_reducible refine is_bin ?_); (refine At_plain hF (by (exact (rfl : _ = some (Value.bool _)))) ?_)) | with_reducible refine At_nil ?_)) | ((with_reducible refine is_At ?_); (first | with_reducible refine At_seq ?_; intro K hK | with_reducible refine At_region ?_ | with_reducible refine At_then_n ?_ | with_reducible refine At_go (by assumption) ?_))))
  ((with_reducible refine is_cond ?_); (refine At_cond rfl ?_ ?_ <;> (intro hg; try (simp only [decide_eq_true_eq, decide_eq_false_iff_not, beq_iff_eq, bne_iff_ne, beq_eq_false_iff_ne, bne_eq_false_iff_eq, ne_eq, Bool.not_eq_true', Bool.not_eq_false', Bool.not_true, Bool.not_false, Decidable.not_not] at hg); try (exfalso; first | omega | exact hg True.intro))))
  ·have hklt : k < la.length := by omega
   refine At_rowSome (a + 4) (by rw [show a + 4 = a + 3 + 1 from rfl]; simp only [List.getElem?_cons_succ]; exact hgr) (by omega) ?_
   rintro bA rfl
   have htk := take_snocS la k z44 hklt
   have hnn := nodup_no (ks := metL m R kind r) (la := la)
   (repeat (first | ((with_reducible refine is_AL ?_); ((with_reducible refine is_index ?_); (refine At_indexS hF rfl rfl (by omega) ?_))) | ((with_reducible refine is_At ?_); (first | with_reducible refine At_seq ?_; intro K hK | with_reducible refine At_block ?_ | with_reducible refine At_region ?_ | with_reducible refine At_skip ?_ | with_reducible refine At_then_n ?_ | with_reducible refine At_go (by assumption) ?_))))
   refine At_loadRow hF (a + 4) (by exact rfl) (by rw [show a + 4 = a + 3 + 1 from rfl]; simp only [List.getElem?_cons_succ]; exact hgr) z44 hklt rfl (by exact (rfl : _ = Value.agg #[.int .i64 (la.getD k z44).f0, .int .i64 (la.getD k z44).f1, .int .i64 (la.getD k z44).f2])) ?_
   have hnn2 := fun h => hnn h k hklt
   clear hnn
   generalize la.getD k z44 = x at htk hnn2 ⊢
   ((repeat (first | ((with_reducible refine is_AL ?_); (first | ((with_reducible refine is_move ?_); (refine At_plain hF (by (exact (rfl : _ = some (Value.map _)))) ?_)) | ((with_reducible refine is_call ?_); (first | refine At_max hF rfl rfl ?_ | refine At_min hF rfl rfl ?_)) | ((with_reducible refine is_field ?_); (refine At_field hF rfl ?_)) | ((with_reducible refine is_load ?_); (first | refine At_load hF 0 (by exact rfl) rfl (by (exact (rfl : _ = some (Value.int _ _)))) ?_ | refine At_loadB hF 0 rfl rfl rfl ?_)) | ((with_reducible refine is_build ?_); (refine At_buildPair hF (by decide) rfl rfl rfl ?_)) | ((with_reducible refine is_store ?_); (refine At_storeB_0 hF rfl rfl rfl rfl (by simp [Value.one1, epair]) ?_)) | with_reducible refine At_nil ?_)) | ((with_reducible refine is_At ?_); (first | with_reducible refine At_seq ?_; intro K hK | with_reducible refine At_region ?_ | with_reducible refine At_then_n ?_ | with_reducible refine At_go (by assumption) ?_)))); ((with_reducible refine is_alloc ?_); (refine At_alloc hF (by (exact (rfl : _ = List.toArray (_ :: _)))) ?_; intro b23)); (repeat (first | ((with_reducible refine is_AL ?_); (first | ((with_reducible refine is_move ?_); (refine At_plain hF (by (exact (rfl : _ = some (Value.map _)))) ?_)) | ((with_reducible refine is_call ?_); (first | refine At_max hF rfl rfl ?_ | refine At_min hF rfl rfl ?_)) | ((with_reducible refine is_field ?_); (refine At_field hF rfl ?_)) | ((with_reducible refine is_load ?_); (first | refine At_load hF 0 (by exact rfl) rfl (by (exact (rfl : _ = some (Value.int _ _)))) ?_ | refine At_loadB hF 0 rfl rfl rfl ?_)) | ((with_reducible refine is_build ?_); (refine At_buildPair hF (by decide) rfl rfl rfl ?_)) | ((with_reducible refine is_store ?_); (refine At_storeB_0 hF rfl rfl rfl rfl (by simp [Value.one1, epair]) ?_)) | with_reducible refine At_nil ?_)) | ((with_reducible refine is_At ?_); (first | with_reducible refine At_seq ?_; intro K hK | with_reducible refine At_region ?_ | with_reducible refine At_then_n ?_ | with_reducible refine At_go (by assumption) ?_)))); ((with_reducible refine is_alloc ?_); (refine At_alloc hF (by (exact (rfl : _ = List.toArray (_ :: _)))) ?_; intro b24)); (repeat (first | ((with_reducible refine is_AL ?_); (first | ((with_reducible refine is_move ?_); (refine At_plain hF (by (exact (rfl : _ = some (Value.map _)))) ?_)) | ((with_reducible refine is_call ?_); (first | refine At_max hF rfl rfl ?_ | refine At_min hF rfl rfl ?_)) | ((with_reducible refine is_field ?_); (refine At_field hF rfl ?_)) | ((with_reducible refine is_load ?_); (first | refine At_load hF 0 (by exact rfl) rfl (by (exact (rfl : _ = some (Value.int _ _)))) ?_ | refine At_loadB hF 0 rfl rfl rfl ?_)) | ((with_reducible refine is_build ?_); (refine At_buildPair hF (by decide) rfl rfl rfl ?_)) | ((with_reducible refine is_store ?_); (refine At_storeB_0 hF rfl rfl rfl rfl (by simp [Value.one1, epair]) ?_)) | with_reducible refine At_nil ?_)) | ((with_reducible refine is_At ?_); (first | with_reducible refine At_seq ?_; intro K hK | with_reducible refine At_region ?_ | with_reducible refine At_then_n ?_ | with_reducible refine At_go (by assumption) ?_)))))
   refine At_lookup hF 2 (k := pr x) (z := .bool false) keyOk84 (by exact rfl) (by exact rfl) (by exact rfl) rfl ?_
   simp only [Bool.false_eq_true, if_false, look_setE]
   by_cases d1 : pr x ∈ metL m R kind r ++ (la.take k).map pr
   ·have hno : ¬ okC n R kind m := hbad (fun h => by
     have h2 := h.1
     rw [hmet, ← hga] at h2
     exact hnn2 h2 d1)
    rw [decide_eq_true d1]
    (repeat (first | ((with_reducible refine is_AL ?_); (first | ((with_reducible refine is_assign ?_); (refine At_plain hF (by (exact (rfl : _ = some (Value.int _ _)))) ?_)) | with_reducible refine At_nil ?_)) | ((with_reducible refine is_At ?_); (first | with_reducible refine At_seq ?_; intro K hK | with_reducible refine At_region ?_ | with_reducible refine At_ret ?_ | with_reducible refine At_then_n ?_ | with_reducible refine At_then_r ?_ | with_reducible refine At_inb_r ?_ | with_reducible refine At_go (by assumption) ?_ | ((with_reducible refine is_cond ?_); (refine At_cond_t rfl ?_))))))
    exact At_ret1 rfl (rv_tmp (by decide)) (fun w' hw' => ⟨_, rfl, congrArg (Value.int .i64) (if_neg hno).symm, hw'.below⟩)
   rw [decide_eq_false d1]
   (repeat (first | ((with_reducible refine is_AL ?_); (first | ((with_reducible refine is_move ?_); (refine At_plain hF (by (exact (rfl : _ = some (Value.map _)))) ?_)) | ((with_reducible refine is_load ?_); (refine At_loadB hF 0 rfl rfl rfl ?_)) | with_reducible refine At_nil ?_)) | ((with_reducible refine is_At ?_); (first | with_reducible refine At_region ?_ | with_reducible refine At_skip ?_ | with_reducible refine At_then_n ?_ | with_reducible refine At_go (by assumption) ?_ | ((with_reducible refine is_cond ?_); (refine At_cond_f rfl ?_))))))
   refine At_mapUpdate hF 2 (k := pr x) (v := true) keyOk84 (by exact rfl) (by exact rfl) (by exact rfl) rfl ?_
   simp only [List.set_cons_succ, List.set_cons_zero]
   rw [mput_setE _ _ d1, List.append_assoc, show (la.take k).map pr ++ [pr x] = (la.take (k + 1)).map pr by rw [htk, List.map_append]; rfl]
   (repeat (first | ((with_reducible refine is_AL ?_); (first | ((with_reducible refine is_move ?_); (refine At_plain hF (by (exact (rfl : _ = some (Value.int _ _)))) ?_)) | ((with_reducible refine is_bin ?_); ((with_reducible refine is_badd ?_); (refine At_add hF rfl rfl (by omega) ?_))) | with_reducible refine At_nil ?_)) | ((with_reducible refine is_At ?_); (first | with_reducible refine At_region ?_ | with_reducible refine At_then_n ?_ | with_reducible refine At_inb_n ?_ | with_reducible refine At_go (by assumption) ?_))))
   refine At.sub ?_ (hL3 (k + 1) _ ⟨by omega, ?_⟩ (by omega) ?_)
   ·(repeat (first | exact List.Sublist.refl _ | exact List.Sublist.slnil | refine List.Sublist.cons_cons _ ?_ | refine List.Sublist.cons _ ?_))
   ·rw [htk, List.map_append, ← List.append_assoc, List.nodup_append]
    refine ⟨hnd2, by simp, ?_⟩
    rintro p hp q hq rfl
    simp only [List.map_cons, List.map_nil, List.mem_singleton] at hq
    exact d1 (hq ▸ hp)
   ·(repeat (first | exact True.intro | (refine And.intro ?_ ?_; focus (show _ = (_ : Value); first | exact rfl | (refine Eq.trans (b := Value.int IntKind.i64 _) rfl (congrArg (Value.int IntKind.i64) ?_); omega)))))
  obtain rfl : k = la.length := by omega
  rw [List.take_length] at hnd2 ⊢
  clear hL3
  have hm1 : metL m R kind r ++ la.map pr = metL m R kind (r + 1) := by rw [hmet, hga]
  rw [hm1] at hnd2 ⊢
  by_cases hb0 : mkB R kind r ≥ 0
  case neg =>
   have hok3 : okR2 m R kind r := ⟨hnd2, fun h => absurd h hb0⟩
   (repeat ((with_reducible refine is_At ?_); (first | with_reducible refine At_seq ?_; intro K hK | with_reducible refine At_exit ?_ | with_reducible refine At_then_n ?_ | with_reducible refine At_then_e ?_ | with_reducible refine At_inb_e rfl ?_ | with_reducible refine At_go (by assumption) ?_)))
   refine At_draw hF 16 (by kernel_rfl) (by decide +kernel) ?_; simp only [List.take_succ_cons, List.take_zero, List.drop_succ_cons, List.drop_zero]; (repeat ((with_reducible refine is_AQc ?_); refine AQ_cons (by intro K Q hK; (repeat (first | ((with_reducible refine is_move ?_); (refine At_plain hF (by (first | exact (rfl : _ = some (Value.int _ _)) | exact (rfl : _ = some (Value.bool _)))) ?_)) | ((with_reducible refine is_bin ?_); (refine At_plain hF (by (exact (rfl : _ = some (Value.bool _)))) ?_)))); exact At_nilK hK) ?_))
   rw [decide_eq_false hb0]
   (repeat ((with_reducible refine is_AQc ?_); refine AQ_cons (by intro K Q hK; (repeat (first | ((with_reducible refine is_guarded ?_); (refine At_guard_f hF rfl (by decide) rfl rfl ?_)) | ((with_reducible refine is_pick ?_); (refine At_plain hF (by (exact (rfl : _ = some (Value.bool _)))) ?_)))); exact At_nilK hK) ?_)); refine AQ_done ?_
   (repeat (first | ((with_reducible refine is_AL ?_); (first | ((with_reducible refine is_move ?_); (refine At_plain hF (by (exact (rfl : _ = some (Value.int _ _)))) ?_)) | ((with_reducible refine is_bin ?_); ((with_reducible refine is_badd ?_); (refine At_add hF rfl rfl (by omega) ?_))) | with_reducible refine At_nil ?_)) | ((with_reducible refine is_At ?_); (first | with_reducible refine At_region ?_ | with_reducible refine At_skip ?_ | with_reducible refine At_then_n ?_ | with_reducible refine At_inb_n ?_ | with_reducible refine At_go (by assumption) ?_ | ((with_reducible refine is_cond ?_); (refine At_cond_f rfl ?_))))))
   refine At.sub ?_ (hL (r + 1) _ ⟨by omega, fun q hq => ?_, hnd2⟩ (by omega) ?_)
   ·(repeat (first | exact List.Sublist.refl _ | exact List.Sublist.slnil | refine List.Sublist.cons_cons _ ?_ | refine List.Sublist.cons _ ?_))
   ·rcases Nat.lt_or_ge q r with h | h
    ·exact hok2 q h
    ·obtain rfl : q = r := by omega
     exact hok3
   ·(repeat (first | exact True.intro | (refine And.intro ?_ ?_; focus (show _ = (_ : Value); first | exact rfl | (refine Eq.trans (b := Value.int IntKind.i64 _) rfl (congrArg (Value.int IntKind.i64) ?_); omega)))))
  obtain ⟨b, hbb, hbQ⟩ := mkB_nat R kind r hk hlt hb0
  rw [← hQ] at hbQ
  have hgb := hby.2 b hbQ
  have hgrb := rows_get (L := L) (r := b) (by omega)
  have hgvb : (buf (sc rwV) L [])[b]? = some (rwV (L.getD b (none, 0, []))) := buf_get1 rwV _ (by omega)
  generalize hglb : L.getD b (none, 0, []) = g at hgb hgrb hgvb
  obtain ⟨Ab, cb, lb⟩ := g
  dsimp only at hgb hgrb
  rw [hbb] at hb0 ⊢
  rw [← hbb] at hgb
  (repeat ((with_reducible refine is_At ?_); (first | with_reducible refine At_seq ?_; intro K hK | with_reducible refine At_exit ?_ | with_reducible refine At_then_n ?_ | with_reducible refine At_then_e ?_ | with_reducible refine At_inb_e rfl ?_ | with_reducible refine At_go (by assumption) ?_)))
  refine At_drawE hF 13 [0, 1, 2, 3, 4, 5, 6, 7, 8, 9, 10, 11] [] [12] (.map epair Value.bool bq (setE (metL m R kind (r + 1))) :: .obj bo (.cells (buf (sc rwV) L []) 22 (0, 0)) :: .obj b7 (.cells #[.int .i64 n, .int .i64 R] 70 (0, 0)) :: .obj b3 (.cells #[.int .i64 n] 3 (0, 0)) :: L.map rwR) (by kernel_rfl) (by decide +kernel) (by decide +kernel) ?_; simp only [List.drop_succ_cons, List.drop_zero]; (repeat ((with_reducible refine is_AQF ?_); first | refine AQF_early (by decide) (by exact (rfl : _ = some (Oper.mk _ _ _ _ _ _))) (by intro K Q hK; (repeat (first | ((with_reducible refine is_guarded ?_); (refine At_guard_t rfl (by decide) rfl ?_)) | ((with_reducible refine is_move ?_); (refine At_plain hF (by (first | exact (rfl : _ = some (Value.int _ _)) | exact (rfl : _ = some (Value.bool _)) | exact (rfl : _ = some (Value.slice _ _ _)))) ?_)) | ((with_reducible refine is_bin ?_); (refine At_plain hF (by (exact (rfl : _ = some (Value.bool _)))) ?_)) | ((with_reducible refine is_load ?_); (refine At_load hF 1 (by exact rfl) rfl (by (exact buf_getI _ (by omega))) ?_)) | ((with_reducible refine is_index ?_); (refine At_indexS1 hF rfl rfl rfl (by omega) ?_)))); exact At_nilK hK) ?_ | refine AQF_late (by decide) (by exact (rfl : _ = some (Oper.mk _ _ _ _ _ _))) (by intro E K Q hK; simp only [List.cons_append, List.nil_append] at hK ⊢; (repeat (first | ((with_reducible refine is_guarded ?_); (refine At_guard_t rfl (by decide) rfl ?_)) | ((with_reducible refine is_move ?_); (refine At_plain hF (by (first | exact (rfl : _ = some (Value.int _ _)) | exact (rfl : _ = some (Value.bool _)) | exact (rfl : _ = some (Value.slice _ _ _)))) ?_)) | ((with_reducible refine is_bin ?_); (refine At_plain hF (by (exact (rfl : _ = some (Value.bool _)))) ?_)) | ((with_reducible refine is_load ?_); (refine At_load hF 1 (by exact rfl) rfl (by (exact buf_getI _ (by omega))) ?_)) | ((with_reducible refine is_index ?_); (refine At_indexS1 hF rfl rfl rfl (by omega) ?_)))); exact At_nilK hK) ?_))
  rw [decide_eq_true hb0]
  (repeat ((with_reducible refine is_AQF ?_); first | refine AQF_early (by decide) (by exact (rfl : _ = some (Oper.mk _ _ _ _ _ _))) (by intro K Q hK; skip; exact At_nilK hK) ?_ | refine AQF_late (by decide) (by exact (rfl : _ = some (Oper.mk _ _ _ _ _ _))) (by intro E K Q hK; simp only [List.cons_append, List.nil_append] at hK ⊢; skip; exact At_nilK hK) ?_))
  rw [show L.getD b default = (Ab, cb, lb) from hglb, show L.getD a default = (Aa, ca, la) from hgl]
  refine AQF_done ?_
  (refine WAt_cons ?_ (by exact (rfl : _ = some (Oper.mk _ _ _ _ _ _))) ?_; (focus (repeat (first | exact List.Sublist.refl _ | exact List.Sublist.slnil | refine List.Sublist.cons_cons _ ?_ | refine List.Sublist.cons _ ?_))); intro K Q hK)
  refine At_guard_t rfl (by decide) rfl ?_
  refine At_callM hF E40 rfl (Post := fun u Rs => ∃ A' c' l', u = rowV A' l'.length c' ∧ (l'.Perm (la.map (trn b)) ∧ SrtL l') ∧ Rs = [.row 44 3 enc44 A' c' l']) (arg2 (by (first | exact (rfl : _ = (Value.int _ _)) | exact (rfl : _ = (Value.bool _)) | exact (rfl : _ = (Value.pointer _)) | exact (rfl : _ = (Value.slice _ _ _)) | exact (rfl : _ = (Value.map _)) | exact (rfl : _ = (Value.func _ _ _)) | exact (rfl : _ = (Value.tuple _)) | exact (rfl : _ = (Value.agg _)) | exact (rfl : _ = (Value.string _)) | exact (rfl : _ = (Value.nilFunc)) | exact (rfl : _ = (Value.nilIface)))) (by (first | exact (rfl : _ = (Value.int _ _)) | exact (rfl : _ = (Value.bool _)) | exact (rfl : _ = (Value.pointer _)) | exact (rfl : _ = (Value.slice _ _ _)) | exact (rfl : _ = (Value.map _)) | exact (rfl : _ = (Value.func _ _ _)) | exact (rfl : _ = (Value.tuple _)) | exact (rfl : _ = (Value.agg _)) | exact (rfl : _ = (Value.string _)) | exact (rfl : _ = (Value.nilFunc)) | exact (rfl : _ = (Value.nilIface))))) (fun w' hw' => ?_) ?_
  ·have hc := C_own44 (e := 44) (A := Aa) (c := ca) (l := la) hw' (by simp only [List.mem_cons]; exact .inr (.inr (.inr (.inr (List.mem_of_getElem? hgr)))))
   refine (turned_rets w' _ ca la b hc (by omega)).mono ?_
   rintro _ w2 ⟨_, rfl, A', c', l', rfl, h1, h⟩
   rw [show la.length = l'.length by rw [h1.1.length_eq, List.length_map]]
   exact ⟨_, rfl, _, ⟨A', c', l', rfl, h1, rfl⟩, h⟩
  rintro _ _ ⟨A', c', l', rfl, hl', rfl⟩
  simp only [List.cons_append, List.nil_append]
  refine At_nilK (hK _ _ ?_)
  (refine WAt_nil ?_ ?_; (focus (repeat (first | exact List.Sublist.refl _ | exact List.Sublist.slnil | refine List.Sublist.cons_cons _ ?_ | refine List.Sublist.cons _ ?_))))
  refine At_guard_t rfl (by decide) rfl ?_
  refine At_callB hF E44 rfl (arg2 (by (first | exact (rfl : _ = (Value.int _ _)) | exact (rfl : _ = (Value.bool _)) | exact (rfl : _ = (Value.pointer _)) | exact (rfl : _ = (Value.slice _ _ _)) | exact (rfl : _ = (Value.map _)) | exact (rfl : _ = (Value.func _ _ _)) | exact (rfl : _ = (Value.tuple _)) | exact (rfl : _ = (Value.agg _)) | exact (rfl : _ = (Value.string _)) | exact (rfl : _ = (Value.nilFunc)) | exact (rfl : _ = (Value.nilIface)))) (by (first | exact (rfl : _ = (Value.int _ _)) | exact (rfl : _ = (Value.bool _)) | exact (rfl : _ = (Value.pointer _)) | exact (rfl : _ = (Value.slice _ _ _)) | exact (rfl : _ = (Value.map _)) | exact (rfl : _ = (Value.func _ _ _)) | exact (rfl : _ = (Value.tuple _)) | exact (rfl : _ = (Value.agg _)) | exact (rfl : _ = (Value.string _)) | exact (rfl : _ = (Value.nilFunc)) | exact (rfl : _ = (Value.nilIface))))) (fun w' hw' => eq_rets w' _ _ cb c' lb l' (C_own44 (e := 44) (A := Ab) (c := cb) (l := lb) hw' (by simp only [List.mem_cons]; exact .inr (.inr (.inr (.inr (.inr (List.mem_of_getElem? hgrb))))))) (C_own44 (e := 44) (A := A') (c := c') (l := l') hw' (List.mem_cons_self ..))) ?_
  have hp' : l'.Perm ((byR m (mkA R kind r)).map (trn (mkB R kind r))) := by rw [← hga, hbb]; exact hl'.1
  have hte := turn_eq hmb hp' hl'.2
  by_cases he : lb = l'
  ·have hok3 : okR2 m R kind r := ⟨hnd2, fun _ => hte.1 (by rw [← hgb]; exact he)⟩
   rw [decide_eq_true he]
   (repeat (first | ((with_reducible refine is_AL ?_); (first | ((with_reducible refine is_guarded ?_); (refine At_guard_t rfl (by decide) rfl ?_)) | ((with_reducible refine is_move ?_); (refine At_plain hF (by (exact (rfl : _ = some (Value.int _ _)))) ?_)) | ((with_reducible refine is_bin ?_); ((with_reducible refine is_badd ?_); (refine At_add hF rfl rfl (by omega) ?_))) | ((with_reducible refine is_pick ?_); (refine At_plain hF (by (exact (rfl : _ = some (Value.bool _)))) ?_)) | ((with_reducible refine is_un ?_); (refine At_plain hF (by (exact (rfl : _ = some (Value.bool _)))) ?_)) | with_reducible refine At_nil ?_)) | ((with_reducible refine is_At ?_); (first | with_reducible refine At_region ?_ | with_reducible refine At_skip ?_ | with_reducible refine At_then_n ?_ | with_reducible refine At_inb_n ?_ | with_reducible refine At_go (by assumption) ?_ | ((with_reducible refine is_cond ?_); (refine At_cond_f rfl ?_))))))
   refine At.sub ?_ (hL (r + 1) _ ⟨by omega, fun q hq => ?_, hnd2⟩ (by omega) ?_)
   ·(repeat (first | exact List.Sublist.refl _ | exact List.Sublist.slnil | refine List.Sublist.cons_cons _ ?_ | refine List.Sublist.cons _ ?_))
   ·rcases Nat.lt_or_ge q r with h | h
    ·exact hok2 q h
    ·obtain rfl : q = r := by omega
     exact hok3
   ·(repeat (first | exact True.intro | (refine And.intro ?_ ?_; focus (show _ = (_ : Value); first | exact rfl | (refine Eq.trans (b := Value.int IntKind.i64 _) rfl (congrArg (Value.int IntKind.i64) ?_); omega)))))
  ·have hno : ¬ okC n R kind m := hbad (fun h => he (by rw [hgb]; exact hte.2 (h.2 (by rw [hbb]; exact hb0))))
   rw [decide_eq_false he]
   (repeat (first | ((with_reducible refine is_AL ?_); (first | ((with_reducible refine is_guarded ?_); (refine At_guard_t rfl (by decide) rfl ?_)) | ((with_reducible refine is_assign ?_); (refine At_plain hF (by (exact (rfl : _ = some (Value.int _ _)))) ?_)) | ((with_reducible refine is_pick ?_); (refine At_plain hF (by (exact (rfl : _ = some (Value.bool _)))) ?_)) | ((with_reducible refine is_un ?_); (refine At_plain hF (by (exact (rfl : _ = some (Value.bool _)))) ?_)) | with_reducible refine At_nil ?_)) | ((with_reducible refine is_At ?_); (first | with_reducible refine At_seq ?_; intro K hK | with_reducible refine At_region ?_ | with_reducible refine At_ret ?_ | with_reducible refine At_then_n ?_ | with_reducible refine At_then_r ?_ | with_reducible refine At_inb_r ?_ | with_reducible refine At_go (by assumption) ?_ | ((with_reducible refine is_cond ?_); (refine At_cond_t rfl ?_))))))
   exact At_ret1 rfl (rv_tmp (by decide)) (fun w' hw' => ⟨_, rfl, congrArg (Value.int .i64) (if_neg hno).symm, hw'.below⟩)
 obtain rfl : r = R := by omega
 clear hL
 have hN : n * (n - 1) ≤ 20 * 19 := Nat.mul_le_mul (by omega) (by omega)
 have hN2 : (n : Int) * ((n : Int) - 1) = ((n * (n - 1) : Nat) : Int) := by
  rw [show (n : Int) - 1 = ((n - 1 : Nat) : Int) by omega, ← Int.natCast_mul]
 have hsl : (setE (metL m r kind r)).length = (metL m r kind r).length := by simp [setE]
 have hoc : okC n r kind m ↔ (metL m r kind r).length = n * (n - 1) / 2 := ⟨fun h => h.2.2, fun h => ⟨by rw [← hQ]; exact hok, hok2, h⟩⟩
 generalize n * (n - 1) = N at hN hN2 hoc
 (repeat (first | ((with_reducible refine is_AL ?_); ((with_reducible refine is_move ?_); (refine At_plain hF (by (exact (rfl : _ = some (Value.map _)))) ?_))) | ((with_reducible refine is_At ?_); (first | with_reducible refine At_seq ?_; intro K hK | with_reducible refine At_region ?_ | with_reducible refine At_exit ?_ | with_reducible refine At_then_n ?_ | with_reducible refine At_then_e ?_ | with_reducible refine At_inb_e rfl ?_ | with_reducible refine At_go (by assumption) ?_))))
 refine At_mapLen hF 0 (by exact rfl) rfl ?_
 rw [hsl]
 (repeat (first | ((with_reducible refine is_AL ?_); (first | ((with_reducible refine is_bin ?_); (first | ((with_reducible refine is_bsub ?_); (refine At_sub hF rfl rfl (by omega) ?_)) | ((with_reducible refine is_bmul ?_); (refine At_mul hF rfl rfl (by omega) ?_)) | ((with_reducible refine is_bquo ?_); (refine At_quo hF rfl rfl (by omega) ?_)) | refine At_plain hF (by (exact (rfl : _ = some (Value.bool _)))) ?_)) | ((with_reducible refine is_load ?_); (refine At_load hF 3 (by exact rfl) rfl (by (exact (rfl : _ = some (Value.int _ _)))) ?_)) | with_reducible refine At_nil ?_)) | ((with_reducible refine is_At ?_); (first | with_reducible refine At_then_n ?_ | with_reducible refine At_go (by assumption) ?_))))
 rw [hN2]
 ((with_reducible refine is_cond ?_); (refine At_cond rfl ?_ ?_ <;> (intro hg; try (simp only [decide_eq_true_eq, decide_eq_false_iff_not, beq_iff_eq, bne_iff_ne, beq_eq_false_iff_ne, bne_eq_false_iff_eq, ne_eq, Bool.not_eq_true', Bool.not_eq_false', Bool.not_true, Bool.not_false, Decidable.not_not] at hg); try (exfalso; first | omega | exact hg True.intro))))
 ·have hno : ¬ okC n r kind m := fun h => hg (by rw [hoc.1 h]; omega)
  (repeat (first | ((with_reducible refine is_AL ?_); (first | ((with_reducible refine is_assign ?_); (refine At_plain hF (by (exact (rfl : _ = some (Value.int _ _)))) ?_)) | with_reducible refine At_nil ?_)) | ((with_reducible refine is_At ?_); (first | with_reducible refine At_seq ?_; intro K hK | with_reducible refine At_region ?_ | with_reducible refine At_ret ?_ | with_reducible refine At_then_n ?_ | with_reducible refine At_then_r ?_ | with_reducible refine At_go (by assumption) ?_))))
  exact At_ret1 rfl (rv_tmp (by decide)) (fun w' hw' => ⟨_, rfl, congrArg (Value.int .i64) (if_neg hno).symm, hw'.below⟩)
 ·have hyes : okC n r kind m := hoc.2 (by omega)
  (repeat (first | ((with_reducible refine is_AL ?_); (first | ((with_reducible refine is_assign ?_); (refine At_plain hF (by (exact (rfl : _ = some (Value.int _ _)))) ?_)) | with_reducible refine At_nil ?_)) | ((with_reducible refine is_At ?_); (first | with_reducible refine At_seq ?_; intro K hK | with_reducible refine At_region ?_ | with_reducible refine At_skip ?_ | with_reducible refine At_ret ?_ | with_reducible refine At_then_n ?_ | with_reducible refine At_go (by assumption) ?_))))
  exact At_ret1 rfl (rv_tmp (by decide)) (fun w' hw' => ⟨_, rfl, congrArg (Value.int .i64) (if_pos hyes).symm, hw'.below⟩)
end Go.Proofs.Ytecgklfcblpkdaa.RB

/- robin.Make: what it makes, as a sorted list. -/
namespace Go.Proofs.Ytecgklfcblpkdaa.RB
open Go.RowKit Go.Proofs.Ytecgklfcblpkdaa.P Go.Proofs.YtecgklfcblpkdaaW.PrintWords Go.Proofs.YtecgklfcblpkdaaW.PrintLast Go.Proofs.YtecgklfcblpkdaaW.PrintMore
open XW RegInv
set_option linter.unusedSimpArgs false
set_option linter.unusedVariables false
def insM (x : S44) : List S44 → List S44
  | [] => [x]
  | y :: l => if bef y x then y :: insM x l else x :: y :: l
def sortM (l : List S44) : List S44 := l.foldr insM []
theorem insM_perm (x : S44) : ∀ l : List S44, (insM x l).Perm (x :: l)
  | [] => List.Perm.refl _
  | y :: l => by
    rw [insM]
    split
    · exact ((insM_perm x l).cons y).trans (List.Perm.swap x y l)
    · exact List.Perm.refl _
theorem sortM_perm : ∀ l : List S44, (sortM l).Perm l
  | [] => List.Perm.refl _
  | x :: l => (insM_perm x _).trans ((sortM_perm l).cons x)
def strictB : List S44 → Bool
  | [] => true
  | x :: l => (match l with | [] => true | y :: _ => decide (bef x y)) && strictB l
theorem strict_of : ∀ {l : List S44}, strictB l = true → l.Pairwise bef
  | [], _ => List.Pairwise.nil
  | [x], _ => List.pairwise_singleton _ _
  | x :: y :: l, h => by
    rw [strictB, Bool.and_eq_true] at h
    have h2 := strict_of h.2
    have h1 : bef x y := of_decide_eq_true h.1
    refine List.pairwise_cons.2 ⟨fun z hz => ?_, h2⟩
    rcases List.mem_cons.1 hz with rfl | hz
    · exact h1
    · exact bef_trans h1 ((List.pairwise_cons.1 h2).1 z hz)
def rndsN (n : Nat) : Nat := n - 1 + n % 2
def mkM (n : Nat) (kind : Int) : List S44 := sortM (mkRaw n (rndsN n) kind (rndsN n))
theorem mk_strictB : ∀ n, n < 21 → 2 ≤ n → ∀ k, k < 4 → 1 ≤ k → strictB (mkM n (k : Nat)) = true := by decide +kernel
theorem mk_strict {n : Nat} {kind : Int} (hn : 2 ≤ n ∧ n ≤ 20) (hk : 1 ≤ kind ∧ kind ≤ 3) : (mkM n kind).Pairwise bef := by
  obtain ⟨k, rfl⟩ : ∃ k : Nat, kind = k := ⟨kind.toNat, by omega⟩
  exact strict_of (mk_strictB n (by omega) hn.1 k (by omega) (by omega))
theorem mk_uniq {n : Nat} {kind : Int} {l : List S44} (hn : 2 ≤ n ∧ n ≤ 20) (hk : 1 ≤ kind ∧ kind ≤ 3) (hp : l.Perm (mkRaw n (rndsN n) kind (rndsN n))) (hs : SrtL l) : l = mkM n kind :=
  srt_uniq (hp.trans (sortM_perm _).symm) hs (mk_strict hn hk)
end Go.Proofs.Ytecgklfcblpkdaa.RB

/- robin.Make: contract. -/
namespace Go.Proofs.Ytecgklfcblpkdaa.RB
open Go.RowKit Go.Proofs.Ytecgklfcblpkdaa.P Go.Proofs.YtecgklfcblpkdaaW.PrintWords Go.Proofs.YtecgklfcblpkdaaW.PrintLast Go.Proofs.YtecgklfcblpkdaaW.PrintMore
open XW RegInv
set_option linter.unusedSimpArgs false
set_option linter.unusedVariables false
theorem flat_at44 : ∀ (l : List S44) (j : Nat) (x : S44), l[j]? = some x → ((l.flatMap enc44).drop (j * 3)).take 3 = enc44 x
  | [], j, x, h => by simp at h
  | y :: l, 0, x, h => by
    obtain rfl : y = x := by simpa using h
    rw [Nat.zero_mul, List.drop_zero, List.flatMap_cons]
    exact List.take_left' rfl
  | y :: l, j + 1, x, h => by
    have h' : l[j]? = some x := by simpa using h
    rw [List.flatMap_cons, show (j + 1) * 3 = 3 + j * 3 by omega, ← List.drop_drop, List.drop_left' (show (enc44 y).length = 3 from rfl)]
    exact flat_at44 l j x h'
theorem R_row44 {base w : World} {R : List Res} {A : Option Nat} {c : Nat} {l : List S44} (hw : Mem base w R) (hm : Res.row 44 3 enc44 A c l ∈ R) : Kd.R k44 44 w base.heap.size (fun _ => True) (rowV A l.length c) l := by
  have h0 : RowOk 44 3 enc44 A c l w := hw.ok _ hm
  have h2 := ownsRow_of (B := base.heap.size) h0 (fun k hk => (hw.bd _ hm k hk).1)
  refine ⟨fun _ _ => trivial, _, h2, len_flat enc44_len l, fun j p hj => ?_⟩
  have := flat_at44 l j p hj
  rw [show k44.sz = 3 from rfl, this]
  exact k44_mkM _ _ _ _
def rightR (n kind : Int) : Prop := 2 ≤ n ∧ n ≤ 20 ∧ 1 ≤ kind ∧ kind ≤ 3
instance (n kind : Int) : Decidable (rightR n kind) := inferInstanceAs (Decidable (_ ∧ _))
theorem mkM_rets (w0 : World) (n : Nat) (kind : Int) (hn : 2 ≤ n ∧ n ≤ 20) (hk : 1 ≤ kind ∧ kind ≤ 3) :
    Rets Try.prog 32 #[.int .i64 n, .int .i64 kind] w0 fun u w' => ∃ A c, u = .tuple #[rowV A (mkM n kind).length c, .int .i64 0] ∧ Mem w0 w' [.row 44 3 enc44 A c (mkM n kind)] := by
  refine (make_rets w0 n (rndsN n) kind hn hk rfl).mono ?_
  rintro e w' ⟨v, rfl, A', c', l', rfl, h1, hmem⟩
  rw [mk_uniq hn hk h1.1 h1.2] at hmem ⊢
  exact ⟨_, rfl, _, _, rfl, hmem⟩
end Go.Proofs.Ytecgklfcblpkdaa.RB

/- robin.Check: contract. -/
namespace Go.Proofs.Ytecgklfcblpkdaa.RB
open Go.RowKit Go.Proofs.Ytecgklfcblpkdaa.P Go.Proofs.YtecgklfcblpkdaaW.PrintWords Go.Proofs.YtecgklfcblpkdaaW.PrintLast Go.Proofs.YtecgklfcblpkdaaW.PrintMore
open XW RegInv
attribute [local irreducible] Addr.add
set_option linter.unusedSimpArgs false
set_option linter.unusedVariables false
def chkM (n : Nat) (kind : Int) (m : List S44) : Int := if okC n (rndsN n) kind m then 0 else 200
theorem chkM_rets (w : World) (n : Nat) (kind : Int) (hn : 2 ≤ n ∧ n ≤ 20) (hk : 1 ≤ kind ∧ kind ≤ 3) (A : Option Addr) (c : Nat) (m : List S44) (hr : Kd.C k44 w A m.length m) (hl : m.length ≤ 1000000) :
    Rets Try.prog 34 #[.int .i64 n, .int .i64 kind, .slice A m.length c] w fun u w' => u = .int .i64 (chkM n kind m) ∧ Below w.heap.size w w' :=
  check_rets w n (rndsN n) _ kind A c m hn hk rfl rfl hr hl
end Go.Proofs.Ytecgklfcblpkdaa.RB

/- Round robins, told so that the order of the list tells nothing: plain. -/
namespace Go.Proofs.Ytecgklfcblpkdaa.RB
open Go.RowKit Go.Proofs.Ytecgklfcblpkdaa.P Go.Proofs.YtecgklfcblpkdaaW.PrintWords Go.Proofs.YtecgklfcblpkdaaW.PrintLast Go.Proofs.YtecgklfcblpkdaaW.PrintMore
open XW RegInv
set_option linter.unusedSimpArgs false
set_option linter.unusedVariables false
theorem pr_same (x y : S44) : pr x = pr y ↔ (x.f1 = y.f1 ∧ x.f2 = y.f2) ∨ (x.f1 = y.f2 ∧ x.f2 = y.f1) := by
 unfold pr
 rw [Prod.mk.injEq]; omega
def catR (m : List S44) (F : Nat → Int) : Nat → List S44
 | 0 => []
 | r + 1 => catR m F r ++ byR m (F r)
theorem met_cat (m : List S44) (R : Nat) (kind : Int) : ∀ r, metL m R kind r = (catR m (mkA R kind) r).map pr
 | 0 => rfl
 | r + 1 => by rw [metL, catR, met_cat m R kind r, List.map_append]
theorem filter_or {p q r : S44 → Bool} (h : ∀ x, p x = (q x || r x)) (h2 : ∀ x, (q x && r x) = false) : ∀ l : List S44, (l.filter p).Perm (l.filter q ++ l.filter r)
 | [] => List.Perm.refl _
 | x :: l => by
  have ih := filter_or h h2 l
  have hx := h x
  have hx2 := h2 x
  simp only [List.filter_cons]
  cases hq : q x <;> cases hr : r x <;> simp [hq, hr] at hx hx2 <;> rw [hx]
  ·simpa using ih
  ·simp only [if_true]
   exact (ih.cons x).trans List.perm_middle.symm
  ·simp only [if_true]
   exact ih.cons x
theorem cat_filter (m : List S44) : ∀ Q : Nat, (catR m (fun r => (r : Int)) Q).Perm (m.filter fun x => decide (x.f0 < Q) && decide (0 ≤ x.f0))
 | 0 => by
  rw [catR, List.filter_eq_nil_iff.2]
  intro x _
  simp
 | Q + 1 => by
  rw [catR]
  refine ((cat_filter m Q).append_right _).trans (List.Perm.symm ?_)
  refine filter_or (fun x => ?_) (fun x => ?_) m
  ·rw [Bool.eq_iff_iff]; simp; omega
  ·rw [Bool.eq_false_iff]; simp; omega
theorem cat_all (m : List S44) (Q : Nat) (h : ∀ x ∈ m, 0 ≤ x.f0 ∧ x.f0 < Q) : (catR m (fun r => (r : Int)) Q).Perm m := by
 have := cat_filter m Q
 rwa [List.filter_eq_self.2] at this
 intro x hx
 have := h x hx
 simp [this.1, this.2]
theorem cat_congr (m : List S44) {F G : Nat → Int} : ∀ r, (∀ q, q < r → F q = G q) → catR m F r = catR m G r
 | 0, _ => rfl
 | r + 1, h => by rw [catR, catR, cat_congr m r (fun q hq => h q (by omega)), h r (by omega)]
theorem met_sub (m : List S44) (R : Nat) (kind : Int) : ∀ d r, (metL m R kind r).Sublist (metL m R kind (r + d))
 | 0, r => List.Sublist.refl _
 | d + 1, r => (met_sub m R kind d r).trans (by rw [show r + (d + 1) = (r + d) + 1 from rfl, metL]; exact List.sublist_append_left _ _)
theorem cat_len2 (m : List S44) : ∀ r, (catR m (fun q => (q : Int)) (2 * r)).length = (catR m (fun q => 2 * (q : Int)) r).length + (catR m (fun q => 2 * (q : Int) + 1) r).length
 | 0 => rfl
 | r + 1 => by
  have ih := cat_len2 m r
  rw [show 2 * (r + 1) = (2 * r + 1) + 1 by omega]
  simp only [catR, List.length_append]
  rw [show ((2 * r : Nat) : Int) = 2 * (r : Int) by omega, show ((2 * r + 1 : Nat) : Int) = 2 * (r : Int) + 1 by omega]
  omega
theorem cat_len3 (m : List S44) (R : Nat) : ∀ r, (catR m (fun q => (q : Int)) (R + r)).length = (catR m (fun q => (q : Int)) R).length + (catR m (fun q => (R : Int) + (q : Int)) r).length
 | 0 => rfl
 | r + 1 => by
  have ih := cat_len3 m R r
  rw [show R + (r + 1) = (R + r) + 1 by omega]
  simp only [catR, List.length_append]
  rw [show ((R + r : Nat) : Int) = (R : Int) + (r : Int) by omega]
  omega
def nodupB : List Nat → Nat → Bool
 | [], _ => true
 | c :: l, s => !(s.testBit c) && nodupB l (s ||| 1 <<< c)
theorem bit_or (s c t : Nat) : (s ||| 1 <<< c).testBit t = (s.testBit t || decide (c = t)) := by
 rw [Nat.testBit_or, Nat.one_shiftLeft, Nat.testBit_two_pow]
theorem nodupB_spec : ∀ (l : List Nat) (s : Nat), nodupB l s = true → l.Nodup ∧ ∀ c ∈ l, s.testBit c = false
 | [], s, _ => ⟨List.nodup_nil, by simp⟩
 | c :: l, s, h => by
  rw [nodupB, Bool.and_eq_true, Bool.not_eq_true'] at h
  obtain ⟨h1, h2⟩ := nodupB_spec l _ h.2
  have h3 : ∀ d ∈ l, s.testBit d = false ∧ c ≠ d := fun d hd => by
   have := h2 d hd
   rw [bit_or, Bool.or_eq_false_iff, decide_eq_false_iff_not] at this
   exact this
  refine ⟨List.nodup_cons.2 ⟨fun hc => (h3 c hc).2 rfl, h1⟩, fun d hd => ?_⟩
  rcases List.mem_cons.1 hd with rfl | hd
  ·exact h.1
  ·exact (h3 d hd).1
def cd (p : Int × Int) : Nat := p.1.toNat * 20 + p.2.toNat
theorem nodup_cd {l : List (Int × Int)} (h : nodupB (l.map cd) 0 = true) : l.Nodup := by
 have h1 := (nodupB_spec _ _ h).1
 exact (List.pairwise_map.1 h1).imp (fun {a b} h e => h (by rw [e]))
theorem slots_app (l l' : List S44) : slots (l ++ l') = slots l ++ slots l' := by simp [slots]
theorem okI_of {n Q : Int} {m : List S44} (hX : ∀ x ∈ m, okX n Q x) (hb : m.Pairwise bef) (hs : (slots m).Nodup) : ∀ i, i < m.length → okI n Q m i := by
 intro i hi
 have e : m = m.take i ++ m.getD i z44 :: m.drop (i + 1) := by
  have h1 := take_snocS m i z44 hi
  have h2 := List.take_append_drop (i + 1) m
  rw [h1, List.append_assoc] at h2
  exact h2.symm
 have hm : m.getD i z44 ∈ m := getD_memS hi
 rw [e, slots_app] at hs
 have hd := (List.nodup_append.1 hs).2.2
 refine ⟨hX _ hm, fun h0 => ?_, fun h => hd _ h ((m.getD i z44).f0, (m.getD i z44).f1) (by simp [slots]) rfl, fun h => hd _ h ((m.getD i z44).f0, (m.getD i z44).f2) (by simp [slots]) rfl⟩
 have := List.pairwise_iff_getElem.1 hb (i - 1) i (by omega) hi (by omega)
 rw [List.getD_eq_getElem?_getD, List.getElem?_eq_getElem (by omega : i - 1 < m.length), List.getD_eq_getElem?_getD, List.getElem?_eq_getElem hi]
 exact this
structure RR (n R : Nat) (kind : Int) (m : List S44) : Prop where
 inX : ∀ x ∈ m, okX n (rndsQ R kind : Nat) x
 slt : (slots m).Nodup
 met : (metL m R kind R).Nodup
 trns : ∀ r, r < R → 0 ≤ mkB R kind r → (byR m (mkB R kind r)).Perm ((byR m (mkA R kind r)).map (trn (mkB R kind r)))
 cnt : (metL m R kind R).length = n * (n - 1) / 2
theorem okC_of {n R : Nat} {kind : Int} {m : List S44} (h : RR n R kind m) (hb : m.Pairwise bef) : okC n R kind m := by
 refine ⟨okI_of h.inX hb h.slt, fun r hr => ⟨?_, h.trns r hr⟩, h.cnt⟩
 have := met_sub m R kind (R - (r + 1)) (r + 1)
 rw [show r + 1 + (R - (r + 1)) = R by omega] at this
 exact h.met.sublist this
theorem slots_perm {l l' : List S44} (h : l.Perm l') : (slots l).Perm (slots l') := h.flatMap_right _
theorem byR_perm {l l' : List S44} (h : l.Perm l') (r : Int) : (byR l r).Perm (byR l' r) := h.filter _
theorem met_perm {l l' : List S44} (h : l.Perm l') (R : Nat) (kind : Int) : ∀ r, (metL l R kind r).Perm (metL l' R kind r)
 | 0 => List.Perm.refl _
 | r + 1 => (met_perm h R kind r).append ((byR_perm h _).map pr)
theorem RR.perm {n R : Nat} {kind : Int} {l l' : List S44} (h : RR n R kind l) (hp : l'.Perm l) : RR n R kind l' :=
 ⟨fun x hx => h.inX x (hp.subset hx), (slots_perm hp).nodup_iff.2 h.slt, (met_perm hp R kind R).nodup_iff.2 h.met, fun r hr hb => (byR_perm hp _).trans ((h.trns r hr hb).trans ((byR_perm hp _).symm.map _)), by rw [(met_perm hp R kind R).length_eq]; exact h.cnt⟩
theorem bef_of {l : List S44} (hs : SrtL l) (hn : (slots l).Nodup) : l.Pairwise bef := by
 have h1 : l.Pairwise fun x y => (x.f0, x.f1) ≠ (y.f0, y.f1) := by
  clear hs
  induction l with
  | nil => exact List.Pairwise.nil
  | cons x l ih =>
   have e : slots (x :: l) = (x.f0, x.f1) :: (x.f0, x.f2) :: slots l := rfl
   rw [e, List.nodup_cons, List.nodup_cons] at hn
   refine List.pairwise_cons.2 ⟨fun y hy e => hn.1 ?_, ih hn.2.2⟩
   rw [e]
   exact List.mem_cons_of_mem _ (List.mem_flatMap.2 ⟨y, hy, by simp⟩)
 refine (hs.and h1).imp (fun {x y} h => ?_)
 obtain ⟨h2, h3⟩ := h
 unfold bef
 rcases h2 with h2 | ⟨h2, h4⟩
 ·exact .inl h2
 ·refine .inr ⟨h2, ?_⟩
  rcases Int.lt_or_eq_of_le h4 with h5 | h5
  ·exact h5
  ·exact absurd (by rw [h2, h5]) h3
def prπ (π : Int → Int) (x : S44) : Int × Int := (min (π x.f1) (π x.f2), max (π x.f1) (π x.f2))
theorem cat_mem {m : List S44} {F : Nat → Int} {x : S44} : ∀ r, x ∈ catR m F r → x ∈ m
 | 0, h => by cases h
 | r + 1, h => by
  rw [catR] at h
  rcases List.mem_append.1 h with h | h
  ·exact cat_mem r h
  ·exact (List.mem_filter.1 h).1
theorem nodup_map_on {α β : Type} {f : α → β} : ∀ {l : List α}, (∀ x ∈ l, ∀ y ∈ l, f x = f y → x = y) → l.Nodup → (l.map f).Nodup
 | [], _, _ => List.nodup_nil
 | a :: l, h, hn => by
  rw [List.nodup_cons] at hn
  rw [List.map_cons, List.nodup_cons]
  refine ⟨fun hm => ?_, nodup_map_on (fun x hx y hy => h x (by simp [hx]) y (by simp [hy])) hn.2⟩
  obtain ⟨b, hb, e⟩ := List.mem_map.1 hm
  exact hn.1 (h a (by simp) b (by simp [hb]) e.symm ▸ hb)
theorem slots_in {n Q : Int} {m : List S44} (h : ∀ x ∈ m, okX n Q x) : ∀ p ∈ slots m, 0 ≤ p.2 ∧ p.2 < n := by
 intro p hp
 obtain ⟨x, hx, hp⟩ := List.mem_flatMap.1 hp
 obtain ⟨_, _, h3, h4, _⟩ := h x hx
 simp only [List.mem_cons, List.not_mem_nil, or_false] at hp
 rcases hp with rfl | rfl
 ·exact h3
 ·exact h4
theorem rr_len {n R : Nat} {kind : Int} (hR : 1 ≤ R) (hk : 1 ≤ kind ∧ kind ≤ 3) {m : List S44} (h : RR n R kind m) : m.length = if kind = 1 then n * (n - 1) / 2 else 2 * (n * (n - 1) / 2) := by
 have hmem := h.inX
 by_cases hk1 : kind = 1
 ·rw [if_pos hk1]
  have hQ : rndsQ R kind = R := by unfold rndsQ; rw [if_pos hk1]
  rw [hQ] at hmem
  have hc := cat_all m R (fun x hx => ⟨(hmem x hx).1, (hmem x hx).2.1⟩)
  have hA : catR m (mkA R kind) R = catR m (fun r => (r : Int)) R := cat_congr m R (fun q _ => by unfold mkA; rw [if_neg (by omega)])
  rw [← h.cnt, met_cat, List.length_map, hA, hc.length_eq]
 ·rw [if_neg hk1]
  have hQ : rndsQ R kind = 2 * R := by unfold rndsQ; rw [if_neg hk1]
  rw [hQ] at hmem
  have hk23 : kind = 2 ∨ kind = 3 := by omega
  have hc := cat_all m (2 * R) (fun x hx => ⟨(hmem x hx).1, (hmem x hx).2.1⟩)
  have hAl : (catR m (mkA R kind) R).length = n * (n - 1) / 2 := by rw [← h.cnt, met_cat, List.length_map]
  have hBl : ∀ r, r ≤ R → (catR m (mkB R kind) r).length = (catR m (mkA R kind) r).length := fun r => by
   induction r with
   | zero => intro _; rfl
   | succ r ih =>
    intro hr
    have hb : 0 ≤ mkB R kind r := by unfold mkB; rcases hk23 with rfl | rfl <;> simp <;> omega
    rw [catR, catR, List.length_append, List.length_append, ih (by omega), (h.trns r (by omega) hb).length_eq, List.length_map]
  have hBl := hBl R (Nat.le_refl _)
  rw [← hc.length_eq]
  rcases hk23 with hk2 | hk2
  ·rw [cat_len2, ← hAl]
   have ea : catR m (fun q => 2 * (q : Int)) R = catR m (mkA R kind) R := cat_congr m R (fun q _ => by unfold mkA; rw [if_pos hk2])
   have eb : catR m (fun q => 2 * (q : Int) + 1) R = catR m (mkB R kind) R := cat_congr m R (fun q _ => by unfold mkB; rw [if_pos hk2])
   rw [ea, eb, hBl]; omega
  ·rw [show 2 * R = R + R by omega, cat_len3, ← hAl]
   have ea : catR m (fun q => (q : Int)) R = catR m (mkA R kind) R := cat_congr m R (fun q _ => by unfold mkA; rw [if_neg (by omega)])
   have eb : catR m (fun q => (R : Int) + (q : Int)) R = catR m (mkB R kind) R := cat_congr m R (fun q _ => by unfold mkB; rw [if_neg (by omega), if_pos hk2])
   rw [ea, eb, hBl]; omega
def goodR (n : Nat) (kind : Int) (m : List S44) : Bool :=
 m.all (fun x => decide (okX n (rndsQ (rndsN n) kind : Nat) x)) && nodupB ((slots m).map cd) 0 && nodupB ((metL m (rndsN n) kind (rndsN n)).map cd) 0 &&
 (List.range (rndsN n)).all (fun r => decide (mkB (rndsN n) kind r < 0) || decide (byR m (mkB (rndsN n) kind r) = sortM ((byR m (mkA (rndsN n) kind r)).map (trn (mkB (rndsN n) kind r))))) &&
 decide ((metL m (rndsN n) kind (rndsN n)).length = n * (n - 1) / 2) && decide (m.length ≤ 1000)
theorem gr_2 : ∀ k, k < 4 → 1 ≤ k → goodR 2 (k : Nat) (mkM 2 (k : Nat)) = true := by decide +kernel
theorem gr_3 : ∀ k, k < 4 → 1 ≤ k → goodR 3 (k : Nat) (mkM 3 (k : Nat)) = true := by decide +kernel
theorem gr_4 : ∀ k, k < 4 → 1 ≤ k → goodR 4 (k : Nat) (mkM 4 (k : Nat)) = true := by decide +kernel
theorem gr_5 : ∀ k, k < 4 → 1 ≤ k → goodR 5 (k : Nat) (mkM 5 (k : Nat)) = true := by decide +kernel
theorem gr_6 : ∀ k, k < 4 → 1 ≤ k → goodR 6 (k : Nat) (mkM 6 (k : Nat)) = true := by decide +kernel
theorem gr_7 : ∀ k, k < 4 → 1 ≤ k → goodR 7 (k : Nat) (mkM 7 (k : Nat)) = true := by decide +kernel
theorem gr_8 : ∀ k, k < 4 → 1 ≤ k → goodR 8 (k : Nat) (mkM 8 (k : Nat)) = true := by decide +kernel
theorem gr_9 : ∀ k, k < 4 → 1 ≤ k → goodR 9 (k : Nat) (mkM 9 (k : Nat)) = true := by decide +kernel
theorem gr_10 : ∀ k, k < 4 → 1 ≤ k → goodR 10 (k : Nat) (mkM 10 (k : Nat)) = true := by decide +kernel
theorem gr_11 : ∀ k, k < 4 → 1 ≤ k → goodR 11 (k : Nat) (mkM 11 (k : Nat)) = true := by decide +kernel
theorem gr_12 : ∀ k, k < 4 → 1 ≤ k → goodR 12 (k : Nat) (mkM 12 (k : Nat)) = true := by decide +kernel
theorem gr_13 : ∀ k, k < 4 → 1 ≤ k → goodR 13 (k : Nat) (mkM 13 (k : Nat)) = true := by decide +kernel
theorem gr_14 : ∀ k, k < 4 → 1 ≤ k → goodR 14 (k : Nat) (mkM 14 (k : Nat)) = true := by decide +kernel
theorem gr_15 : ∀ k, k < 4 → 1 ≤ k → goodR 15 (k : Nat) (mkM 15 (k : Nat)) = true := by decide +kernel
theorem gr_16 : ∀ k, k < 4 → 1 ≤ k → goodR 16 (k : Nat) (mkM 16 (k : Nat)) = true := by decide +kernel
theorem gr_17 : ∀ k, k < 4 → 1 ≤ k → goodR 17 (k : Nat) (mkM 17 (k : Nat)) = true := by decide +kernel
theorem gr_18 : ∀ k, k < 4 → 1 ≤ k → goodR 18 (k : Nat) (mkM 18 (k : Nat)) = true := by decide +kernel
theorem gr_19 : ∀ k, k < 4 → 1 ≤ k → goodR 19 (k : Nat) (mkM 19 (k : Nat)) = true := by decide +kernel
theorem gr_20 : ∀ k, k < 4 → 1 ≤ k → goodR 20 (k : Nat) (mkM 20 (k : Nat)) = true := by decide +kernel
theorem gr_in (n : Nat) (h : n < 21) (h2 : 2 ≤ n) : ∀ k, k < 4 → 1 ≤ k → goodR n (k : Nat) (mkM n (k : Nat)) = true := by
 match n, h, h2 with
 | 2, _, _ => exact gr_2
 | 3, _, _ => exact gr_3
 | 4, _, _ => exact gr_4
 | 5, _, _ => exact gr_5
 | 6, _, _ => exact gr_6
 | 7, _, _ => exact gr_7
 | 8, _, _ => exact gr_8
 | 9, _, _ => exact gr_9
 | 10, _, _ => exact gr_10
 | 11, _, _ => exact gr_11
 | 12, _, _ => exact gr_12
 | 13, _, _ => exact gr_13
 | 14, _, _ => exact gr_14
 | 15, _, _ => exact gr_15
 | 16, _, _ => exact gr_16
 | 17, _, _ => exact gr_17
 | 18, _, _ => exact gr_18
 | 19, _, _ => exact gr_19
 | 20, _, _ => exact gr_20
 | k + 21, h, _ => omega
theorem rr_mk {n : Nat} {kind : Int} (hn : 2 ≤ n ∧ n ≤ 20) (hk : 1 ≤ kind ∧ kind ≤ 3) : RR n (rndsN n) kind (mkM n kind) ∧ (mkM n kind).length ≤ 1000 := by
 have h : goodR n kind (mkM n kind) = true := by
  obtain ⟨k, rfl⟩ : ∃ k : Nat, kind = k := ⟨kind.toNat, by omega⟩
  exact gr_in n (by omega) hn.1 k (by omega) (by omega)
 unfold goodR at h
 simp only [Bool.and_eq_true, List.all_eq_true, decide_eq_true_eq, Bool.or_eq_true, List.mem_range] at h
 obtain ⟨⟨⟨⟨⟨h1, h2⟩, h3⟩, h4⟩, h5⟩, h6⟩ := h
 refine ⟨⟨h1, nodup_cd h2, nodup_cd h3, fun r hr hb0 => ?_, h5⟩, h6⟩
 rcases h4 r hr with h | h
 ·omega
 ·rw [h]; exact sortM_perm _
end Go.Proofs.Ytecgklfcblpkdaa.RB

/- Round robins turned: other teams, other rounds, venues exchanged pair by pair. Plain. -/
namespace Go.Proofs.Ytecgklfcblpkdaa.RB
open Go.RowKit Go.Proofs.Ytecgklfcblpkdaa.P Go.Proofs.YtecgklfcblpkdaaW.PrintWords Go.Proofs.YtecgklfcblpkdaaW.PrintLast Go.Proofs.YtecgklfcblpkdaaW.PrintMore
open XW RegInv
set_option linter.unusedSimpArgs false
set_option linter.unusedVariables false

def legB (F : Nat → Int) (r : Nat) (x : S44) : Bool := (List.range r).any fun q => x.f0 == F q
theorem legB_iff {F : Nat → Int} {r : Nat} {x : S44} : legB F r x = true ↔ ∃ q, q < r ∧ x.f0 = F q := by
  simp only [legB, List.any_eq_true, List.mem_range, beq_iff_eq]
theorem cat_any {F : Nat → Int} (hF : ∀ p q, F p = F q → p = q) (m : List S44) : ∀ r, (catR m F r).Perm (m.filter (legB F r))
  | 0 => by
    rw [catR, List.filter_eq_nil_iff.2]
    intro x _; simp [legB]
  | r + 1 => by
    rw [catR]
    refine ((cat_any hF m r).append_right _).trans (List.Perm.symm ?_)
    refine filter_or (fun x => ?_) (fun x => ?_) m
    · rw [legB, List.range_succ, List.any_append]; simp [legB]
    · rw [Bool.eq_false_iff]
      intro h
      rw [Bool.and_eq_true, legB_iff, beq_iff_eq] at h
      obtain ⟨⟨q, hq, e⟩, e2⟩ := h
      have := hF q r (by rw [← e, e2])
      omega
theorem mkA_inj (R : Nat) (kind : Int) (p q : Nat) (h : mkA R kind p = mkA R kind q) : p = q := by
  unfold mkA at h
  split at h <;> omega
theorem mkB_inj {R : Nat} {kind : Int} {p q : Nat} (hp : 0 ≤ mkB R kind p) (h : mkB R kind p = mkB R kind q) : p = q := by
  unfold mkB at h hp
  split at h
  · omega
  · split at h
    · omega
    · rename_i h2 h3
      rw [if_neg h2, if_neg h3] at hp
      omega
theorem mkAB_ne {R : Nat} {kind : Int} {p q : Nat} (hp : p < R) (hq : 0 ≤ mkB R kind q) : mkA R kind p ≠ mkB R kind q := by
  unfold mkB at *
  unfold mkA
  by_cases h2 : kind = 2
  · rw [if_pos h2, if_pos h2]; omega
  · rw [if_neg h2, if_neg h2]
    rw [if_neg h2] at hq
    by_cases h3 : kind = 3
    · rw [if_pos h3]; omega
    · rw [if_neg h3] at hq; omega
theorem leg_cases {R : Nat} {kind : Int} (hk : 1 ≤ kind ∧ kind ≤ 3) {v : Int} (h0 : 0 ≤ v) (h1 : v < (rndsQ R kind : Nat)) : (∃ q, q < R ∧ v = mkA R kind q) ∨ ∃ q, q < R ∧ 0 ≤ mkB R kind q ∧ v = mkB R kind q := by
  unfold rndsQ at h1
  by_cases hk1 : kind = 1
  · rw [if_pos hk1] at h1
    exact .inl ⟨v.toNat, by omega, by unfold mkA; rw [if_neg (by omega)]; omega⟩
  · rw [if_neg hk1] at h1
    by_cases hk2 : kind = 2
    · by_cases hp : v % 2 = 0
      · exact .inl ⟨(v / 2).toNat, by omega, by unfold mkA; rw [if_pos hk2]; omega⟩
      · refine .inr ⟨(v / 2).toNat, by omega, ?_, ?_⟩ <;> unfold mkB <;> rw [if_pos hk2] <;> omega
    · by_cases hp : v < R
      · exact .inl ⟨v.toNat, by omega, by unfold mkA; rw [if_neg hk2]; omega⟩
      · refine .inr ⟨v.toNat - R, by omega, ?_, ?_⟩ <;> unfold mkB <;> rw [if_neg hk2, if_pos (by omega)] <;> omega
/-- how a meeting is turned -/
def trnZ (ρ π : Int → Int) (sw : Int → Int → Bool) (x : S44) : S44 := if sw (π x.f1) (π x.f2) = true then ⟨ρ x.f0, π x.f2, π x.f1⟩ else ⟨ρ x.f0, π x.f1, π x.f2⟩
theorem trnZ_f0 (ρ π : Int → Int) (sw : Int → Int → Bool) (x : S44) : (trnZ ρ π sw x).f0 = ρ x.f0 := by unfold trnZ; split <;> rfl
theorem trnZ_pr (ρ π : Int → Int) (sw : Int → Int → Bool) (x : S44) : pr (trnZ ρ π sw x) = prπ π x := by
  unfold trnZ pr prπ
  split
  · rw [Int.min_comm, Int.max_comm]
  · rfl
theorem trnZ_slots (ρ π : Int → Int) (sw : Int → Int → Bool) : ∀ l : List S44, (slots (l.map (trnZ ρ π sw))).Perm ((slots l).map fun p => (ρ p.1, π p.2))
  | [] => List.Perm.refl _
  | x :: l => by
    have ih := trnZ_slots ρ π sw l
    have e1 : slots ((x :: l).map (trnZ ρ π sw)) = ((trnZ ρ π sw x).f0, (trnZ ρ π sw x).f1) :: ((trnZ ρ π sw x).f0, (trnZ ρ π sw x).f2) :: slots (l.map (trnZ ρ π sw)) := rfl
    have e2 : (slots (x :: l)).map (fun p : Int × Int => (ρ p.1, π p.2)) = (ρ x.f0, π x.f1) :: (ρ x.f0, π x.f2) :: (slots l).map (fun p : Int × Int => (ρ p.1, π p.2)) := rfl
    rw [e1, e2]
    unfold trnZ
    split
    · exact ((ih.cons _).cons _).trans (List.Perm.swap _ _ _)
    · exact (ih.cons _).cons _
theorem rr_turn {n R : Nat} {kind : Int} {ρ π : Int → Int} {sw : Int → Int → Bool} {τ : Nat → Nat} {l : List S44} (hk : 1 ≤ kind ∧ kind ≤ 3) (h : RR n R kind l)
    (hin : ∀ t : Int, 0 ≤ t → t < n → 0 ≤ π t ∧ π t < n) (hinj : ∀ s t : Int, 0 ≤ s → s < n → 0 ≤ t → t < n → π s = π t → s = t) (hsw : ∀ s t, sw s t = sw t s)
    (hτ : ∀ r, r < R → τ r < R) (hτi : ∀ r s, r < R → s < R → τ r = τ s → r = s) (hτs : ∀ r, r < R → ∃ q, q < R ∧ τ q = r)
    (hA : ∀ r, r < R → ρ (mkA R kind r) = mkA R kind (τ r)) (hB : ∀ r, r < R → 0 ≤ mkB R kind r → ρ (mkB R kind r) = mkB R kind (τ r) ∧ 0 ≤ mkB R kind (τ r)) : RR n R kind (l.map (trnZ ρ π sw)) := by
  have hc : ∀ v : Int, 0 ≤ v → v < (rndsQ R kind : Nat) → (∃ q, q < R ∧ v = mkA R kind q) ∨ ∃ q, q < R ∧ 0 ≤ mkB R kind q ∧ v = mkB R kind q := fun v h0 h1 => leg_cases hk h0 h1
  have hAn : ∀ q, q < R → 0 ≤ mkA R kind q ∧ mkA R kind q < (rndsQ R kind : Nat) := fun q hq => by
    obtain ⟨a, e, ha⟩ := mkA_nat R kind q hk hq
    omega
  have hBn : ∀ q, q < R → 0 ≤ mkB R kind q → mkB R kind q < (rndsQ R kind : Nat) := fun q hq hb => by
    obtain ⟨a, e, ha⟩ := mkB_nat R kind q hk hq hb
    omega
  have hρr : ∀ v : Int, 0 ≤ v → v < (rndsQ R kind : Nat) → 0 ≤ ρ v ∧ ρ v < (rndsQ R kind : Nat) := fun v h0 h1 => by
    rcases hc v h0 h1 with ⟨q, hq, rfl⟩ | ⟨q, hq, hb, rfl⟩
    · rw [hA q hq]; exact hAn _ (hτ q hq)
    · obtain ⟨e, hb2⟩ := hB q hq hb
      rw [e]; exact ⟨hb2, hBn _ (hτ q hq) hb2⟩
  have hρA : ∀ v : Int, 0 ≤ v → v < (rndsQ R kind : Nat) → ∀ q, q < R → (ρ v = mkA R kind (τ q) ↔ v = mkA R kind q) := fun v h0 h1 q hq => by
    constructor
    · intro e
      rcases hc v h0 h1 with ⟨p, hp, rfl⟩ | ⟨p, hp, hb, rfl⟩
      · rw [hA p hp] at e
        rw [hτi p q hp hq (mkA_inj R kind _ _ e)]
      · obtain ⟨e2, hb2⟩ := hB p hp hb
        rw [e2] at e
        exact absurd e.symm (mkAB_ne (hτ q hq) hb2)
    · rintro rfl; exact hA q hq
  have hρB : ∀ v : Int, 0 ≤ v → v < (rndsQ R kind : Nat) → ∀ q, q < R → 0 ≤ mkB R kind q → (ρ v = mkB R kind (τ q) ↔ v = mkB R kind q) := fun v h0 h1 q hq hbq => by
    obtain ⟨e3, hb3⟩ := hB q hq hbq
    constructor
    · intro e
      rcases hc v h0 h1 with ⟨p, hp, rfl⟩ | ⟨p, hp, hb, rfl⟩
      · rw [hA p hp] at e
        exact absurd e (mkAB_ne (hτ p hp) hb3)
      · obtain ⟨e2, hb2⟩ := hB p hp hb
        rw [e2] at e
        rw [hτi p q hp hq (mkB_inj hb2 e)]
    · rintro rfl; exact e3
  have hρi : ∀ u v : Int, 0 ≤ u → u < (rndsQ R kind : Nat) → 0 ≤ v → v < (rndsQ R kind : Nat) → ρ u = ρ v → u = v := fun u v a1 a2 b1 b2 e => by
    rcases hc v b1 b2 with ⟨q, hq, rfl⟩ | ⟨q, hq, hb, rfl⟩
    · rw [hA q hq] at e; exact (hρA u a1 a2 q hq).1 e
    · rw [(hB q hq hb).1] at e; exact (hρB u a1 a2 q hq hb).1 e
  have hleg : ∀ x ∈ l, legB (mkA R kind) R (trnZ ρ π sw x) = legB (mkA R kind) R x := fun x hx => by
    obtain ⟨x1, x2, _⟩ := h.inX x hx
    rw [Bool.eq_iff_iff, legB_iff, legB_iff, trnZ_f0]
    constructor
    · rintro ⟨q, hq, e⟩
      obtain ⟨p, hp, rfl⟩ := hτs q hq
      exact ⟨p, hp, (hρA _ x1 x2 p hp).1 e⟩
    · rintro ⟨q, hq, e⟩
      exact ⟨τ q, hτ q hq, (hρA _ x1 x2 q hq).2 e⟩
  have hm : (metL (l.map (trnZ ρ π sw)) R kind R).Perm ((l.filter (legB (mkA R kind) R)).map (prπ π)) := by
    rw [met_cat]
    refine ((cat_any (mkA_inj R kind) _ R).map pr).trans ?_
    rw [List.filter_map, List.map_map]
    have e1 : l.filter (legB (mkA R kind) R ∘ trnZ ρ π sw) = l.filter (legB (mkA R kind) R) := List.filter_congr fun x hx => hleg x hx
    have e2 : (l.filter (legB (mkA R kind) R)).map (pr ∘ trnZ ρ π sw) = (l.filter (legB (mkA R kind) R)).map (prπ π) := List.map_congr_left fun x _ => trnZ_pr ρ π sw x
    rw [e1, e2]
  have hm0 : (metL l R kind R).Perm ((l.filter (legB (mkA R kind) R)).map pr) := by
    rw [met_cat]; exact (cat_any (mkA_inj R kind) _ R).map pr
  refine ⟨?_, ?_, ?_, ?_, ?_⟩
  · intro y hy
    obtain ⟨x, hx, rfl⟩ := List.mem_map.1 hy
    obtain ⟨h1, h2, h3, h4, h5⟩ := h.inX x hx
    have i1 := hin _ h3.1 h3.2
    have i2 := hin _ h4.1 h4.2
    have i3 : π x.f1 ≠ π x.f2 := fun e => h5 (hinj _ _ h3.1 h3.2 h4.1 h4.2 e)
    have i4 := hρr _ h1 h2
    unfold trnZ
    split
    · exact ⟨i4.1, i4.2, i2, i1, fun e => i3 e.symm⟩
    · exact ⟨i4.1, i4.2, i1, i2, i3⟩
  · refine (trnZ_slots ρ π sw l).nodup_iff.2 (nodup_map_on (fun p hp q hq e => ?_) h.slt)
    obtain ⟨a1, a2⟩ := slots_in h.inX p hp
    obtain ⟨b1, b2⟩ := slots_in h.inX q hq
    have key : ∀ p ∈ slots l, 0 ≤ p.1 ∧ p.1 < (rndsQ R kind : Nat) := fun p hp => by
      obtain ⟨x, hx, hp⟩ := List.mem_flatMap.1 hp
      obtain ⟨h1, h2, _⟩ := h.inX x hx
      simp only [List.mem_cons, List.not_mem_nil, or_false] at hp
      rcases hp with rfl | rfl <;> exact ⟨h1, h2⟩
    exact Prod.ext (hρi _ _ (key p hp).1 (key p hp).2 (key q hq).1 (key q hq).2 (congrArg Prod.fst e)) (hinj _ _ a1 a2 b1 b2 (congrArg Prod.snd e))
  · refine hm.nodup_iff.2 ?_
    have hn := hm0.nodup_iff.1 h.met
    refine List.pairwise_map.2 ((List.pairwise_map.1 hn).imp_of_mem ?_)
    intro x y hx hy hne e
    obtain ⟨_, _, x3, x4, _⟩ := h.inX x (List.mem_filter.1 hx).1
    obtain ⟨_, _, y3, y4, _⟩ := h.inX y (List.mem_filter.1 hy).1
    refine hne ?_
    unfold prπ at e
    rw [Prod.mk.injEq] at e
    have e2 : (π x.f1 = π y.f1 ∧ π x.f2 = π y.f2) ∨ (π x.f1 = π y.f2 ∧ π x.f2 = π y.f1) := by omega
    rw [pr_same]
    rcases e2 with ⟨e2, e3⟩ | ⟨e2, e3⟩
    · exact .inl ⟨hinj _ _ x3.1 x3.2 y3.1 y3.2 e2, hinj _ _ x4.1 x4.2 y4.1 y4.2 e3⟩
    · exact .inr ⟨hinj _ _ x3.1 x3.2 y4.1 y4.2 e2, hinj _ _ x4.1 x4.2 y3.1 y3.2 e3⟩
  · intro r hr hb
    obtain ⟨q, hq, rfl⟩ := hτs r hr
    have hbq : 0 ≤ mkB R kind q := by
      have : ∀ a b : Nat, 0 ≤ mkB R kind a → 0 ≤ mkB R kind b := fun a b => by unfold mkB; split <;> (try split) <;> omega
      exact this _ _ hb
    have eA : byR (l.map (trnZ ρ π sw)) (mkA R kind (τ q)) = (byR l (mkA R kind q)).map (trnZ ρ π sw) := by
      unfold byR
      rw [List.filter_map]
      congr 1
      refine List.filter_congr fun x hx => ?_
      obtain ⟨x1, x2, _⟩ := h.inX x hx
      show ((trnZ ρ π sw x).f0 == _) = (x.f0 == _)
      rw [trnZ_f0, Bool.eq_iff_iff, beq_iff_eq, beq_iff_eq]
      exact hρA _ x1 x2 q hq
    have eB : byR (l.map (trnZ ρ π sw)) (mkB R kind (τ q)) = (byR l (mkB R kind q)).map (trnZ ρ π sw) := by
      unfold byR
      rw [List.filter_map]
      congr 1
      refine List.filter_congr fun x hx => ?_
      obtain ⟨x1, x2, _⟩ := h.inX x hx
      show ((trnZ ρ π sw x).f0 == _) = (x.f0 == _)
      rw [trnZ_f0, Bool.eq_iff_iff, beq_iff_eq, beq_iff_eq]
      exact hρB _ x1 x2 q hq hbq
    rw [eA, eB]
    refine ((h.trns q hq hbq).map _).trans ?_
    rw [List.map_map, List.map_map]
    suffices hs : (byR l (mkA R kind q)).map (trnZ ρ π sw ∘ trn (mkB R kind q)) = (byR l (mkA R kind q)).map (trn (mkB R kind (τ q)) ∘ trnZ ρ π sw) by rw [hs]
    refine List.map_congr_left fun x hx => ?_
    show trnZ ρ π sw (trn (mkB R kind q) x) = trn (mkB R kind (τ q)) (trnZ ρ π sw x)
    have e0 : ρ (mkB R kind q) = mkB R kind (τ q) := (hB q hq hbq).1
    unfold trnZ trn
    simp only
    rw [hsw (π x.f2) (π x.f1), e0]
    split <;> rfl
  · have := h.cnt
    rw [hm0.length_eq, List.length_map] at this
    rw [hm.length_eq, List.length_map]
    exact this
end Go.Proofs.Ytecgklfcblpkdaa.RB
