/- FieldSums: the walk and the plain law. -/
import Derived.Test.YtbbffpgnjdejiaaVals
import Derived.Test.YtbbffpgnjdejiaaXOwn
namespace Go.Proofs.Ytbbffpgnjdejiaa.P
open Go.RowKit Go.Proofs.YtbbffpgnjdejiaaW.PrintWords Go.Proofs.YtbbffpgnjdejiaaW.PrintLast Go.Proofs.YtbbffpgnjdejiaaW.PrintMore
open FieldMath XW
set_option linter.unusedSimpArgs false
set_option linter.unusedVariables false

/-! ### plain -/
def elem (a b : List Int) (j : Nat) : Int := if j < a.length then (if j < b.length then (a.getD j 0 + b.getD j 0) % 1073741789 else a.getD j 0) else (if j < b.length then (0 + b.getD j 0) % 1073741789 else 0)
def sumL (a b : List Int) (i : Nat) : List Int := (List.range i).map (elem a b)
def timL (m : Int) (a : List Int) (i : Nat) : List Int := (a.take i).map fun x => m * x % 1073741789
theorem sumL_snoc (a b : List Int) (i : Nat) : sumL a b (i + 1) = sumL a b i ++ [elem a b i] := by simp [sumL, List.range_succ]
theorem sumL_len (a b : List Int) (i : Nat) : (sumL a b i).length = i := by simp [sumL]
theorem take_snoc_int (l : List Int) (k : Nat) (h : k < l.length) : l.take (k + 1) = l.take k ++ [l.getD k 0] := by
  rw [List.take_succ_eq_append_getElem h, List.getD_eq_getElem?_getD, List.getElem?_eq_getElem h]; rfl
theorem timL_snoc (m : Int) (a : List Int) (i : Nat) (h : i < a.length) : timL m a (i + 1) = timL m a i ++ [m * a.getD i 0 % 1073741789] := by
  simp [timL, take_snoc_int a i h]
theorem take_stop (l : List Int) (k : Nat) (h : l.length ≤ k) : l.take (k + 1) = l.take k := by rw [List.take_of_length_le (by omega), List.take_of_length_le h]
theorem timL_stop (m : Int) (a : List Int) (i : Nat) (h : a.length ≤ i) : timL m a (i + 1) = timL m a i := by simp only [timL, take_stop a i h]
theorem timL_len (m : Int) (a : List Int) (i : Nat) : (timL m a i).length = min i a.length := by simp [timL]
theorem ev_snoc (t x : Int) : ∀ l : List Int, ev (l ++ [x]) t = ev l t + t ^ l.length * x
  | [] => by simp [ev]
  | c :: l => by
    simp only [List.cons_append, ev, List.length_cons, Int.pow_succ]
    rw [ev_snoc t x l]
    generalize t ^ l.length = p
    grind
theorem ev_sumL (a b : List Int) (t : Int) : ∀ i, Cg (ev (sumL a b i) t) (ev (a.take i) t + ev (b.take i) t)
  | 0 => by simp [sumL, ev, Cg.refl]
  | i + 1 => by
    have ih := ev_sumL a b t i
    rw [sumL_snoc, ev_snoc, sumL_len]
    have key : ∀ x y : Int, Cg (elem a b i) (x + y) → (ev (a.take (i + 1)) t = ev (a.take i) t + t ^ i * x) → (ev (b.take (i + 1)) t = ev (b.take i) t + t ^ i * y) → Cg (ev (sumL a b i) t + t ^ i * elem a b i) (ev (a.take (i + 1)) t + ev (b.take (i + 1)) t) := by
      intro x y h1 h2 h3
      rw [h2, h3]
      refine (ih.add ((Cg.refl (t ^ i)).mul h1)).trans (Cg.of_eq ?_)
      generalize t ^ i = p
      grind
    have hin : ∀ l : List Int, i < l.length → ev (l.take (i + 1)) t = ev (l.take i) t + t ^ i * l.getD i 0 := fun l h => by
      rw [take_snoc_int l i h, ev_snoc, List.length_take, Nat.min_eq_left (Nat.le_of_lt h)]
    have hout : ∀ l : List Int, ¬ i < l.length → ev (l.take (i + 1)) t = ev (l.take i) t + t ^ i * 0 := fun l h => by
      rw [take_stop l i (by omega)]; grind
    by_cases ha : i < a.length
    · by_cases hb : i < b.length
      · exact key _ _ (by rw [elem, if_pos ha, if_pos hb]; exact Cg.mod _) (hin a ha) (hin b hb)
      · exact key _ _ (by rw [elem, if_pos ha, if_neg hb, Int.add_zero]; exact Cg.refl _) (hin a ha) (hout b hb)
    · by_cases hb : i < b.length
      · exact key _ _ (by rw [elem, if_neg ha, if_pos hb]; exact Cg.mod _) (hout a ha) (hin b hb)
      · exact key _ _ (by rw [elem, if_neg ha, if_neg hb]; exact Cg.refl _) (hout a ha) (hout b hb)
theorem ev_timL (m : Int) (a : List Int) (t : Int) : ∀ i, Cg (ev (timL m a i) t) (m * ev (a.take i) t)
  | 0 => by simp [timL, ev, Cg.refl]
  | i + 1 => by
    have ih := ev_timL m a t i
    by_cases ha : i < a.length
    · rw [timL_snoc m a i ha, ev_snoc, timL_len, take_snoc_int a i ha, ev_snoc, List.length_take, Nat.min_eq_left (Nat.le_of_lt ha)]
      refine (ih.add ((Cg.refl _).mul (Cg.mod _))).trans (Cg.of_eq ?_)
      generalize t ^ i = p
      grind
    · rw [timL_stop m a i (by omega), take_stop a i (by omega)]; exact ih

/-! ### rows of ints -/
def ints (l : List Int) : List Value := l.map (Value.int .i64)
theorem ints_snoc (l : List Int) (x : Int) : ints (l ++ [x]) = ints l ++ [.int .i64 x] := by simp [ints]
theorem ints_kd {W : World} {base : Nat} {v : Value} {l : List Int} (h : W.ownsRow base 3 1 v l.length (ints l)) : ∃ A c, v = .slice A l.length c ∧ l.length ≤ c ∧ Kd.C (Kd.int .i64) W A l.length l := by
  obtain ⟨A, c, hv, hc, _, hm, hr⟩ := ownsRow_view h
  refine ⟨A, c, hv, hc, rfl, Nat.le_trans hm (by decide), fun h0 => ?_⟩
  obtain ⟨g, rfl, hg⟩ := hr h0
  refine ⟨_, rfl, fun j p hj => ⟨[.int .i64 p], rfl, rfl, fun i u hu => ?_⟩⟩
  have h1 : (Kd.int IntKind.i64).sz = 1 := rfl
  cases i with
  | succ i => simp at hu
  | zero =>
    obtain rfl : Value.int .i64 p = u := by simpa using hu
    rw [h1, Nat.mul_one, Nat.add_zero, XW.add_plain, Nat.zero_add]
    exact hg j _ (by simp [ints, hj])
theorem int_load {W : World} {A : Option Addr} {l : List Int} (h : Kd.C (Kd.int .i64) W A l.length l) (k : Nat) (hk : k < l.length) : ∃ ad, A = some ad ∧ Loads Try.prog 3 W (ad.add k) (.int .i64 (l.getD k 0)) := by
  obtain ⟨ad, e, hr⟩ := h.2.2 (by omega)
  obtain ⟨c, _, hK, hc⟩ := hr k (l.getD k 0) (by rw [List.getD_eq_getElem?_getD, List.getElem?_eq_getElem hk]; rfl)
  have hK : c = [.int .i64 (l.getD k 0)] := hK
  subst hK
  have := hc 0 _ rfl
  rw [show (Kd.int IntKind.i64).sz = 1 from rfl, Nat.mul_one, Nat.add_zero] at this
  exact ⟨ad, e, loads_one Try.underlying3 rfl this⟩
theorem build_one (a : Int) (W : World) : (Instr.buildSlice 29 1 #[(0, .int .i64 a)]).run Try.prog W = .ok (.slice (some ⟨W.heap.size, 0, none⟩) 1 1) (W.alloc (.cells #[.int .i64 a] 3)) := by
  obtain ⟨i, hi, hz, hs, _⟩ := info_parts info3
  have hu := Try.underlying29
  have hr : Array.range 1 = #[0] := rfl
  simp [Instr.buildSlice, underlying, program, hu, Go.sizeOf, typeInfo, hi, hs, hz, zeroValue, Value.cells, Instr.fill, hr, newRow, newObj, Sem.run_bind, Sem.run, Result.andThen]

theorem E9 : Enters Try.prog 9 := enters Try.func9 (by kernel_rfl) rfl
theorem E14 : Enters Try.prog 14 := enters Try.func14 (by kernel_rfl) rfl
theorem E21 : Enters Try.prog 21 := enters Try.func21 (by kernel_rfl) rfl
theorem sane_rets (w : World) : Rets Try.prog 9 #[] w fun u w' => u = .bool true ∧ Below w.heap.size w w' := rets_of (fastilaw09_sane.calls 8 true w (sane_ge (by omega)))
theorem add_rets (a b : Int) (w : World) : Rets Try.prog 14 #[.int .i64 a, .int .i64 b] w fun u w' => u = .int .i64 ((a + b) % 1073741789) ∧ Below w.heap.size w w' := rets_of (field_Add.calls 3 a b _ w (add_ge (by omega) a b))
theorem val_rets {W : World} {A : Option Addr} {c : Nat} {l : List Int} (hl : l.length ≤ 1000000) (h : Kd.C (Kd.int .i64) W A l.length l) (hc : l.length ≤ c) (t : Int) : Rets Try.prog 21 #[.slice A l.length c, .int .i64 t] W fun u w' => u = .int .i64 (ev l t % 1073741789) ∧ Below W.heap.size W w' :=
  rets_of (field_Value.calls (l.length + 4) A c l t _ W h hc (val_eq l hl t _ (Nat.le_refl _)))
theorem val_rets_own {W : World} {base : Nat} {v : Value} {l : List Int} (hl : l.length ≤ 1000000) (h : W.ownsRow base 3 1 v l.length (ints l)) (t : Int) : Rets Try.prog 21 #[v, .int .i64 t] W fun u w' => u = .int .i64 (ev l t % 1073741789) ∧ Below W.heap.size W w' := by
  obtain ⟨A, c, rfl, hc, hk⟩ := ints_kd h
  exact val_rets hl hk hc t

theorem fastilaw09_FieldSums.calls (k : Nat) (A0 : Option Addr) (c0 : Nat) (l0 : List Int) (A1 : Option Addr) (c1 : Nat) (l1 : List Int) (a2 : Int) (a3 : Int) (r : Bool) (w : World) (hr0 : Kd.C (Kd.int .i64) w A0 l0.length l0) (hc0 : l0.length ≤ c0) (hr1 : Kd.C (Kd.int .i64) w A1 l1.length l1) (hc1 : l1.length ≤ c1) (hr : r = true) :
    Calls Try.prog 8 #[.slice A0 l0.length c0, .slice A1 l1.length c1, .int .i64 a2, .int .i64 a3] w fun e w' => e = .returned (.bool r) ∧ Below w.heap.size w w' := by
  subst hr
  have hF := wide_wide
  obtain ⟨i3, hi3, hz3, hs3, hb3⟩ := info_parts info3
  have htf : (true == false) = false := rfl
  refine calls_of (n := 85) Try.func8 rfl Try.ntmps8 (by simp) ?_
  (repeat (first | (with_reducible refine X_seq_k ?_; intro K hK) | with_reducible refine X_block ?_ | with_reducible refine X_scope ?_ | with_reducible refine nogo_n ?_ | with_reducible refine nogo_e ?_ | with_reducible refine nogo_r ?_ | with_reducible refine X_region ?_ | with_reducible refine X_skip ?_ | with_reducible refine X_label ?_ | with_reducible refine X_ret ?_ | with_reducible refine X_exit ?_ | with_reducible refine then_n ?_ | with_reducible refine then_e ?_ | with_reducible refine then_r ?_ | with_reducible refine inb_n ?_ | with_reducible refine inb_r ?_ | with_reducible refine inb_e rfl ?_ | with_reducible refine inb_x rfl ?_ | with_reducible refine XL_nil ?_ | with_reducible refine go_k (by assumption) ?_))
  (refine XL_plain hF _ _ ?_; simp only [plainRun, plain, bin, intBin, un, xv, updO, upd_apply, Option.bind_some, reduceIte, Nat.reduceLT, Nat.reduceEqDiff, reduceCtorEq, List.getElem?_toArray, List.getElem?_cons_zero, List.getElem?_cons_succ, Int.reduceEq, BEq.rfl, Bool.not_true, Bool.not_false])
  (repeat (first | (with_reducible refine X_seq_k ?_; intro K hK) | with_reducible refine X_block ?_ | with_reducible refine X_scope ?_ | with_reducible refine nogo_n ?_ | with_reducible refine nogo_e ?_ | with_reducible refine nogo_r ?_ | with_reducible refine X_region ?_ | with_reducible refine X_skip ?_ | with_reducible refine X_label ?_ | with_reducible refine X_ret ?_ | with_reducible refine X_exit ?_ | with_reducible refine then_n ?_ | with_reducible refine then_e ?_ | with_reducible refine then_r ?_ | with_reducible refine inb_n ?_ | with_reducible refine inb_r ?_ | with_reducible refine inb_e rfl ?_ | with_reducible refine inb_x rfl ?_ | with_reducible refine XL_nil ?_ | with_reducible refine go_k (by assumption) ?_))
  refine XL_call hF rfl E9 (sane_rets _) (by simp) ?_
  rintro v w1 ⟨rfl, hb1⟩
  have hc1' : Chg nil_ w w1 := Chg.of_below hb1
  (refine XL_plain hF _ _ ?_; simp only [plainRun, plain, bin, intBin, un, xv, updO, upd_apply, Option.bind_some, reduceIte, Nat.reduceLT, Nat.reduceEqDiff, reduceCtorEq, List.getElem?_toArray, List.getElem?_cons_zero, List.getElem?_cons_succ, Int.reduceEq, BEq.rfl, Bool.not_true, Bool.not_false])
  (repeat (first | (with_reducible refine X_seq_k ?_; intro K hK) | with_reducible refine X_block ?_ | with_reducible refine X_scope ?_ | with_reducible refine nogo_n ?_ | with_reducible refine nogo_e ?_ | with_reducible refine nogo_r ?_ | with_reducible refine X_region ?_ | with_reducible refine X_skip ?_ | with_reducible refine X_label ?_ | with_reducible refine X_ret ?_ | with_reducible refine X_exit ?_ | with_reducible refine then_n ?_ | with_reducible refine then_e ?_ | with_reducible refine then_r ?_ | with_reducible refine inb_n ?_ | with_reducible refine inb_r ?_ | with_reducible refine inb_e rfl ?_ | with_reducible refine inb_x rfl ?_ | with_reducible refine XL_nil ?_ | with_reducible refine go_k (by assumption) ?_))
  refine X_cond_false (by simp [xv, upd]) ?_
  (repeat (first | (with_reducible refine X_seq_k ?_; intro K hK) | with_reducible refine X_block ?_ | with_reducible refine X_scope ?_ | with_reducible refine nogo_n ?_ | with_reducible refine nogo_e ?_ | with_reducible refine nogo_r ?_ | with_reducible refine X_region ?_ | with_reducible refine X_skip ?_ | with_reducible refine X_label ?_ | with_reducible refine X_ret ?_ | with_reducible refine X_exit ?_ | with_reducible refine then_n ?_ | with_reducible refine then_e ?_ | with_reducible refine then_r ?_ | with_reducible refine inb_n ?_ | with_reducible refine inb_r ?_ | with_reducible refine inb_e rfl ?_ | with_reducible refine inb_x rfl ?_ | with_reducible refine XL_nil ?_ | with_reducible refine go_k (by assumption) ?_))
  (refine XL_plain hF _ _ ?_; simp only [plainRun, plain, bin, intBin, un, xv, updO, upd_apply, Option.bind_some, reduceIte, Nat.reduceLT, Nat.reduceEqDiff, reduceCtorEq, List.getElem?_toArray, List.getElem?_cons_zero, List.getElem?_cons_succ, Int.reduceEq, BEq.rfl, Bool.not_true, Bool.not_false])
  refine XL_len hF Try.underlying29 (by simp [xv, upd, updO]; exact ⟨rfl, rfl, rfl⟩) ?_
  by_cases hla : (l0.length : Int) > 100
  · have hb : decide ((l0.length : Int) > 100) = true := decide_eq_true hla
    (refine XL_plain hF _ _ ?_; simp only [plainRun, plain, bin, intBin, un, xv, updO, upd_apply, Option.bind_some, reduceIte, Nat.reduceLT, Nat.reduceEqDiff, reduceCtorEq, List.getElem?_toArray, List.getElem?_cons_zero, List.getElem?_cons_succ, Int.reduceEq, BEq.rfl, Bool.not_true, Bool.not_false, hb, htf])
    (repeat (first | (with_reducible refine X_seq_k ?_; intro K hK) | with_reducible refine X_block ?_ | with_reducible refine X_scope ?_ | with_reducible refine nogo_n ?_ | with_reducible refine nogo_e ?_ | with_reducible refine nogo_r ?_ | with_reducible refine X_region ?_ | with_reducible refine X_skip ?_ | with_reducible refine X_label ?_ | with_reducible refine X_ret ?_ | with_reducible refine X_exit ?_ | with_reducible refine then_n ?_ | with_reducible refine then_e ?_ | with_reducible refine then_r ?_ | with_reducible refine inb_n ?_ | with_reducible refine inb_r ?_ | with_reducible refine inb_e rfl ?_ | with_reducible refine inb_x rfl ?_ | with_reducible refine XL_nil ?_ | with_reducible refine go_k (by assumption) ?_))
    refine X_cond_true (by simp [xv, upd]) ?_
    (repeat (first | (with_reducible refine X_seq_k ?_; intro K hK) | with_reducible refine X_block ?_ | with_reducible refine X_scope ?_ | with_reducible refine nogo_n ?_ | with_reducible refine nogo_e ?_ | with_reducible refine nogo_r ?_ | with_reducible refine X_region ?_ | with_reducible refine X_skip ?_ | with_reducible refine X_label ?_ | with_reducible refine X_ret ?_ | with_reducible refine X_exit ?_ | with_reducible refine then_n ?_ | with_reducible refine then_e ?_ | with_reducible refine then_r ?_ | with_reducible refine inb_n ?_ | with_reducible refine inb_r ?_ | with_reducible refine inb_e rfl ?_ | with_reducible refine inb_x rfl ?_ | with_reducible refine XL_nil ?_ | with_reducible refine go_k (by assumption) ?_))
    (refine XL_plain hF _ _ ?_; simp only [plainRun, plain, bin, intBin, un, xv, updO, upd_apply, Option.bind_some, reduceIte, Nat.reduceLT, Nat.reduceEqDiff, reduceCtorEq, List.getElem?_toArray, List.getElem?_cons_zero, List.getElem?_cons_succ, Int.reduceEq, BEq.rfl, Bool.not_true, Bool.not_false])
    (repeat (first | (with_reducible refine X_seq_k ?_; intro K hK) | with_reducible refine X_block ?_ | with_reducible refine X_scope ?_ | with_reducible refine nogo_n ?_ | with_reducible refine nogo_e ?_ | with_reducible refine nogo_r ?_ | with_reducible refine X_region ?_ | with_reducible refine X_skip ?_ | with_reducible refine X_label ?_ | with_reducible refine X_ret ?_ | with_reducible refine X_exit ?_ | with_reducible refine then_n ?_ | with_reducible refine then_e ?_ | with_reducible refine then_r ?_ | with_reducible refine inb_n ?_ | with_reducible refine inb_r ?_ | with_reducible refine inb_e rfl ?_ | with_reducible refine inb_x rfl ?_ | with_reducible refine XL_nil ?_ | with_reducible refine go_k (by assumption) ?_))
    exact body_ret (results1 rfl (by decide)) ⟨by simp [upd], hc1'.below0⟩
  have hb : decide ((l0.length : Int) > 100) = false := decide_eq_false hla
  (refine XL_plain hF _ _ ?_; simp only [plainRun, plain, bin, intBin, un, xv, updO, upd_apply, Option.bind_some, reduceIte, Nat.reduceLT, Nat.reduceEqDiff, reduceCtorEq, List.getElem?_toArray, List.getElem?_cons_zero, List.getElem?_cons_succ, Int.reduceEq, BEq.rfl, Bool.not_true, Bool.not_false, hb])
  refine XL_unguard (b := false) (t := 18) rfl rfl rfl (by decide) (by simp [upd]) rfl ?_
  refine XL_len hF Try.underlying29 (by simp [xv, upd, updO]; exact ⟨rfl, rfl, rfl⟩) ?_
  by_cases hlb : (l1.length : Int) > 100
  · have hb : decide ((l1.length : Int) > 100) = true := decide_eq_true hlb
    (refine XL_plain hF _ _ ?_; simp only [plainRun, plain, bin, intBin, un, xv, updO, upd_apply, Option.bind_some, reduceIte, Nat.reduceLT, Nat.reduceEqDiff, reduceCtorEq, List.getElem?_toArray, List.getElem?_cons_zero, List.getElem?_cons_succ, Int.reduceEq, BEq.rfl, Bool.not_true, Bool.not_false, hb, htf])
    (repeat (first | (with_reducible refine X_seq_k ?_; intro K hK) | with_reducible refine X_block ?_ | with_reducible refine X_scope ?_ | with_reducible refine nogo_n ?_ | with_reducible refine nogo_e ?_ | with_reducible refine nogo_r ?_ | with_reducible refine X_region ?_ | with_reducible refine X_skip ?_ | with_reducible refine X_label ?_ | with_reducible refine X_ret ?_ | with_reducible refine X_exit ?_ | with_reducible refine then_n ?_ | with_reducible refine then_e ?_ | with_reducible refine then_r ?_ | with_reducible refine inb_n ?_ | with_reducible refine inb_r ?_ | with_reducible refine inb_e rfl ?_ | with_reducible refine inb_x rfl ?_ | with_reducible refine XL_nil ?_ | with_reducible refine go_k (by assumption) ?_))
    refine X_cond_true (by simp [xv, upd]) ?_
    (repeat (first | (with_reducible refine X_seq_k ?_; intro K hK) | with_reducible refine X_block ?_ | with_reducible refine X_scope ?_ | with_reducible refine nogo_n ?_ | with_reducible refine nogo_e ?_ | with_reducible refine nogo_r ?_ | with_reducible refine X_region ?_ | with_reducible refine X_skip ?_ | with_reducible refine X_label ?_ | with_reducible refine X_ret ?_ | with_reducible refine X_exit ?_ | with_reducible refine then_n ?_ | with_reducible refine then_e ?_ | with_reducible refine then_r ?_ | with_reducible refine inb_n ?_ | with_reducible refine inb_r ?_ | with_reducible refine inb_e rfl ?_ | with_reducible refine inb_x rfl ?_ | with_reducible refine XL_nil ?_ | with_reducible refine go_k (by assumption) ?_))
    (refine XL_plain hF _ _ ?_; simp only [plainRun, plain, bin, intBin, un, xv, updO, upd_apply, Option.bind_some, reduceIte, Nat.reduceLT, Nat.reduceEqDiff, reduceCtorEq, List.getElem?_toArray, List.getElem?_cons_zero, List.getElem?_cons_succ, Int.reduceEq, BEq.rfl, Bool.not_true, Bool.not_false])
    (repeat (first | (with_reducible refine X_seq_k ?_; intro K hK) | with_reducible refine X_block ?_ | with_reducible refine X_scope ?_ | with_reducible refine nogo_n ?_ | with_reducible refine nogo_e ?_ | with_reducible refine nogo_r ?_ | with_reducible refine X_region ?_ | with_reducible refine X_skip ?_ | with_reducible refine X_label ?_ | with_reducible refine X_ret ?_ | with_reducible refine X_exit ?_ | with_reducible refine then_n ?_ | with_reducible refine then_e ?_ | with_reducible refine then_r ?_ | with_reducible refine inb_n ?_ | with_reducible refine inb_r ?_ | with_reducible refine inb_e rfl ?_ | with_reducible refine inb_x rfl ?_ | with_reducible refine XL_nil ?_ | with_reducible refine go_k (by assumption) ?_))
    exact body_ret (results1 rfl (by decide)) ⟨by simp [upd], hc1'.below0⟩
  have hb2 : decide ((l1.length : Int) > 100) = false := decide_eq_false hlb
  (refine XL_plain hF _ _ ?_; simp only [plainRun, plain, bin, intBin, un, xv, updO, upd_apply, Option.bind_some, reduceIte, Nat.reduceLT, Nat.reduceEqDiff, reduceCtorEq, List.getElem?_toArray, List.getElem?_cons_zero, List.getElem?_cons_succ, Int.reduceEq, BEq.rfl, Bool.not_true, Bool.not_false, hb2])
  (repeat (first | (with_reducible refine X_seq_k ?_; intro K hK) | with_reducible refine X_block ?_ | with_reducible refine X_scope ?_ | with_reducible refine nogo_n ?_ | with_reducible refine nogo_e ?_ | with_reducible refine nogo_r ?_ | with_reducible refine X_region ?_ | with_reducible refine X_skip ?_ | with_reducible refine X_label ?_ | with_reducible refine X_ret ?_ | with_reducible refine X_exit ?_ | with_reducible refine then_n ?_ | with_reducible refine then_e ?_ | with_reducible refine then_r ?_ | with_reducible refine inb_n ?_ | with_reducible refine inb_r ?_ | with_reducible refine inb_e rfl ?_ | with_reducible refine inb_x rfl ?_ | with_reducible refine XL_nil ?_ | with_reducible refine go_k (by assumption) ?_))
  refine X_cond_false (by simp [xv, upd]) ?_
  (repeat (first | (with_reducible refine X_seq_k ?_; intro K hK) | with_reducible refine X_block ?_ | with_reducible refine X_scope ?_ | with_reducible refine nogo_n ?_ | with_reducible refine nogo_e ?_ | with_reducible refine nogo_r ?_ | with_reducible refine X_region ?_ | with_reducible refine X_skip ?_ | with_reducible refine X_label ?_ | with_reducible refine X_ret ?_ | with_reducible refine X_exit ?_ | with_reducible refine then_n ?_ | with_reducible refine then_e ?_ | with_reducible refine then_r ?_ | with_reducible refine inb_n ?_ | with_reducible refine inb_r ?_ | with_reducible refine inb_e rfl ?_ | with_reducible refine inb_x rfl ?_ | with_reducible refine XL_nil ?_ | with_reducible refine go_k (by assumption) ?_))
  (refine XL_plain hF _ _ ?_; simp only [plainRun, plain, bin, intBin, un, xv, updO, upd_apply, Option.bind_some, reduceIte, Nat.reduceLT, Nat.reduceEqDiff, reduceCtorEq, List.getElem?_toArray, List.getElem?_cons_zero, List.getElem?_cons_succ, Int.reduceEq, BEq.rfl, Bool.not_true, Bool.not_false])
  (repeat (first | (with_reducible refine X_seq_k ?_; intro K hK) | with_reducible refine X_block ?_ | with_reducible refine X_scope ?_ | with_reducible refine nogo_n ?_ | with_reducible refine nogo_e ?_ | with_reducible refine nogo_r ?_ | with_reducible refine X_region ?_ | with_reducible refine X_skip ?_ | with_reducible refine X_label ?_ | with_reducible refine X_ret ?_ | with_reducible refine X_exit ?_ | with_reducible refine then_n ?_ | with_reducible refine then_e ?_ | with_reducible refine then_r ?_ | with_reducible refine inb_n ?_ | with_reducible refine inb_r ?_ | with_reducible refine inb_e rfl ?_ | with_reducible refine inb_x rfl ?_ | with_reducible refine XL_nil ?_ | with_reducible refine go_k (by assumption) ?_))
  (refine XL_plain hF _ _ ?_; simp only [plainRun, plain, bin, intBin, un, xv, updO, upd_apply, Option.bind_some, reduceIte, Nat.reduceLT, Nat.reduceEqDiff, reduceCtorEq, List.getElem?_toArray, List.getElem?_cons_zero, List.getElem?_cons_succ, Int.reduceEq, BEq.rfl, Bool.not_true, Bool.not_false])
  refine XL_len hF Try.underlying29 (by simp [xv, upd, updO]; exact ⟨rfl, rfl, rfl⟩) ?_
  (refine XL_plain hF _ _ ?_; simp only [plainRun, plain, bin, intBin, un, xv, updO, upd_apply, Option.bind_some, reduceIte, Nat.reduceLT, Nat.reduceEqDiff, reduceCtorEq, List.getElem?_toArray, List.getElem?_cons_zero, List.getElem?_cons_succ, Int.reduceEq, BEq.rfl, Bool.not_true, Bool.not_false])
  refine XL_len hF Try.underlying29 (by simp [xv, upd, updO]; exact ⟨rfl, rfl, rfl⟩) ?_
  refine XL_max hF (k := .i64) (a := l0.length) (b := l1.length) (by simp [xv, upd, updO]) (by simp [xv, upd, updO]) ?_
  obtain ⟨M, hM, hMa, hMb, hMm⟩ : ∃ M : Nat, (if (l0.length : Int) < l1.length then (l1.length : Int) else l0.length) = M ∧ l0.length ≤ M ∧ l1.length ≤ M ∧ M ≤ 100 := by
    by_cases h : (l0.length : Int) < l1.length
    · exact ⟨l1.length, by rw [if_pos h], by omega, by omega, by omega⟩
    · exact ⟨l0.length, by rw [if_neg h], by omega, by omega, by omega⟩
  rw [hM]
  (refine XL_plain hF _ _ ?_; simp only [plainRun, plain, bin, intBin, un, xv, updO, upd_apply, Option.bind_some, reduceIte, Nat.reduceLT, Nat.reduceEqDiff, reduceCtorEq, List.getElem?_toArray, List.getElem?_cons_zero, List.getElem?_cons_succ, Int.reduceEq, BEq.rfl, Bool.not_true, Bool.not_false])
  (repeat (first | (with_reducible refine X_seq_k ?_; intro K hK) | with_reducible refine X_block ?_ | with_reducible refine X_scope ?_ | with_reducible refine nogo_n ?_ | with_reducible refine nogo_e ?_ | with_reducible refine nogo_r ?_ | with_reducible refine X_region ?_ | with_reducible refine X_skip ?_ | with_reducible refine X_label ?_ | with_reducible refine X_ret ?_ | with_reducible refine X_exit ?_ | with_reducible refine then_n ?_ | with_reducible refine then_e ?_ | with_reducible refine then_r ?_ | with_reducible refine inb_n ?_ | with_reducible refine inb_r ?_ | with_reducible refine inb_e rfl ?_ | with_reducible refine inb_x rfl ?_ | with_reducible refine XL_nil ?_ | with_reducible refine go_k (by assumption) ?_))
  have hnil : ∀ W : World, W.ownsRow w.heap.size 3 1 (.slice none 0 0) 0 [] := fun W => World.ownsRow_nil W _ 3 1
  refine X_loop (α := Nat × Value × Value)
    (fun st ρ ds w' => ρ 0 = .slice A0 l0.length c0 ∧ ρ 1 = .slice A1 l1.length c1 ∧ ρ 2 = .int .i64 a2 ∧ ρ 3 = .int .i64 a3 ∧ ρ 9 = st.2.1 ∧ ρ 10 = st.2.2 ∧ ρ 27 = .int .i64 M ∧ ρ 28 = .int .i64 st.1 ∧ ds = [] ∧ st.1 ≤ M ∧
      Chg nil_ w w' ∧ w'.ownsRow w.heap.size 3 1 st.2.1 st.1 (ints (sumL l0 l1 st.1)) ∧ w'.ownsRow w.heap.size 3 1 st.2.2 (min st.1 l0.length) (ints (timL a2 l0 st.1)) ∧ ∀ b, st.2.1.ownBlock = some b → st.2.2.ownBlock ≠ some b)
    (fun st => M - st.1) (0, .slice none 0 0, .slice none 0 0) ⟨by simp [upd], by simp [upd], by simp [upd], by simp [upd], by simp [upd], by simp [upd], by simp [upd], by simp [upd], rfl, Nat.zero_le _, hc1', by simpa [sumL, ints] using hnil w1, by simpa [timL, ints] using hnil w1, fun b h => by cases h⟩ ?_
  clear hc1' hb1 hK K w1
  rintro ⟨i, v9, v10⟩ ρ ds w1 ⟨r0, r1, r2, r3, r9, r10, r27, r28, rfl, hi, hch, ho9, ho10, hdis⟩ K hK
  simp only at r9 r10 r28 hi ho9 ho10 hdis
  (repeat (first | (with_reducible refine X_seq_k ?_; intro K hK) | with_reducible refine X_block ?_ | with_reducible refine X_scope ?_ | with_reducible refine nogo_n ?_ | with_reducible refine nogo_e ?_ | with_reducible refine nogo_r ?_ | with_reducible refine X_region ?_ | with_reducible refine X_skip ?_ | with_reducible refine X_label ?_ | with_reducible refine X_ret ?_ | with_reducible refine X_exit ?_ | with_reducible refine then_n ?_ | with_reducible refine then_e ?_ | with_reducible refine then_r ?_ | with_reducible refine inb_n ?_ | with_reducible refine inb_r ?_ | with_reducible refine inb_e rfl ?_ | with_reducible refine inb_x rfl ?_ | with_reducible refine XL_nil ?_ | with_reducible refine go_k (by assumption) ?_))
  (refine XL_plain hF _ _ ?_; simp only [plainRun, plain, bin, intBin, un, xv, updO, upd_apply, Option.bind_some, reduceIte, Nat.reduceLT, Nat.reduceEqDiff, reduceCtorEq, List.getElem?_toArray, List.getElem?_cons_zero, List.getElem?_cons_succ, Int.reduceEq, BEq.rfl, Bool.not_true, Bool.not_false, r27, r28])
  (repeat (first | (with_reducible refine X_seq_k ?_; intro K hK) | with_reducible refine X_block ?_ | with_reducible refine X_scope ?_ | with_reducible refine nogo_n ?_ | with_reducible refine nogo_e ?_ | with_reducible refine nogo_r ?_ | with_reducible refine X_region ?_ | with_reducible refine X_skip ?_ | with_reducible refine X_label ?_ | with_reducible refine X_ret ?_ | with_reducible refine X_exit ?_ | with_reducible refine then_n ?_ | with_reducible refine then_e ?_ | with_reducible refine then_r ?_ | with_reducible refine inb_n ?_ | with_reducible refine inb_r ?_ | with_reducible refine inb_e rfl ?_ | with_reducible refine inb_x rfl ?_ | with_reducible refine XL_nil ?_ | with_reducible refine go_k (by assumption) ?_))
  by_cases hlt : i < M
  · refine X_cond_true (by simp [xv, upd, hlt]) ?_
    (repeat (first | (with_reducible refine X_seq_k ?_; intro K hK) | with_reducible refine X_block ?_ | with_reducible refine X_scope ?_ | with_reducible refine nogo_n ?_ | with_reducible refine nogo_e ?_ | with_reducible refine nogo_r ?_ | with_reducible refine X_region ?_ | with_reducible refine X_skip ?_ | with_reducible refine X_label ?_ | with_reducible refine X_ret ?_ | with_reducible refine X_exit ?_ | with_reducible refine then_n ?_ | with_reducible refine then_e ?_ | with_reducible refine then_r ?_ | with_reducible refine inb_n ?_ | with_reducible refine inb_r ?_ | with_reducible refine inb_e rfl ?_ | with_reducible refine inb_x rfl ?_ | with_reducible refine XL_nil ?_ | with_reducible refine go_k (by assumption) ?_))
    (refine XL_plain hF _ _ ?_; simp only [plainRun, plain, bin, intBin, un, xv, updO, upd_apply, Option.bind_some, reduceIte, Nat.reduceLT, Nat.reduceEqDiff, reduceCtorEq, List.getElem?_toArray, List.getElem?_cons_zero, List.getElem?_cons_succ, Int.reduceEq, BEq.rfl, Bool.not_true, Bool.not_false, r28])
    (repeat (first | (with_reducible refine X_seq_k ?_; intro K hK) | with_reducible refine X_block ?_ | with_reducible refine X_scope ?_ | with_reducible refine nogo_n ?_ | with_reducible refine nogo_e ?_ | with_reducible refine nogo_r ?_ | with_reducible refine X_region ?_ | with_reducible refine X_skip ?_ | with_reducible refine X_label ?_ | with_reducible refine X_ret ?_ | with_reducible refine X_exit ?_ | with_reducible refine then_n ?_ | with_reducible refine then_e ?_ | with_reducible refine then_r ?_ | with_reducible refine inb_n ?_ | with_reducible refine inb_r ?_ | with_reducible refine inb_e rfl ?_ | with_reducible refine inb_x rfl ?_ | with_reducible refine XL_nil ?_ | with_reducible refine go_k (by assumption) ?_))
    (refine XL_plain hF _ _ ?_; simp only [plainRun, plain, bin, intBin, un, xv, updO, upd_apply, Option.bind_some, reduceIte, Nat.reduceLT, Nat.reduceEqDiff, reduceCtorEq, List.getElem?_toArray, List.getElem?_cons_zero, List.getElem?_cons_succ, Int.reduceEq, BEq.rfl, Bool.not_true, Bool.not_false])
    (repeat (first | (with_reducible refine X_seq_k ?_; intro K hK) | with_reducible refine X_block ?_ | with_reducible refine X_scope ?_ | with_reducible refine nogo_n ?_ | with_reducible refine nogo_e ?_ | with_reducible refine nogo_r ?_ | with_reducible refine X_region ?_ | with_reducible refine X_skip ?_ | with_reducible refine X_label ?_ | with_reducible refine X_ret ?_ | with_reducible refine X_exit ?_ | with_reducible refine then_n ?_ | with_reducible refine then_e ?_ | with_reducible refine then_r ?_ | with_reducible refine inb_n ?_ | with_reducible refine inb_r ?_ | with_reducible refine inb_e rfl ?_ | with_reducible refine inb_x rfl ?_ | with_reducible refine XL_nil ?_ | with_reducible refine go_k (by assumption) ?_))
    (refine XL_plain hF _ _ ?_; simp only [plainRun, plain, bin, intBin, un, xv, updO, upd_apply, Option.bind_some, reduceIte, Nat.reduceLT, Nat.reduceEqDiff, reduceCtorEq, List.getElem?_toArray, List.getElem?_cons_zero, List.getElem?_cons_succ, Int.reduceEq, BEq.rfl, Bool.not_true, Bool.not_false, r0])
    refine XL_len hF Try.underlying29 (by simp [xv, upd, updO, r0]; exact ⟨rfl, rfl, rfl⟩) ?_
    (refine XL_plain hF _ _ ?_; simp only [plainRun, plain, bin, intBin, un, xv, updO, upd_apply, Option.bind_some, reduceIte, Nat.reduceLT, Nat.reduceEqDiff, reduceCtorEq, List.getElem?_toArray, List.getElem?_cons_zero, List.getElem?_cons_succ, Int.reduceEq, BEq.rfl, Bool.not_true, Bool.not_false])
    (repeat (first | (with_reducible refine X_seq_k ?_; intro K hK) | with_reducible refine X_block ?_ | with_reducible refine X_scope ?_ | with_reducible refine nogo_n ?_ | with_reducible refine nogo_e ?_ | with_reducible refine nogo_r ?_ | with_reducible refine X_region ?_ | with_reducible refine X_skip ?_ | with_reducible refine X_label ?_ | with_reducible refine X_ret ?_ | with_reducible refine X_exit ?_ | with_reducible refine then_n ?_ | with_reducible refine then_e ?_ | with_reducible refine then_r ?_ | with_reducible refine inb_n ?_ | with_reducible refine inb_r ?_ | with_reducible refine inb_e rfl ?_ | with_reducible refine inb_x rfl ?_ | with_reducible refine XL_nil ?_ | with_reducible refine go_k (by assumption) ?_))
    -- behind the first branch
    refine X_mid (fun ρ ds w' => ρ 0 = .slice A0 l0.length c0 ∧ ρ 1 = .slice A1 l1.length c1 ∧ ρ 2 = .int .i64 a2 ∧ ρ 3 = .int .i64 a3 ∧ ρ 9 = v9 ∧ ρ 11 = .int .i64 i ∧ ρ 12 = .int .i64 (if i < l0.length then l0.getD i 0 else 0) ∧ ρ 27 = .int .i64 M ∧ ρ 28 = .int .i64 i ∧ ds = [] ∧
      Chg nil_ w w' ∧ w'.ownsRow w.heap.size 3 1 v9 i (ints (sumL l0 l1 i)) ∧ ∃ v10', ρ 10 = v10' ∧ w'.ownsRow w.heap.size 3 1 v10' (min (i + 1) l0.length) (ints (timL a2 l0 (i + 1))) ∧ ∀ b, v9.ownBlock = some b → v10'.ownBlock ≠ some b) ?_ ?_
    · by_cases hia : i < l0.length
      · refine X_cond_true (by simp [xv, upd, hia]) ?_
        (repeat (first | (with_reducible refine X_seq_k ?_; intro K hK) | with_reducible refine X_block ?_ | with_reducible refine X_scope ?_ | with_reducible refine nogo_n ?_ | with_reducible refine nogo_e ?_ | with_reducible refine nogo_r ?_ | with_reducible refine X_region ?_ | with_reducible refine X_skip ?_ | with_reducible refine X_label ?_ | with_reducible refine X_ret ?_ | with_reducible refine X_exit ?_ | with_reducible refine then_n ?_ | with_reducible refine then_e ?_ | with_reducible refine then_r ?_ | with_reducible refine inb_n ?_ | with_reducible refine inb_r ?_ | with_reducible refine inb_e rfl ?_ | with_reducible refine inb_x rfl ?_ | with_reducible refine XL_nil ?_ | with_reducible refine go_k (by assumption) ?_))
        obtain ⟨ad, hA, hl⟩ := int_load (Kd.C_below hr0 hch.below0) i hia
        obtain ⟨x, hx⟩ : ∃ x, l0.getD i 0 = x := ⟨_, rfl⟩
        have hts := timL_snoc a2 l0 i hia
        rw [hx] at hl hts
        (refine XL_plain hF _ _ ?_; simp only [plainRun, plain, bin, intBin, un, xv, updO, upd_apply, Option.bind_some, reduceIte, Nat.reduceLT, Nat.reduceEqDiff, reduceCtorEq, List.getElem?_toArray, List.getElem?_cons_zero, List.getElem?_cons_succ, Int.reduceEq, BEq.rfl, Bool.not_true, Bool.not_false, r0])
        refine XL_index hF Try.underlying29 hi3 (a := ad) (l := l0.length) (c := c0) (k := .i64) (i := i) (by simp [xv, upd, r0, hA]) (by simp [xv, upd, r28]) (by omega) (by omega) ?_
        refine XL_load hF (a := ad.add i) (by simp [xv, upd, updO, hs3]) hl ?_
        (refine XL_plain hF _ _ ?_; simp only [plainRun, plain, bin, intBin, un, xv, updO, upd_apply, Option.bind_some, reduceIte, Nat.reduceLT, Nat.reduceEqDiff, reduceCtorEq, List.getElem?_toArray, List.getElem?_cons_zero, List.getElem?_cons_succ, Int.reduceEq, BEq.rfl, Bool.not_true, Bool.not_false])
        (repeat (first | (with_reducible refine X_seq_k ?_; intro K hK) | with_reducible refine X_block ?_ | with_reducible refine X_scope ?_ | with_reducible refine nogo_n ?_ | with_reducible refine nogo_e ?_ | with_reducible refine nogo_r ?_ | with_reducible refine X_region ?_ | with_reducible refine X_skip ?_ | with_reducible refine X_label ?_ | with_reducible refine X_ret ?_ | with_reducible refine X_exit ?_ | with_reducible refine then_n ?_ | with_reducible refine then_e ?_ | with_reducible refine then_r ?_ | with_reducible refine inb_n ?_ | with_reducible refine inb_r ?_ | with_reducible refine inb_e rfl ?_ | with_reducible refine inb_x rfl ?_ | with_reducible refine XL_nil ?_ | with_reducible refine go_k (by assumption) ?_))
        (refine XL_plain hF _ _ ?_; simp only [plainRun, plain, bin, intBin, un, xv, updO, upd_apply, Option.bind_some, reduceIte, Nat.reduceLT, Nat.reduceEqDiff, reduceCtorEq, List.getElem?_toArray, List.getElem?_cons_zero, List.getElem?_cons_succ, Int.reduceEq, BEq.rfl, Bool.not_true, Bool.not_false, r10, r2, r0])
        refine XL_index hF Try.underlying29 hi3 (a := ad) (l := l0.length) (c := c0) (k := .i64) (i := i) (by simp [xv, upd, r0, hA]) (by simp [xv, upd, r28]) (by omega) (by omega) ?_
        refine XL_load hF (a := ad.add i) (by simp [xv, upd, updO, hs3]) hl ?_
        refine XL_call hF rfl E16 (mul_rets a2 x _) (by simp [xv, upd, updO]) ?_
        rintro v w2 ⟨rfl, hd2⟩
        have hch2 : Chg nil_ w1 w2 := Chg.of_below (drawn_below hd2)
        refine XL_buildSlice hF (e := 3) (v := .slice (some ⟨w2.heap.size, 0, none⟩) 1 1) (by simpa [xv, upd, updO] using build_one (a2 * x % 1073741789) w2) ?_
        have hch3 : Chg nil_ w1 (w2.alloc (.cells #[.int .i64 (a2 * x % 1073741789)] 3)) := hch2.alloc _
        have hg3 := get_new w2 (.cells #[.int .i64 (a2 * x % 1073741789)] 3)
        generalize w2.alloc (.cells #[.int .i64 (a2 * x % 1073741789)] 3) = w3 at hch3 hg3
        have ho10' := ownsRow_chg ho10 hch3 (fun _ _ => id)
        have ho9' := ownsRow_chg ho9 hch3 (fun _ _ => id)
        have hsz3 := (hch.trans hch3).size
        rw [← hs3] at ho10'
        refine XL_append hF Try.underlying29 hi3 hz3 (by rw [hs3]; simp [Value.cells]) (by rw [hs3]; decide) ho10' hsz3 (by simp [xv, upd, updO]) (a := ⟨w2.heap.size, 0, none⟩) (m := 1) (c := 1) (by simp [xv, upd, updO]) (news := [.int .i64 (a2 * x % 1073741789)]) (by rw [hs3]; rfl) (fun j u hj => by
          match j, hj with
          | 0, hj => cases hj; exact cell_of hg3 rfl
          | j + 1, hj => simp at hj) (by simp [Value.oneCell']) (by have : (1000 : Nat) ≤ maxLen := by decide
                                                                    omega) (by rw [hb3]; omega) ?_
        rintro v' w4 hap
        rw [hs3] at hap
        (refine XL_plain hF _ _ ?_; simp only [plainRun, plain, bin, intBin, un, xv, updO, upd_apply, Option.bind_some, reduceIte, Nat.reduceLT, Nat.reduceEqDiff, reduceCtorEq, List.getElem?_toArray, List.getElem?_cons_zero, List.getElem?_cons_succ, Int.reduceEq, BEq.rfl, Bool.not_true, Bool.not_false])
        (repeat (first | (with_reducible refine X_seq_k ?_; intro K hK) | with_reducible refine X_block ?_ | with_reducible refine X_scope ?_ | with_reducible refine nogo_n ?_ | with_reducible refine nogo_e ?_ | with_reducible refine nogo_r ?_ | with_reducible refine X_region ?_ | with_reducible refine X_skip ?_ | with_reducible refine X_label ?_ | with_reducible refine X_ret ?_ | with_reducible refine X_exit ?_ | with_reducible refine then_n ?_ | with_reducible refine then_e ?_ | with_reducible refine then_r ?_ | with_reducible refine inb_n ?_ | with_reducible refine inb_r ?_ | with_reducible refine inb_e rfl ?_ | with_reducible refine inb_x rfl ?_ | with_reducible refine XL_nil ?_ | with_reducible refine go_k (by assumption) ?_))
        have hmin : min i l0.length + 1 = min (i + 1) l0.length := by omega
        have hrow := hap.row
        rw [hmin, ← ints_snoc, ← hts] at hrow
        have hne : ∀ b, v9.ownBlock = some b → ¬ v10.ownBlock = some b := hdis
        refine ⟨by simp [upd, r0], by simp [upd, r1], by simp [upd, r2], by simp [upd, r3], by simp [upd, r9], by simp [upd], by rw [if_pos hia, hx]; simp [upd], by simp [upd, r27], by simp [upd, r28], rfl, ?_, ownsRow_chg ho9' hap.chg hne, v', by simp [upd], hrow, fun b hb hb' => ?_⟩
        · exact ⟨hap.chg.os.trans (hch.trans hch3).os, hap.chg.tape.trans (hch.trans hch3).tape, hap.chg.output.trans (hch.trans hch3).output, Nat.le_trans hsz3 hap.chg.size, fun k hk _ => (hap.chg.block k (by omega) (fun e => by have := (ownsRow_lt ho10' e).1; omega)).trans ((hch.trans hch3).block k hk id)⟩
        · rcases hap.place with e | e
          · exact hdis b hb (by rw [← e]; exact hb')
          · have := (ownsRow_lt ho9' hb).2
            rw [e] at hb'; cases hb'; omega
      · refine X_cond_false (by simp [xv, upd, hia]) ?_
        (repeat (first | (with_reducible refine X_seq_k ?_; intro K hK) | with_reducible refine X_block ?_ | with_reducible refine X_scope ?_ | with_reducible refine nogo_n ?_ | with_reducible refine nogo_e ?_ | with_reducible refine nogo_r ?_ | with_reducible refine X_region ?_ | with_reducible refine X_skip ?_ | with_reducible refine X_label ?_ | with_reducible refine X_ret ?_ | with_reducible refine X_exit ?_ | with_reducible refine then_n ?_ | with_reducible refine then_e ?_ | with_reducible refine then_r ?_ | with_reducible refine inb_n ?_ | with_reducible refine inb_r ?_ | with_reducible refine inb_e rfl ?_ | with_reducible refine inb_x rfl ?_ | with_reducible refine XL_nil ?_ | with_reducible refine go_k (by assumption) ?_))
        rw [← timL_stop a2 l0 i (by omega), show min i l0.length = min (i + 1) l0.length by omega] at ho10
        exact ⟨by simp [upd, r0], by simp [upd, r1], by simp [upd, r2], by simp [upd, r3], by simp [upd, r9], by simp [upd, r28], by simp [upd, hia], by simp [upd, r27], by simp [upd, r28], rfl, hch, ho9, v10, by simp [upd, r10], ho10, hdis⟩
    · clear r0 r1 r2 r3 r9 r10 r27 r28 hch ho9 ho10 hdis
      rintro ρ ds w1 ⟨r0, r1, r2, r3, r9, r11, r12, r27, r28, rfl, hch, ho9, v10', r10, ho10, hdis⟩
      (repeat (first | (with_reducible refine X_seq_k ?_; intro K hK) | with_reducible refine X_block ?_ | with_reducible refine X_scope ?_ | with_reducible refine nogo_n ?_ | with_reducible refine nogo_e ?_ | with_reducible refine nogo_r ?_ | with_reducible refine X_region ?_ | with_reducible refine X_skip ?_ | with_reducible refine X_label ?_ | with_reducible refine X_ret ?_ | with_reducible refine X_exit ?_ | with_reducible refine then_n ?_ | with_reducible refine then_e ?_ | with_reducible refine then_r ?_ | with_reducible refine inb_n ?_ | with_reducible refine inb_r ?_ | with_reducible refine inb_e rfl ?_ | with_reducible refine inb_x rfl ?_ | with_reducible refine XL_nil ?_ | with_reducible refine go_k (by assumption) ?_))
      (refine XL_plain hF _ _ ?_; simp only [plainRun, plain, bin, intBin, un, xv, updO, upd_apply, Option.bind_some, reduceIte, Nat.reduceLT, Nat.reduceEqDiff, reduceCtorEq, List.getElem?_toArray, List.getElem?_cons_zero, List.getElem?_cons_succ, Int.reduceEq, BEq.rfl, Bool.not_true, Bool.not_false, r1, r11])
      refine XL_len hF Try.underlying29 (by simp [xv, upd, updO, r1]; exact ⟨rfl, rfl, rfl⟩) ?_
      (refine XL_plain hF _ _ ?_; simp only [plainRun, plain, bin, intBin, un, xv, updO, upd_apply, Option.bind_some, reduceIte, Nat.reduceLT, Nat.reduceEqDiff, reduceCtorEq, List.getElem?_toArray, List.getElem?_cons_zero, List.getElem?_cons_succ, Int.reduceEq, BEq.rfl, Bool.not_true, Bool.not_false, r11])
      (repeat (first | (with_reducible refine X_seq_k ?_; intro K hK) | with_reducible refine X_block ?_ | with_reducible refine X_scope ?_ | with_reducible refine nogo_n ?_ | with_reducible refine nogo_e ?_ | with_reducible refine nogo_r ?_ | with_reducible refine X_region ?_ | with_reducible refine X_skip ?_ | with_reducible refine X_label ?_ | with_reducible refine X_ret ?_ | with_reducible refine X_exit ?_ | with_reducible refine then_n ?_ | with_reducible refine then_e ?_ | with_reducible refine then_r ?_ | with_reducible refine inb_n ?_ | with_reducible refine inb_r ?_ | with_reducible refine inb_e rfl ?_ | with_reducible refine inb_x rfl ?_ | with_reducible refine XL_nil ?_ | with_reducible refine go_k (by assumption) ?_))
      refine X_mid (fun ρ ds w' => ρ 0 = .slice A0 l0.length c0 ∧ ρ 1 = .slice A1 l1.length c1 ∧ ρ 2 = .int .i64 a2 ∧ ρ 3 = .int .i64 a3 ∧ ρ 9 = v9 ∧ ρ 12 = .int .i64 (elem l0 l1 i) ∧ ρ 27 = .int .i64 M ∧ ρ 28 = .int .i64 i ∧ ds = [] ∧
        Chg nil_ w w' ∧ w'.ownsRow w.heap.size 3 1 v9 i (ints (sumL l0 l1 i)) ∧ ρ 10 = v10' ∧ w'.ownsRow w.heap.size 3 1 v10' (min (i + 1) l0.length) (ints (timL a2 l0 (i + 1)))) ?_ ?_
      · by_cases hib : i < l1.length
        · refine X_cond_true (by simp [xv, upd, hib]) ?_
          (repeat (first | (with_reducible refine X_seq_k ?_; intro K hK) | with_reducible refine X_block ?_ | with_reducible refine X_scope ?_ | with_reducible refine nogo_n ?_ | with_reducible refine nogo_e ?_ | with_reducible refine nogo_r ?_ | with_reducible refine X_region ?_ | with_reducible refine X_skip ?_ | with_reducible refine X_label ?_ | with_reducible refine X_ret ?_ | with_reducible refine X_exit ?_ | with_reducible refine then_n ?_ | with_reducible refine then_e ?_ | with_reducible refine then_r ?_ | with_reducible refine inb_n ?_ | with_reducible refine inb_r ?_ | with_reducible refine inb_e rfl ?_ | with_reducible refine inb_x rfl ?_ | with_reducible refine XL_nil ?_ | with_reducible refine go_k (by assumption) ?_))
          obtain ⟨ad, hA, hl⟩ := int_load (Kd.C_below hr1 hch.below0) i hib
          (refine XL_plain hF _ _ ?_; simp only [plainRun, plain, bin, intBin, un, xv, updO, upd_apply, Option.bind_some, reduceIte, Nat.reduceLT, Nat.reduceEqDiff, reduceCtorEq, List.getElem?_toArray, List.getElem?_cons_zero, List.getElem?_cons_succ, Int.reduceEq, BEq.rfl, Bool.not_true, Bool.not_false, r12, r1, r11])
          refine XL_index hF Try.underlying29 hi3 (a := ad) (l := l1.length) (c := c1) (k := .i64) (i := i) (by simp [xv, upd, r1, hA]) (by simp [xv, upd, r11]) (by omega) (by omega) ?_
          refine XL_load hF (a := ad.add i) (by simp [xv, upd, updO, hs3]) hl ?_
          refine XL_call hF rfl E14 (add_rets (if i < l0.length then l0.getD i 0 else 0) (l1.getD i 0) _) (by simp [xv, upd, updO, r12]) ?_
          rintro v w2 ⟨rfl, hb2⟩
          have hch2 : Chg nil_ w1 w2 := Chg.of_below hb2
          (refine XL_plain hF _ _ ?_; simp only [plainRun, plain, bin, intBin, un, xv, updO, upd_apply, Option.bind_some, reduceIte, Nat.reduceLT, Nat.reduceEqDiff, reduceCtorEq, List.getElem?_toArray, List.getElem?_cons_zero, List.getElem?_cons_succ, Int.reduceEq, BEq.rfl, Bool.not_true, Bool.not_false])
          (repeat (first | (with_reducible refine X_seq_k ?_; intro K hK) | with_reducible refine X_block ?_ | with_reducible refine X_scope ?_ | with_reducible refine nogo_n ?_ | with_reducible refine nogo_e ?_ | with_reducible refine nogo_r ?_ | with_reducible refine X_region ?_ | with_reducible refine X_skip ?_ | with_reducible refine X_label ?_ | with_reducible refine X_ret ?_ | with_reducible refine X_exit ?_ | with_reducible refine then_n ?_ | with_reducible refine then_e ?_ | with_reducible refine then_r ?_ | with_reducible refine inb_n ?_ | with_reducible refine inb_r ?_ | with_reducible refine inb_e rfl ?_ | with_reducible refine inb_x rfl ?_ | with_reducible refine XL_nil ?_ | with_reducible refine go_k (by assumption) ?_))
          have he : ((if i < l0.length then l0.getD i 0 else 0) + l1.getD i 0) % 1073741789 = elem l0 l1 i := by
            unfold elem
            by_cases hia : i < l0.length
            · rw [if_pos hia, if_pos hia, if_pos hib]
            · rw [if_neg hia, if_neg hia, if_pos hib]
          rw [he]
          exact ⟨by simp [upd, r0], by simp [upd, r1], by simp [upd, r2], by simp [upd, r3], by simp [upd, r9], by simp [upd], by simp [upd, r27], by simp [upd, r28], rfl, hch.trans hch2, ownsRow_chg ho9 hch2 (fun _ _ => id), by simp [upd, r10], ownsRow_chg ho10 hch2 (fun _ _ => id)⟩
        · refine X_cond_false (by simp [xv, upd, hib]) ?_
          (repeat (first | (with_reducible refine X_seq_k ?_; intro K hK) | with_reducible refine X_block ?_ | with_reducible refine X_scope ?_ | with_reducible refine nogo_n ?_ | with_reducible refine nogo_e ?_ | with_reducible refine nogo_r ?_ | with_reducible refine X_region ?_ | with_reducible refine X_skip ?_ | with_reducible refine X_label ?_ | with_reducible refine X_ret ?_ | with_reducible refine X_exit ?_ | with_reducible refine then_n ?_ | with_reducible refine then_e ?_ | with_reducible refine then_r ?_ | with_reducible refine inb_n ?_ | with_reducible refine inb_r ?_ | with_reducible refine inb_e rfl ?_ | with_reducible refine inb_x rfl ?_ | with_reducible refine XL_nil ?_ | with_reducible refine go_k (by assumption) ?_))
          have he : (if i < l0.length then l0.getD i 0 else 0) = elem l0 l1 i := by
            unfold elem
            by_cases hia : i < l0.length
            · rw [if_pos hia, if_pos hia, if_neg hib]
            · rw [if_neg hia, if_neg hia, if_neg hib]
          rw [he] at r12
          exact ⟨by simp [upd, r0], by simp [upd, r1], by simp [upd, r2], by simp [upd, r3], by simp [upd, r9], by simp [upd, r12], by simp [upd, r27], by simp [upd, r28], rfl, hch, ho9, by simp [upd, r10], ho10⟩
      · clear r0 r1 r2 r3 r9 r10 r11 r12 r27 r28 hch ho9 ho10
        rintro ρ ds w1 ⟨r0, r1, r2, r3, r9, r12, r27, r28, rfl, hch, ho9, r10, ho10⟩
        (repeat (first | (with_reducible refine X_seq_k ?_; intro K hK) | with_reducible refine X_block ?_ | with_reducible refine X_scope ?_ | with_reducible refine nogo_n ?_ | with_reducible refine nogo_e ?_ | with_reducible refine nogo_r ?_ | with_reducible refine X_region ?_ | with_reducible refine X_skip ?_ | with_reducible refine X_label ?_ | with_reducible refine X_ret ?_ | with_reducible refine X_exit ?_ | with_reducible refine then_n ?_ | with_reducible refine then_e ?_ | with_reducible refine then_r ?_ | with_reducible refine inb_n ?_ | with_reducible refine inb_r ?_ | with_reducible refine inb_e rfl ?_ | with_reducible refine inb_x rfl ?_ | with_reducible refine XL_nil ?_ | with_reducible refine go_k (by assumption) ?_))
        (refine XL_plain hF _ _ ?_; simp only [plainRun, plain, bin, intBin, un, xv, updO, upd_apply, Option.bind_some, reduceIte, Nat.reduceLT, Nat.reduceEqDiff, reduceCtorEq, List.getElem?_toArray, List.getElem?_cons_zero, List.getElem?_cons_succ, Int.reduceEq, BEq.rfl, Bool.not_true, Bool.not_false, r9, r12])
        refine XL_buildSlice hF (e := 3) (v := .slice (some ⟨w1.heap.size, 0, none⟩) 1 1) (by simpa [xv, upd, updO] using build_one (elem l0 l1 i) w1) ?_
        have hch3 : Chg nil_ w1 (w1.alloc (.cells #[.int .i64 (elem l0 l1 i)] 3)) := (Chg.refl _ _).alloc _
        have hg3 := get_new w1 (.cells #[.int .i64 (elem l0 l1 i)] 3)
        generalize w1.alloc (.cells #[.int .i64 (elem l0 l1 i)] 3) = w3 at hch3 hg3
        have ho10' := ownsRow_chg ho10 hch3 (fun _ _ => id)
        have ho9' := ownsRow_chg ho9 hch3 (fun _ _ => id)
        have hsz3 := (hch.trans hch3).size
        rw [← hs3] at ho9'
        refine XL_append hF Try.underlying29 hi3 hz3 (by rw [hs3]; simp [Value.cells]) (by rw [hs3]; decide) ho9' hsz3 (by simp [xv, upd, updO]) (a := ⟨w1.heap.size, 0, none⟩) (m := 1) (c := 1) (by simp [xv, upd, updO]) (news := [.int .i64 (elem l0 l1 i)]) (by rw [hs3]; rfl) (fun j u hj => by
          match j, hj with
          | 0, hj => cases hj; exact cell_of hg3 rfl
          | j + 1, hj => simp at hj) (by simp [Value.oneCell']) (by have : (1000 : Nat) ≤ maxLen := by decide
                                                                    omega) (by rw [hb3]; omega) ?_
        rintro v' w4 hap
        rw [hs3] at hap
        (refine XL_plain hF _ _ ?_; simp only [plainRun, plain, bin, intBin, un, xv, updO, upd_apply, Option.bind_some, reduceIte, Nat.reduceLT, Nat.reduceEqDiff, reduceCtorEq, List.getElem?_toArray, List.getElem?_cons_zero, List.getElem?_cons_succ, Int.reduceEq, BEq.rfl, Bool.not_true, Bool.not_false])
        (repeat (first | (with_reducible refine X_seq_k ?_; intro K hK) | with_reducible refine X_block ?_ | with_reducible refine X_scope ?_ | with_reducible refine nogo_n ?_ | with_reducible refine nogo_e ?_ | with_reducible refine nogo_r ?_ | with_reducible refine X_region ?_ | with_reducible refine X_skip ?_ | with_reducible refine X_label ?_ | with_reducible refine X_ret ?_ | with_reducible refine X_exit ?_ | with_reducible refine then_n ?_ | with_reducible refine then_e ?_ | with_reducible refine then_r ?_ | with_reducible refine inb_n ?_ | with_reducible refine inb_r ?_ | with_reducible refine inb_e rfl ?_ | with_reducible refine inb_x rfl ?_ | with_reducible refine XL_nil ?_ | with_reducible refine go_k (by assumption) ?_))
        (refine XL_plain hF _ _ ?_; simp only [plainRun, plain, bin, intBin, un, xv, updO, upd_apply, Option.bind_some, reduceIte, Nat.reduceLT, Nat.reduceEqDiff, reduceCtorEq, List.getElem?_toArray, List.getElem?_cons_zero, List.getElem?_cons_succ, Int.reduceEq, BEq.rfl, Bool.not_true, Bool.not_false, r28, wrap64_in (x := (i : Int) + 1) (by omega) (by omega)])
        (repeat (first | (with_reducible refine X_seq_k ?_; intro K hK) | with_reducible refine X_block ?_ | with_reducible refine X_scope ?_ | with_reducible refine nogo_n ?_ | with_reducible refine nogo_e ?_ | with_reducible refine nogo_r ?_ | with_reducible refine X_region ?_ | with_reducible refine X_skip ?_ | with_reducible refine X_label ?_ | with_reducible refine X_ret ?_ | with_reducible refine X_exit ?_ | with_reducible refine then_n ?_ | with_reducible refine then_e ?_ | with_reducible refine then_r ?_ | with_reducible refine inb_n ?_ | with_reducible refine inb_r ?_ | with_reducible refine inb_e rfl ?_ | with_reducible refine inb_x rfl ?_ | with_reducible refine XL_nil ?_ | with_reducible refine go_k (by assumption) ?_))
        have hrow := hap.row
        rw [← ints_snoc, ← sumL_snoc l0 l1 i] at hrow
        have hne : ∀ b, v10'.ownBlock = some b → ¬ v9.ownBlock = some b := fun b h h' => hdis b h' h
        refine ⟨(i + 1, v', v10'), ⟨by simp [upd, r0], by simp [upd, r1], by simp [upd, r2], by simp [upd, r3], by simp [upd], by simp [upd, r10], by simp [upd, r27], by simp [upd], rfl, hlt, ?_, hrow, ownsRow_chg ho10' hap.chg hne, fun b hb hb' => ?_⟩, by simp only; omega⟩
        · exact ⟨hap.chg.os.trans (hch.trans hch3).os, hap.chg.tape.trans (hch.trans hch3).tape, hap.chg.output.trans (hch.trans hch3).output, Nat.le_trans hsz3 hap.chg.size, fun k hk _ => (hap.chg.block k (by omega) (fun e => by have := (ownsRow_lt ho9' e).1; omega)).trans ((hch.trans hch3).block k hk id)⟩
        · rcases hap.place with e | e
          · exact hdis b (by rw [← e]; exact hb) hb'
          · have := (ownsRow_lt ho10' hb').2
            simp only at hb
            rw [e] at hb; cases hb; omega
  · obtain rfl : i = M := by omega
    refine X_cond_false (by simp [xv, upd]) ?_
    (repeat (first | (with_reducible refine X_seq_k ?_; intro K hK) | with_reducible refine X_block ?_ | with_reducible refine X_scope ?_ | with_reducible refine nogo_n ?_ | with_reducible refine nogo_e ?_ | with_reducible refine nogo_r ?_ | with_reducible refine X_region ?_ | with_reducible refine X_skip ?_ | with_reducible refine X_label ?_ | with_reducible refine X_ret ?_ | with_reducible refine X_exit ?_ | with_reducible refine then_n ?_ | with_reducible refine then_e ?_ | with_reducible refine then_r ?_ | with_reducible refine inb_n ?_ | with_reducible refine inb_r ?_ | with_reducible refine inb_e rfl ?_ | with_reducible refine inb_x rfl ?_ | with_reducible refine XL_nil ?_ | with_reducible refine go_k (by assumption) ?_))
    have e1 := mod_of_dvd (ev_sumL l0 l1 a3 i)
    have e2 := mod_of_dvd (ev_timL a2 l0 a3 i)
    rw [List.take_of_length_le hMa, List.take_of_length_le hMb] at e1
    rw [List.take_of_length_le hMa] at e2
    have ho9' : w1.ownsRow w.heap.size 3 1 v9 (sumL l0 l1 i).length (ints (sumL l0 l1 i)) := by rw [sumL_len]; exact ho9
    have ho10' : w1.ownsRow w.heap.size 3 1 v10 (timL a2 l0 i).length (ints (timL a2 l0 i)) := by rw [timL_len]; exact ho10
    (refine XL_plain hF _ _ ?_; simp only [plainRun, plain, bin, intBin, un, xv, updO, upd_apply, Option.bind_some, reduceIte, Nat.reduceLT, Nat.reduceEqDiff, reduceCtorEq, List.getElem?_toArray, List.getElem?_cons_zero, List.getElem?_cons_succ, Int.reduceEq, BEq.rfl, Bool.not_true, Bool.not_false, r9, r3])
    refine XL_call hF rfl E21 (val_rets_own (by rw [sumL_len]; omega) ho9' a3) (by simp [xv, upd, updO]) ?_
    rintro v w2 ⟨rfl, hb2⟩
    have hch2 : Chg nil_ w1 w2 := Chg.of_below hb2
    (refine XL_plain hF _ _ ?_; simp only [plainRun, plain, bin, intBin, un, xv, updO, upd_apply, Option.bind_some, reduceIte, Nat.reduceLT, Nat.reduceEqDiff, reduceCtorEq, List.getElem?_toArray, List.getElem?_cons_zero, List.getElem?_cons_succ, Int.reduceEq, BEq.rfl, Bool.not_true, Bool.not_false, r0, r3])
    refine XL_call hF rfl E21 (val_rets (by omega) (Kd.C_below hr0 (hch.trans hch2).below0) hc0 a3) (by simp [xv, upd, updO]) ?_
    rintro v w3 ⟨rfl, hb3'⟩
    have hch3 : Chg nil_ w1 w3 := hch2.trans (Chg.of_below hb3')
    (refine XL_plain hF _ _ ?_; simp only [plainRun, plain, bin, intBin, un, xv, updO, upd_apply, Option.bind_some, reduceIte, Nat.reduceLT, Nat.reduceEqDiff, reduceCtorEq, List.getElem?_toArray, List.getElem?_cons_zero, List.getElem?_cons_succ, Int.reduceEq, BEq.rfl, Bool.not_true, Bool.not_false, r1, r3])
    refine XL_call hF rfl E21 (val_rets (by omega) (Kd.C_below hr1 (hch.trans hch3).below0) hc1 a3) (by simp [xv, upd, updO]) ?_
    rintro v w4 ⟨rfl, hb4⟩
    have hch4 : Chg nil_ w1 w4 := hch3.trans (Chg.of_below hb4)
    refine XL_call hF rfl E14 (add_rets (ev l0 a3 % 1073741789) (ev l1 a3 % 1073741789) _) (by simp [xv, upd, updO]) ?_
    rintro v w5 ⟨rfl, hb5⟩
    have hch5 : Chg nil_ w1 w5 := hch4.trans (Chg.of_below hb5)
    have he : ev (sumL l0 l1 i) a3 % 1073741789 = (ev l0 a3 % 1073741789 + ev l1 a3 % 1073741789) % 1073741789 := by rw [e1]; omega
    have heb : (ev (sumL l0 l1 i) a3 % 1073741789 == (ev l0 a3 % 1073741789 + ev l1 a3 % 1073741789) % 1073741789) = true := by rw [he]; exact beq_self_eq_true _
    have htt : (true == true) = true := rfl
    (refine XL_plain hF _ _ ?_; simp only [plainRun, plain, bin, intBin, un, xv, updO, upd_apply, Option.bind_some, reduceIte, Nat.reduceLT, Nat.reduceEqDiff, reduceCtorEq, List.getElem?_toArray, List.getElem?_cons_zero, List.getElem?_cons_succ, Int.reduceEq, BEq.rfl, Bool.not_true, Bool.not_false, heb, htt, r10, r3])
    refine XL_unguard (b := true) (t := 74) rfl rfl rfl (by decide) (by simp [upd, updO]) rfl ?_
    refine XL_call hF rfl E21 (val_rets_own (by rw [timL_len]; omega) (ownsRow_chg ho10' hch5 (fun _ _ => id)) a3) (by simp [xv, upd, updO, r10, r3]) ?_
    rintro v w6 ⟨rfl, hb6⟩
    have hch6 : Chg nil_ w1 w6 := hch5.trans (Chg.of_below hb6)
    (refine XL_plain hF _ _ ?_; simp only [plainRun, plain, bin, intBin, un, xv, updO, upd_apply, Option.bind_some, reduceIte, Nat.reduceLT, Nat.reduceEqDiff, reduceCtorEq, List.getElem?_toArray, List.getElem?_cons_zero, List.getElem?_cons_succ, Int.reduceEq, BEq.rfl, Bool.not_true, Bool.not_false, r2, r0, r3, htt])
    refine XL_unguard (b := true) (t := 74) rfl rfl rfl (by decide) (by simp [upd, updO]) rfl ?_
    refine XL_call hF rfl E21 (val_rets (by omega) (Kd.C_below hr0 (hch.trans hch6).below0) hc0 a3) (by simp [xv, upd, updO, r0, r3]) ?_
    rintro v w7 ⟨rfl, hb7⟩
    have hch7 : Chg nil_ w1 w7 := hch6.trans (Chg.of_below hb7)
    refine XL_unguard (b := true) (t := 74) rfl rfl rfl (by decide) (by simp [upd, updO]) rfl ?_
    refine XL_call hF rfl E16 (mul_rets a2 (ev l0 a3 % 1073741789) _) (by simp [xv, upd, updO, r2]) ?_
    rintro v w8 ⟨rfl, hd8⟩
    have hch8 : Chg nil_ w w8 := hch.trans (hch7.trans (Chg.of_below (drawn_below hd8)))
    have he2 : ev (timL a2 l0 i) a3 % 1073741789 = a2 * (ev l0 a3 % 1073741789) % 1073741789 := by rw [e2]; exact mod_of_dvd ((Cg.refl a2).mul (Cg.mod _).symm)
    have heb2 : (ev (timL a2 l0 i) a3 % 1073741789 == a2 * (ev l0 a3 % 1073741789) % 1073741789) = true := by rw [he2]; exact beq_self_eq_true _
    (refine XL_plain hF _ _ ?_; simp only [plainRun, plain, bin, intBin, un, xv, updO, upd_apply, Option.bind_some, reduceIte, Nat.reduceLT, Nat.reduceEqDiff, reduceCtorEq, List.getElem?_toArray, List.getElem?_cons_zero, List.getElem?_cons_succ, Int.reduceEq, BEq.rfl, Bool.not_true, Bool.not_false, heb2, htt])
    (repeat (first | (with_reducible refine X_seq_k ?_; intro K hK) | with_reducible refine X_block ?_ | with_reducible refine X_scope ?_ | with_reducible refine nogo_n ?_ | with_reducible refine nogo_e ?_ | with_reducible refine nogo_r ?_ | with_reducible refine X_region ?_ | with_reducible refine X_skip ?_ | with_reducible refine X_label ?_ | with_reducible refine X_ret ?_ | with_reducible refine X_exit ?_ | with_reducible refine then_n ?_ | with_reducible refine then_e ?_ | with_reducible refine then_r ?_ | with_reducible refine inb_n ?_ | with_reducible refine inb_r ?_ | with_reducible refine inb_e rfl ?_ | with_reducible refine inb_x rfl ?_ | with_reducible refine XL_nil ?_ | with_reducible refine go_k (by assumption) ?_))
    exact body_ret (results1 rfl (by decide)) ⟨by simp [upd], hch8.below0⟩
end Go.Proofs.Ytbbffpgnjdejiaa.P
