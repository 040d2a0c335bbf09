/- field.At: the walk. -/
import Derived.Test.YtbbffpgnjdejiaaP2
import Derived.Test.YtbbffpgnjdejiaaGInv
import Derived.Test.YtbbffpgnjdejiaaXSt
import Derived.Test.YtbbffpgnjdejiaaXMap
namespace Go.Proofs.Ytbbffpgnjdejiaa.P
open Go.RowKit Go.Proofs.YtbbffpgnjdejiaaW.PrintWords Go.Proofs.YtbbffpgnjdejiaaW.PrintLast Go.Proofs.YtbbffpgnjdejiaaW.PrintMore
open FieldMath XW
set_option linter.unusedSimpArgs false
set_option linter.unusedVariables false

/-- the inverse as a number -/
def inv (b : Int) : Int := if b % 1073741789 = 0 then 0 else ploop 31 1073741787 b 1
/-- one further point in both products -/
def abStep (at_ px : Int) (i : Nat) (ab : Int × Int) (q : S38 × Nat) : Int × Int :=
  if q.2 = i then ab else (ab.1 * ((at_ - q.1.f0) % 1073741789) % 1073741789, ab.2 * ((px - q.1.f0) % 1073741789) % 1073741789)
/-- both products behind the first points -/
def ab (at_ : Int) (p : S38) (i : Nat) (l : List S38) : Int × Int := l.zipIdx.foldl (abStep at_ p.f0 i) (p.f1 % 1073741789, 1)
/-- a point's part, added -/
def atStep (at_ : Int) (l : List S38) (y : Int) (p : S38 × Nat) : Int := (y + (ab at_ p.1 p.2 l).1 * inv (ab at_ p.1 p.2 l).2 % 1073741789) % 1073741789
def atSum (at_ : Int) (l : List S38) (ps : List (S38 × Nat)) : Int := ps.foldl (atStep at_ l) 0
def keys (l : List S38) : List (Int × Bool) := l.foldl (fun es p => mput es (p.f0 % 1073741789) true) []

def field_At.f (l0 : List S38) (a1 : Int) : Option (Int × Int) :=
  if 64 < l0.length then some (0, 2) else if (keys l0).length < l0.length then some (0, 90) else some (atSum a1 l0 l0.zipIdx, 0)

theorem take_snoc_getD (l : List S38) (k : Nat) (h : k < l.length) : l.take (k + 1) = l.take k ++ [l.getD k z38] := by
  rw [List.take_succ_eq_append_getElem h, List.getD_eq_getElem?_getD, List.getElem?_eq_getElem h]; rfl
theorem zip_take_snoc (l : List S38) (k : Nat) (h : k < l.length) : (l.take (k + 1)).zipIdx = (l.take k).zipIdx ++ [(l.getD k z38, k)] := by
  rw [take_snoc_getD l k h, List.zipIdx_append]
  simp [Nat.min_eq_left (Nat.le_of_lt h)]
theorem ab_snoc (at_ : Int) (p : S38) (i : Nat) (l : List S38) (k : Nat) (h : k < l.length) : ab at_ p i (l.take (k + 1)) = abStep at_ p.f0 i (ab at_ p i (l.take k)) (l.getD k z38, k) := by
  simp only [ab, zip_take_snoc l k h, List.foldl_append, List.foldl_cons, List.foldl_nil]
theorem keys_snoc (l : List S38) (k : Nat) (h : k < l.length) : keys (l.take (k + 1)) = mput (keys (l.take k)) ((l.getD k z38).f0 % 1073741789) true := by
  simp only [keys, take_snoc_getD l k h, List.foldl_append, List.foldl_cons, List.foldl_nil]
theorem atSum_snoc (at_ : Int) (l : List S38) (k : Nat) (h : k < l.length) : atSum at_ l (l.take (k + 1)).zipIdx = atStep at_ l (atSum at_ l (l.take k).zipIdx) (l.getD k z38, k) := by
  simp only [atSum, zip_take_snoc l k h, List.foldl_append, List.foldl_cons, List.foldl_nil]

/-! ### contracts of the callees -/
theorem E10 : Enters Try.prog 10 := enters Try.func10 (by kernel_rfl) rfl
theorem E26 : Enters Try.prog 26 := enters Try.func26 (by kernel_rfl) rfl
theorem E27 : Enters Try.prog 27 := enters Try.func27 (by kernel_rfl) rfl
theorem E28 : Enters Try.prog 28 := enters Try.func28 (by kernel_rfl) rfl
theorem drawn_below {w w' : World} (h : Drawn0 w w') : Below w.heap.size w w' := h.below
theorem drawn_heap {w w' : World} (h : Drawn0 w w') : w'.heap = w.heap := by obtain ⟨n, rfl⟩ := h.out; rfl

theorem sum_eq (a b : Int) : field_sum.f 3 [a, b] = some ((a + b) % 1073741789) := by
  have ha := Int.emod_nonneg a (show (1073741789 : Int) ≠ 0 by omega)
  have ha2 := Int.emod_lt_of_pos a (show (0 : Int) < 1073741789 by omega)
  have hb := Int.emod_nonneg b (show (1073741789 : Int) ≠ 0 by omega)
  have hb2 := Int.emod_lt_of_pos b (show (0 : Int) < 1073741789 by omega)
  have w1 : ∀ x : Int, 0 ≤ x → x < 4294967296 → wrap64 x = x := fun x _ _ => by unfold wrap64; omega
  have e1 : Int.tmod (0 + a % 1073741789) 1073741789 = a % 1073741789 := by rw [Int.tmod_eq_emod_of_nonneg (by omega)]; omega
  have e2 : Int.tmod (a % 1073741789 + b % 1073741789) 1073741789 = (a + b) % 1073741789 := by rw [Int.tmod_eq_emod_of_nonneg (by omega)]; omega
  simp [field_sum.f, field_sum.l0, rd, mod_eq, w1 (a % 1073741789) (by omega) (by omega), w1 (a % 1073741789 + b % 1073741789) (by omega) (by omega), w1 1 (by omega) (by omega), w1 2 (by omega) (by omega), e2, Int.tmod_eq_emod_of_nonneg ha]

theorem kdC_two {W : World} {g : Nat} {a b : Int} (h : W.heap[g]? = some (.cells #[.int .i64 a, .int .i64 b] 3 (0, 0))) : Kd.C (Kd.int .i64) W (some ⟨g, 0, none⟩) [a, b].length [a, b] := by
  refine ⟨rfl, by simp, fun _ => ⟨_, rfl, fun j p hj => ⟨[.int .i64 p], rfl, rfl, fun i u hu => ?_⟩⟩⟩
  have h1 : (Kd.int IntKind.i64).sz = 1 := rfl
  cases i with
  | succ i => simp at hu
  | zero =>
    obtain rfl : Value.int .i64 p = u := by simpa using hu
    rw [h1, Nat.mul_one, Nat.add_zero, XW.add_plain, Nat.zero_add]
    match j, hj with
    | 0, hj => cases hj; exact cell_of h rfl
    | 1, hj => cases hj; exact cell_of h rfl
    | j + 2, hj => simp at hj
theorem sum_rets (a b : Int) (W : World) (g : Nat) (h : W.heap[g]? = some (.cells #[.int .i64 a, .int .i64 b] 3 (0, 0))) :
    Rets Try.prog 26 #[.slice (some ⟨g, 0, none⟩) 2 2] W fun u w' => u = .int .i64 ((a + b) % 1073741789) ∧ Drawn0 W w' :=
  rets_of (field_sum.calls 3 (some ⟨g, 0, none⟩) 2 [a, b] _ W (kdC_two h) (Nat.le_refl _) (sum_eq a b))
theorem build_two (a b : Int) (W : World) : (Instr.buildSlice 29 2 #[(0, .int .i64 a), (1, .int .i64 b)]).run Try.prog W = .ok (.slice (some ⟨W.heap.size, 0, none⟩) 2 2) (W.alloc (.cells #[.int .i64 a, .int .i64 b] 3)) := by
  obtain ⟨i, hi, hz, hs, _⟩ := info_parts info3
  have hu := Try.underlying29
  have hr : Array.range 2 = #[0, 1] := rfl
  simp [Instr.buildSlice, underlying, program, hu, Go.sizeOf, typeInfo, hi, hs, hz, zeroValue, Value.cells, Instr.fill, hr, newRow, newObj, Sem.run_bind, Sem.run, Result.andThen]
theorem inv_f (b : Int) : field_Inverse.f b = some (inv b, if b % 1073741789 = 0 then 90 else 0) := by
  unfold field_Inverse.f inv; split <;> rfl
theorem inv_rets (b : Int) (W : World) : Rets Try.prog 10 #[.int .i64 b] W fun u w' => u = .tuple #[.int .i64 (inv b), .int .i64 (if b % 1073741789 = 0 then 90 else 0)] ∧ Drawn0 W w' :=
  rets_of (field_Inverse.calls b _ _ W (inv_f b))

theorem point_loads {W : World} {A : Option Addr} {l : List S38} (h : Kd.C k38 W A l.length l) (k : Nat) (hk : k < l.length) :
    ∃ ad, A = some ad ∧ Loads Try.prog 38 W (ad.add (k * 2)) (.agg #[.int .i64 (l.getD k z38).f0, .int .i64 (l.getD k z38).f1]) := by
  obtain ⟨i, hi, hz, hs, _⟩ := info_parts info38
  obtain ⟨ad, e, h0, h1⟩ := at_T38 h (k : Int) (by omega) (by omega)
  have ek : rd_T38 l (k : Int) = l.getD k z38 := by simp [rd_T38]
  rw [ek, Int.toNat_natCast] at h0 h1
  refine ⟨ad, e, ?_⟩
  refine loads_agg (cs := [.int .i64 (l.getD k z38).f0, .int .i64 (l.getD k z38).f1]) Try.underlying38 rfl hi (by rw [hs]; rfl) (fun j u hj => ?_)
  match j, hj with
  | 0, hj => cases hj; exact h0
  | 1, hj =>
    cases hj
    have : (ad.add (k * 2)).add 1 = ⟨(ad.add (k * 2)).block, (ad.add (k * 2)).off + 1, none⟩ := by unfold Addr.add; rfl
    rw [this]; exact h1
  | j + 2, hj => simp at hj

/-! ### others -/
theorem cells_int (k : IntKind) (a : Int) : (Value.int k a).cells = #[.int k a] := by simp [Value.cells]
theorem others_rets (v : Value) (i : Int) (hv : v.cells = #[v]) (W : World) : Rets Try.prog 27 #[v, .int .i64 i] W fun u w' =>
    u = .func (.func 28) #[] #[.pointer (some ⟨W.heap.size, 0, none⟩), .pointer (some ⟨W.heap.size + 1, 0, none⟩)] ∧ w' = (W.alloc (.cells #[v] 30)).alloc (.cells #[.int .i64 i] 3) := by
  have hF := wide_wide
  refine rets_of (calls_of (n := 6) Try.func27 rfl Try.ntmps27 (by simp) ?_)
  (repeat (first | (with_reducible refine X_seq_k ?_; intro K hK) | with_reducible refine X_block ?_ | with_reducible refine X_scope ?_ | with_reducible refine nogo_n ?_ | with_reducible refine nogo_e ?_ | with_reducible refine nogo_r ?_ | with_reducible refine X_region ?_ | with_reducible refine X_skip ?_ | with_reducible refine X_label ?_ | with_reducible refine X_ret ?_ | with_reducible refine X_exit ?_ | with_reducible refine then_n ?_ | with_reducible refine then_e ?_ | with_reducible refine then_r ?_ | with_reducible refine inb_n ?_ | with_reducible refine inb_r ?_ | with_reducible refine inb_e rfl ?_ | with_reducible refine inb_x rfl ?_ | with_reducible refine XL_nil ?_ | with_reducible refine go_k (by assumption) ?_))
  refine XL_box hF ?_
  refine XL_box hF ?_
  (refine XL_plain hF _ _ ?_; simp only [plainRun, plain, bin, intBin, un, xv, updO, upd_apply, Option.bind_some, reduceIte, Nat.reduceLT, Nat.reduceEqDiff, reduceCtorEq, List.getElem?_toArray, List.getElem?_cons_zero, List.getElem?_cons_succ, Int.reduceEq, BEq.rfl, Bool.not_true, Bool.not_false, hv, cells_int, World.size_alloc])
  (repeat (first | (with_reducible refine X_seq_k ?_; intro K hK) | with_reducible refine X_block ?_ | with_reducible refine X_scope ?_ | with_reducible refine nogo_n ?_ | with_reducible refine nogo_e ?_ | with_reducible refine nogo_r ?_ | with_reducible refine X_region ?_ | with_reducible refine X_skip ?_ | with_reducible refine X_label ?_ | with_reducible refine X_ret ?_ | with_reducible refine X_exit ?_ | with_reducible refine then_n ?_ | with_reducible refine then_e ?_ | with_reducible refine then_r ?_ | with_reducible refine inb_n ?_ | with_reducible refine inb_r ?_ | with_reducible refine inb_e rfl ?_ | with_reducible refine inb_x rfl ?_ | with_reducible refine XL_nil ?_ | with_reducible refine go_k (by assumption) ?_))
  (refine XL_plain hF _ _ ?_; simp only [plainRun, plain, bin, intBin, un, xv, updO, upd_apply, Option.bind_some, reduceIte, Nat.reduceLT, Nat.reduceEqDiff, reduceCtorEq, List.getElem?_toArray, List.getElem?_cons_zero, List.getElem?_cons_succ, Int.reduceEq, BEq.rfl, Bool.not_true, Bool.not_false])
  (repeat (first | (with_reducible refine X_seq_k ?_; intro K hK) | with_reducible refine X_block ?_ | with_reducible refine X_scope ?_ | with_reducible refine nogo_n ?_ | with_reducible refine nogo_e ?_ | with_reducible refine nogo_r ?_ | with_reducible refine X_region ?_ | with_reducible refine X_skip ?_ | with_reducible refine X_label ?_ | with_reducible refine X_ret ?_ | with_reducible refine X_exit ?_ | with_reducible refine then_n ?_ | with_reducible refine then_e ?_ | with_reducible refine then_r ?_ | with_reducible refine inb_n ?_ | with_reducible refine inb_r ?_ | with_reducible refine inb_e rfl ?_ | with_reducible refine inb_x rfl ?_ | with_reducible refine XL_nil ?_ | with_reducible refine go_k (by assumption) ?_))
  exact body_ret (results1 rfl (by decide)) ⟨by simp [upd, xv], by simp [upd, xv, hv, cells_int]⟩

theorem others1 {F : Fence} (hF : Wide F) (ha : F.alive = false) (hro : F.round = none) (l : Nat) (A0 : Option Addr) (c0 : Nat) (l0 : List S38) (hm : l0.length ≤ 9223372036854775807) (i b1 b2 : Nat) (J : Nat → World → Prop)
    (hread : ∀ k W, J k W → W.heap[b1]? = some (.cells #[.slice A0 l0.length c0] 30 (0, 0)) ∧ W.heap[b2]? = some (.cells #[.int .i64 i] 3 (0, 0)) ∧ Kd.C k38 W A0 l0.length l0)
    (hst : ∀ k W W', J k W → Below W.heap.size W W' → J k W') (hskip : ∀ W, J i W → J (i + 1) W)
    (hY : ∀ k W, k < l0.length → k ≠ i → J k W → YieldC F Try.prog l #[.agg #[.int .i64 (l0.getD k z38).f0, .int .i64 (l0.getD k z38).f1]] W fun b W' => b = true ∧ J (k + 1) W')
    (W : World) (h0 : J 0 W) :
    CallsIn F 0 Try.prog 28 #[.func (.yield l) #[] #[], .pointer (some ⟨b1, 0, none⟩), .pointer (some ⟨b2, 0, none⟩)] W fun e W' => ∃ v, e = .returned v ∧ J l0.length W' := by
  obtain ⟨i38, hi38, hz38, hs38, _⟩ := info_parts info38
  obtain ⟨i3, hi3, hz3, hs3, _⟩ := info_parts info3
  refine callsIn_body (n := 23) hF hro Try.func28 rfl Try.ntmps28 (by simp) ?_
  (repeat (first | (with_reducible refine X_seq_k ?_; intro K hK) | with_reducible refine X_block ?_ | with_reducible refine X_scope ?_ | with_reducible refine nogo_n ?_ | with_reducible refine nogo_e ?_ | with_reducible refine nogo_r ?_ | with_reducible refine X_region ?_ | with_reducible refine X_skip ?_ | with_reducible refine X_label ?_ | with_reducible refine X_ret ?_ | with_reducible refine X_exit ?_ | with_reducible refine then_n ?_ | with_reducible refine then_e ?_ | with_reducible refine then_r ?_ | with_reducible refine inb_n ?_ | with_reducible refine inb_r ?_ | with_reducible refine inb_e rfl ?_ | with_reducible refine inb_x rfl ?_ | with_reducible refine XL_nil ?_ | with_reducible refine go_k (by assumption) ?_))
  obtain ⟨hb1, -, -⟩ := hread _ _ h0
  refine XL_load hF (by simp [xv]) (loads_box Try.underlying30 rfl hb1) ?_
  refine XL_len hF Try.underlying30 (by simp [xv, upd, updO]; exact ⟨rfl, rfl, rfl⟩) ?_
  (refine XL_plain hF _ _ ?_; simp only [plainRun, plain, bin, intBin, un, xv, updO, upd_apply, Option.bind_some, reduceIte, Nat.reduceLT, Nat.reduceEqDiff, reduceCtorEq, List.getElem?_toArray, List.getElem?_cons_zero, List.getElem?_cons_succ, Int.reduceEq, BEq.rfl, Bool.not_true, Bool.not_false])
  (repeat (first | (with_reducible refine X_seq_k ?_; intro K hK) | with_reducible refine X_block ?_ | with_reducible refine X_scope ?_ | with_reducible refine nogo_n ?_ | with_reducible refine nogo_e ?_ | with_reducible refine nogo_r ?_ | with_reducible refine X_region ?_ | with_reducible refine X_skip ?_ | with_reducible refine X_label ?_ | with_reducible refine X_ret ?_ | with_reducible refine X_exit ?_ | with_reducible refine then_n ?_ | with_reducible refine then_e ?_ | with_reducible refine then_r ?_ | with_reducible refine inb_n ?_ | with_reducible refine inb_r ?_ | with_reducible refine inb_e rfl ?_ | with_reducible refine inb_x rfl ?_ | with_reducible refine XL_nil ?_ | with_reducible refine go_k (by assumption) ?_))
  refine X_loop (α := Nat) (fun k ρ ds w => ρ 0 = .func (.yield l) #[] #[] ∧ ρ 1 = .pointer (some ⟨b1, 0, none⟩) ∧ ρ 2 = .pointer (some ⟨b2, 0, none⟩) ∧ ρ 6 = .slice A0 l0.length c0 ∧ ρ 7 = .int .i64 l0.length ∧ ρ 8 = .int .i64 k ∧ ds = [] ∧ k ≤ l0.length ∧ J k w)
    (fun k => l0.length - k) 0 ⟨by simp [upd], by simp [upd], by simp [upd], by simp [upd], by simp [upd], by simp [upd], rfl, Nat.zero_le _, h0⟩ ?_
  rintro k ρ ds w ⟨r0, r1, r2, r6, r7, r8, rfl, hk, hJ⟩ K hK
  (repeat (first | (with_reducible refine X_seq_k ?_; intro K hK) | with_reducible refine X_block ?_ | with_reducible refine X_scope ?_ | with_reducible refine nogo_n ?_ | with_reducible refine nogo_e ?_ | with_reducible refine nogo_r ?_ | with_reducible refine X_region ?_ | with_reducible refine X_skip ?_ | with_reducible refine X_label ?_ | with_reducible refine X_ret ?_ | with_reducible refine X_exit ?_ | with_reducible refine then_n ?_ | with_reducible refine then_e ?_ | with_reducible refine then_r ?_ | with_reducible refine inb_n ?_ | with_reducible refine inb_r ?_ | with_reducible refine inb_e rfl ?_ | with_reducible refine inb_x rfl ?_ | with_reducible refine XL_nil ?_ | with_reducible refine go_k (by assumption) ?_))
  (refine XL_plain hF _ _ ?_; simp only [plainRun, plain, bin, intBin, un, xv, updO, upd_apply, Option.bind_some, reduceIte, Nat.reduceLT, Nat.reduceEqDiff, reduceCtorEq, List.getElem?_toArray, List.getElem?_cons_zero, List.getElem?_cons_succ, Int.reduceEq, BEq.rfl, Bool.not_true, Bool.not_false, r7, r8])
  (repeat (first | (with_reducible refine X_seq_k ?_; intro K hK) | with_reducible refine X_block ?_ | with_reducible refine X_scope ?_ | with_reducible refine nogo_n ?_ | with_reducible refine nogo_e ?_ | with_reducible refine nogo_r ?_ | with_reducible refine X_region ?_ | with_reducible refine X_skip ?_ | with_reducible refine X_label ?_ | with_reducible refine X_ret ?_ | with_reducible refine X_exit ?_ | with_reducible refine then_n ?_ | with_reducible refine then_e ?_ | with_reducible refine then_r ?_ | with_reducible refine inb_n ?_ | with_reducible refine inb_r ?_ | with_reducible refine inb_e rfl ?_ | with_reducible refine inb_x rfl ?_ | with_reducible refine XL_nil ?_ | with_reducible refine go_k (by assumption) ?_))
  by_cases hlt : k < l0.length
  · refine X_cond_true (by simp [xv, upd, hlt]) ?_
    (repeat (first | (with_reducible refine X_seq_k ?_; intro K hK) | with_reducible refine X_block ?_ | with_reducible refine X_scope ?_ | with_reducible refine nogo_n ?_ | with_reducible refine nogo_e ?_ | with_reducible refine nogo_r ?_ | with_reducible refine X_region ?_ | with_reducible refine X_skip ?_ | with_reducible refine X_label ?_ | with_reducible refine X_ret ?_ | with_reducible refine X_exit ?_ | with_reducible refine then_n ?_ | with_reducible refine then_e ?_ | with_reducible refine then_r ?_ | with_reducible refine inb_n ?_ | with_reducible refine inb_r ?_ | with_reducible refine inb_e rfl ?_ | with_reducible refine inb_x rfl ?_ | with_reducible refine XL_nil ?_ | with_reducible refine go_k (by assumption) ?_))
    (refine XL_plain hF _ _ ?_; simp only [plainRun, plain, bin, intBin, un, xv, updO, upd_apply, Option.bind_some, reduceIte, Nat.reduceLT, Nat.reduceEqDiff, reduceCtorEq, List.getElem?_toArray, List.getElem?_cons_zero, List.getElem?_cons_succ, Int.reduceEq, BEq.rfl, Bool.not_true, Bool.not_false, r8])
    obtain ⟨hb1, hb2, hC⟩ := hread _ _ hJ
    obtain ⟨ad, rfl, hl⟩ := point_loads hC k hlt
    refine XL_index hF Try.underlying30 hi38 (a := ad) (l := l0.length) (c := c0) (k := .i64) (i := k) (by simp [xv, upd, r6]) (by simp [xv, upd, r8]) (by omega) (by omega) ?_
    refine XL_load hF (a := ad.add (k * 2)) (by simp [xv, upd, updO, hs38]) hl ?_
    refine XL_alloc hF hi38 hz38 ?_
    (refine XL_plain hF _ _ ?_; simp only [plainRun, plain, bin, intBin, un, xv, updO, upd_apply, Option.bind_some, reduceIte, Nat.reduceLT, Nat.reduceEqDiff, reduceCtorEq, List.getElem?_toArray, List.getElem?_cons_zero, List.getElem?_cons_succ, Int.reduceEq, BEq.rfl, Bool.not_true, Bool.not_false, Value.cells])
    refine XL_store hF (a := ⟨w.heap.size, 0, none⟩) (by simp [xv, upd]) (w' := (w.alloc (.cells #[.int .i64 0, .int .i64 0] 38)).putObj w.heap.size (.cells #[.int .i64 (l0.getD k z38).f0, .int .i64 (l0.getD k z38).f1] 38 (0, 0))) (by
      have := stores_block (P := Try.prog) (w := w.alloc (.cells #[.int .i64 0, .int .i64 0] 38)) (t := 38) (b := w.heap.size) (cs := #[.int .i64 0, .int .i64 0]) (t' := 38) (v := .agg #[.int .i64 (l0.getD k z38).f0, .int .i64 (l0.getD k z38).f1]) hi38 (by rw [hs38]; rfl) (by rw [hs38]; rfl) (get_new _ _) (by simp [Value.cells, Value.one1]) (by rw [hs38]; decide)
      simpa [xv, upd, Value.cells] using this) ?_
    have hbel : Below w.heap.size w ((w.alloc (.cells #[.int .i64 0, .int .i64 0] 38)).putObj w.heap.size (.cells #[.int .i64 (l0.getD k z38).f0, .int .i64 (l0.getD k z38).f1] 38 (0, 0))) :=
      (((Chg.refl nil_ w).alloc _).put (.inr (Nat.le_refl _)) _).below0
    have hJ2 := hst _ _ _ hJ hbel
    have hp : ((w.alloc (.cells #[.int .i64 0, .int .i64 0] 38)).putObj w.heap.size (.cells #[.int .i64 (l0.getD k z38).f0, .int .i64 (l0.getD k z38).f1] 38 (0, 0))).heap[w.heap.size]? = some (.cells #[.int .i64 (l0.getD k z38).f0, .int .i64 (l0.getD k z38).f1] 38 (0, 0)) := get_put_same (get_new w _) _
    revert hJ2 hp
    generalize (w.alloc (.cells #[.int .i64 0, .int .i64 0] 38)).putObj w.heap.size (.cells #[.int .i64 (l0.getD k z38).f0, .int .i64 (l0.getD k z38).f1] 38 (0, 0)) = w2
    intro hJ2 hp
    obtain ⟨-, hb2', -⟩ := hread _ _ hJ2
    (repeat (first | (with_reducible refine X_seq_k ?_; intro K hK) | with_reducible refine X_block ?_ | with_reducible refine X_scope ?_ | with_reducible refine nogo_n ?_ | with_reducible refine nogo_e ?_ | with_reducible refine nogo_r ?_ | with_reducible refine X_region ?_ | with_reducible refine X_skip ?_ | with_reducible refine X_label ?_ | with_reducible refine X_ret ?_ | with_reducible refine X_exit ?_ | with_reducible refine then_n ?_ | with_reducible refine then_e ?_ | with_reducible refine then_r ?_ | with_reducible refine inb_n ?_ | with_reducible refine inb_r ?_ | with_reducible refine inb_e rfl ?_ | with_reducible refine inb_x rfl ?_ | with_reducible refine XL_nil ?_ | with_reducible refine go_k (by assumption) ?_))
    (refine XL_plain hF _ _ ?_; simp only [plainRun, plain, bin, intBin, un, xv, updO, upd_apply, Option.bind_some, reduceIte, Nat.reduceLT, Nat.reduceEqDiff, reduceCtorEq, List.getElem?_toArray, List.getElem?_cons_zero, List.getElem?_cons_succ, Int.reduceEq, BEq.rfl, Bool.not_true, Bool.not_false, r8])
    refine XL_load hF (a := ⟨b2, 0, none⟩) (by simp [xv, upd, updO, r2]) (loads_box Try.underlying3 rfl hb2') ?_
    by_cases hki : k = i
    · subst hki
      have hb : ((k : Int) != (k : Int)) = false := by simp
      have hft : (false == true) = false := rfl
      (refine XL_plain hF _ _ ?_; simp only [plainRun, plain, bin, intBin, un, xv, updO, upd_apply, Option.bind_some, reduceIte, Nat.reduceLT, Nat.reduceEqDiff, reduceCtorEq, List.getElem?_toArray, List.getElem?_cons_zero, List.getElem?_cons_succ, Int.reduceEq, BEq.rfl, Bool.not_true, Bool.not_false, r8, hb, hft])
      (repeat (first | (with_reducible refine X_seq_k ?_; intro K hK) | with_reducible refine X_block ?_ | with_reducible refine X_scope ?_ | with_reducible refine nogo_n ?_ | with_reducible refine nogo_e ?_ | with_reducible refine nogo_r ?_ | with_reducible refine X_region ?_ | with_reducible refine X_skip ?_ | with_reducible refine X_label ?_ | with_reducible refine X_ret ?_ | with_reducible refine X_exit ?_ | with_reducible refine then_n ?_ | with_reducible refine then_e ?_ | with_reducible refine then_r ?_ | with_reducible refine inb_n ?_ | with_reducible refine inb_r ?_ | with_reducible refine inb_e rfl ?_ | with_reducible refine inb_x rfl ?_ | with_reducible refine XL_nil ?_ | with_reducible refine go_k (by assumption) ?_))
      refine X_cond_false (by simp [xv, upd]) ?_
      (repeat (first | (with_reducible refine X_seq_k ?_; intro K hK) | with_reducible refine X_block ?_ | with_reducible refine X_scope ?_ | with_reducible refine nogo_n ?_ | with_reducible refine nogo_e ?_ | with_reducible refine nogo_r ?_ | with_reducible refine X_region ?_ | with_reducible refine X_skip ?_ | with_reducible refine X_label ?_ | with_reducible refine X_ret ?_ | with_reducible refine X_exit ?_ | with_reducible refine then_n ?_ | with_reducible refine then_e ?_ | with_reducible refine then_r ?_ | with_reducible refine inb_n ?_ | with_reducible refine inb_r ?_ | with_reducible refine inb_e rfl ?_ | with_reducible refine inb_x rfl ?_ | with_reducible refine XL_nil ?_ | with_reducible refine go_k (by assumption) ?_))
      (refine XL_plain hF _ _ ?_; simp only [plainRun, plain, bin, intBin, un, xv, updO, upd_apply, Option.bind_some, reduceIte, Nat.reduceLT, Nat.reduceEqDiff, reduceCtorEq, List.getElem?_toArray, List.getElem?_cons_zero, List.getElem?_cons_succ, Int.reduceEq, BEq.rfl, Bool.not_true, Bool.not_false, r8, wrap64_in (x := (k : Int) + 1) (by omega) (by omega)])
      (repeat (first | (with_reducible refine X_seq_k ?_; intro K hK) | with_reducible refine X_block ?_ | with_reducible refine X_scope ?_ | with_reducible refine nogo_n ?_ | with_reducible refine nogo_e ?_ | with_reducible refine nogo_r ?_ | with_reducible refine X_region ?_ | with_reducible refine X_skip ?_ | with_reducible refine X_label ?_ | with_reducible refine X_ret ?_ | with_reducible refine X_exit ?_ | with_reducible refine then_n ?_ | with_reducible refine then_e ?_ | with_reducible refine then_r ?_ | with_reducible refine inb_n ?_ | with_reducible refine inb_r ?_ | with_reducible refine inb_e rfl ?_ | with_reducible refine inb_x rfl ?_ | with_reducible refine XL_nil ?_ | with_reducible refine go_k (by assumption) ?_))
      exact ⟨k + 1, ⟨by simp [upd, r0], by simp [upd, r1], by simp [upd, r2], by simp [upd, r6], by simp [upd, r7], by simp [upd], rfl, hlt, hskip _ hJ2⟩, by omega⟩
    · have hb : ((k : Int) != (i : Int)) = true := by simp; omega
      have htt : (true == true) = true := rfl
      (refine XL_plain hF _ _ ?_; simp only [plainRun, plain, bin, intBin, un, xv, updO, upd_apply, Option.bind_some, reduceIte, Nat.reduceLT, Nat.reduceEqDiff, reduceCtorEq, List.getElem?_toArray, List.getElem?_cons_zero, List.getElem?_cons_succ, Int.reduceEq, BEq.rfl, Bool.not_true, Bool.not_false, r8, r0, hb, htt])
      refine XL_unguard (b := true) (t := 16) rfl rfl rfl (by decide) (by simp [upd]) rfl ?_
      refine XL_load hF (a := ⟨w.heap.size, 0, none⟩) (by simp [xv, upd, updO]) (loads_block Try.underlying38 rfl hi38 hp (by rw [hs38]; rfl)) ?_
      refine XL_unguard (b := true) (t := 16) rfl rfl rfl (by decide) (by simp [upd, updO]) rfl ?_
      refine XL_yield hF ha (hY k w2 hlt hki hJ2) (by simp [xv, upd, updO]) (by simp [xv, upd, updO]) ?_
      rintro b w3 ⟨rfl, hJ3⟩
      (refine XL_plain hF _ _ ?_; simp only [plainRun, plain, bin, intBin, un, xv, updO, upd_apply, Option.bind_some, reduceIte, Nat.reduceLT, Nat.reduceEqDiff, reduceCtorEq, List.getElem?_toArray, List.getElem?_cons_zero, List.getElem?_cons_succ, Int.reduceEq, BEq.rfl, Bool.not_true, Bool.not_false, htt])
      (repeat (first | (with_reducible refine X_seq_k ?_; intro K hK) | with_reducible refine X_block ?_ | with_reducible refine X_scope ?_ | with_reducible refine nogo_n ?_ | with_reducible refine nogo_e ?_ | with_reducible refine nogo_r ?_ | with_reducible refine X_region ?_ | with_reducible refine X_skip ?_ | with_reducible refine X_label ?_ | with_reducible refine X_ret ?_ | with_reducible refine X_exit ?_ | with_reducible refine then_n ?_ | with_reducible refine then_e ?_ | with_reducible refine then_r ?_ | with_reducible refine inb_n ?_ | with_reducible refine inb_r ?_ | with_reducible refine inb_e rfl ?_ | with_reducible refine inb_x rfl ?_ | with_reducible refine XL_nil ?_ | with_reducible refine go_k (by assumption) ?_))
      refine X_cond_false (by simp [xv, upd]) ?_
      (repeat (first | (with_reducible refine X_seq_k ?_; intro K hK) | with_reducible refine X_block ?_ | with_reducible refine X_scope ?_ | with_reducible refine nogo_n ?_ | with_reducible refine nogo_e ?_ | with_reducible refine nogo_r ?_ | with_reducible refine X_region ?_ | with_reducible refine X_skip ?_ | with_reducible refine X_label ?_ | with_reducible refine X_ret ?_ | with_reducible refine X_exit ?_ | with_reducible refine then_n ?_ | with_reducible refine then_e ?_ | with_reducible refine then_r ?_ | with_reducible refine inb_n ?_ | with_reducible refine inb_r ?_ | with_reducible refine inb_e rfl ?_ | with_reducible refine inb_x rfl ?_ | with_reducible refine XL_nil ?_ | with_reducible refine go_k (by assumption) ?_))
      (refine XL_plain hF _ _ ?_; simp only [plainRun, plain, bin, intBin, un, xv, updO, upd_apply, Option.bind_some, reduceIte, Nat.reduceLT, Nat.reduceEqDiff, reduceCtorEq, List.getElem?_toArray, List.getElem?_cons_zero, List.getElem?_cons_succ, Int.reduceEq, BEq.rfl, Bool.not_true, Bool.not_false, r8, wrap64_in (x := (k : Int) + 1) (by omega) (by omega)])
      (repeat (first | (with_reducible refine X_seq_k ?_; intro K hK) | with_reducible refine X_block ?_ | with_reducible refine X_scope ?_ | with_reducible refine nogo_n ?_ | with_reducible refine nogo_e ?_ | with_reducible refine nogo_r ?_ | with_reducible refine X_region ?_ | with_reducible refine X_skip ?_ | with_reducible refine X_label ?_ | with_reducible refine X_ret ?_ | with_reducible refine X_exit ?_ | with_reducible refine then_n ?_ | with_reducible refine then_e ?_ | with_reducible refine then_r ?_ | with_reducible refine inb_n ?_ | with_reducible refine inb_r ?_ | with_reducible refine inb_e rfl ?_ | with_reducible refine inb_x rfl ?_ | with_reducible refine XL_nil ?_ | with_reducible refine go_k (by assumption) ?_))
      exact ⟨k + 1, ⟨by simp [upd, r0], by simp [upd, r1], by simp [upd, r2], by simp [upd, r6], by simp [upd, r7], by simp [upd], rfl, hlt, hJ3⟩, by omega⟩
  · obtain rfl : k = l0.length := by omega
    refine X_cond_false (by simp [xv, upd]) ?_
    (repeat (first | (with_reducible refine X_seq_k ?_; intro K hK) | with_reducible refine X_block ?_ | with_reducible refine X_scope ?_ | with_reducible refine nogo_n ?_ | with_reducible refine nogo_e ?_ | with_reducible refine nogo_r ?_ | with_reducible refine X_region ?_ | with_reducible refine X_skip ?_ | with_reducible refine X_label ?_ | with_reducible refine X_ret ?_ | with_reducible refine X_exit ?_ | with_reducible refine then_n ?_ | with_reducible refine then_e ?_ | with_reducible refine then_r ?_ | with_reducible refine inb_n ?_ | with_reducible refine inb_r ?_ | with_reducible refine inb_e rfl ?_ | with_reducible refine inb_x rfl ?_ | with_reducible refine XL_nil ?_ | with_reducible refine go_k (by assumption) ?_))
    exact body_end (results0 rfl) ⟨_, rfl, hJ⟩

/-! ### At: the region within the rounds -/
open RegInv
abbrev ip (b off : Nat) : Value := .pointer (some ⟨b, off, none⟩)
abbrev qq : Int := 1073741789
def atVal (b10 b13 : Nat) (oA oB nA nB a1 px qx : Int) : Nat → Option Value
  | 0 => some (.int .i64 oA) | 1 => some (.int .i64 a1) | 2 => some (ip b13 0) | 3 => some (.int .i64 qx) | 4 => some (.int .i64 (qx % 1073741789)) | 5 => some (.int .i64 (-(qx % 1073741789)))
  | 7 => some (.int .i64 ((a1 - qx) % 1073741789)) | 8 => some (.int .i64 nA) | 9 => some (.int .i64 oB) | 10 => some (ip b10 0) | 11 => some (.int .i64 px) | 12 => some (ip b13 0) | 13 => some (.int .i64 qx)
  | 14 => some (.int .i64 (qx % 1073741789)) | 15 => some (.int .i64 (-(qx % 1073741789))) | 17 => some (.int .i64 ((px - qx) % 1073741789)) | 18 => some (.int .i64 nB) | _ => none
structure AtI (W2 : World) (bAt b10 b13 bA bB : Nat) (oA oB nA nB a1 px qx : Int) (b : Nat → Bool) (ρ : Nat → Value) (ds : List Deferred) (w : World) : Prop where
  nods : ds = []
  r3 : ρ 3 = ip bAt 0
  r10 : ρ 10 = ip b10 0
  r11 : ρ 11 = ip bA 0
  r12 : ρ 12 = ip bB 0
  r13 : ρ 13 = ip b13 0
  chg : Chg (fun k => k = bA ∨ k = bB) W2 w
  hA : w.heap[bA]? = some (.cells #[.int .i64 (if b 19 then nA else oA)] 3 (0, 0))
  hB : w.heap[bB]? = some (.cells #[.int .i64 (if b 20 then nB else oB)] 3 (0, 0))
  val : ∀ i v, b i = true → atVal b10 b13 oA oB nA nB a1 px qx i = some v → ρ (50 + i) = v
  s6 : b 6 = true → ∃ g, W2.heap.size ≤ g ∧ ρ 56 = .slice (some ⟨g, 0, none⟩) 2 2 ∧ w.heap[g]? = some (.cells #[.int .i64 a1, .int .i64 (-(qx % 1073741789))] 3 (0, 0))
  s16 : b 16 = true → ∃ g, W2.heap.size ≤ g ∧ ρ 66 = .slice (some ⟨g, 0, none⟩) 2 2 ∧ w.heap[g]? = some (.cells #[.int .i64 px, .int .i64 (-(qx % 1073741789))] 3 (0, 0))
theorem atVal_lt {b10 b13 : Nat} {oA oB nA nB a1 px qx : Int} {i : Nat} {v : Value} (h : atVal b10 b13 oA oB nA nB a1 px qx i = some v) : i < 19 ∧ i ≠ 6 ∧ i ≠ 16 := by
  unfold atVal at h
  split at h <;> first | omega | cases h

section
variable {W2 : World} {bAt b10 b13 bA bB : Nat} {oA oB nA nB a1 px qx : Int} {b : Nat → Bool} {ρ : Nat → Value} {ds : List Deferred} {w w' : World}
theorem AtI.step (h : AtI W2 bAt b10 b13 bA bB oA oB nA nB a1 px qx b ρ ds w) {i : Nat} {v : Value} (hi : atVal b10 b13 oA oB nA nB a1 px qx i = some v) (hw : Chg nil_ w w') :
    AtI W2 bAt b10 b13 bA bB oA oB nA nB a1 px qx (upb b i) (upd ρ (50 + i) v) ds w' := by
  obtain ⟨hi1, hi2, hi3⟩ := atVal_lt hi
  have hne : ∀ t, t < 50 → upd ρ (50 + i) v t = ρ t := fun t ht => by simp only [upd]; rw [if_neg (by omega)]
  have hnb : ∀ j, j ≠ i → upb b i j = b j := fun j hj => upb_ne hj
  refine ⟨h.nods, by rw [hne 3 (by omega)]; exact h.r3, by rw [hne 10 (by omega)]; exact h.r10, by rw [hne 11 (by omega)]; exact h.r11, by rw [hne 12 (by omega)]; exact h.r12, by rw [hne 13 (by omega)]; exact h.r13,
    h.chg.trans (hw.mono (fun _ _ h => h.elim)), by rw [hnb 19 (by omega)]; exact hw.get h.hA id, by rw [hnb 20 (by omega)]; exact hw.get h.hB id, ?_, ?_, ?_⟩
  · intro j u hj hu
    rcases upb_or hj with rfl | ⟨e, hj⟩
    · rw [hi] at hu; cases hu; simp [upd]
    · simp only [upd]; rw [if_neg (by omega)]; exact h.val j u hj hu
  · intro hj
    rw [hnb 6 (fun e => hi2 e.symm)] at hj
    obtain ⟨g, h1, h2, h3⟩ := h.s6 hj
    exact ⟨g, h1, by simp only [upd]; rw [if_neg (by omega)]; exact h2, hw.get h3 id⟩
  · intro hj
    rw [hnb 16 (fun e => hi3 e.symm)] at hj
    obtain ⟨g, h1, h2, h3⟩ := h.s16 hj
    exact ⟨g, h1, by simp only [upd]; rw [if_neg (by omega)]; exact h2, hw.get h3 id⟩
theorem AtI.slice6 (h : AtI W2 bAt b10 b13 bA bB oA oB nA nB a1 px qx b ρ ds w) :
    AtI W2 bAt b10 b13 bA bB oA oB nA nB a1 px qx (upb b 6) (upd ρ 56 (.slice (some ⟨w.heap.size, 0, none⟩) 2 2)) ds (w.alloc (.cells #[.int .i64 a1, .int .i64 (-(qx % 1073741789))] 3)) := by
  have hw : Chg nil_ w (w.alloc (.cells #[.int .i64 a1, .int .i64 (-(qx % 1073741789))] 3)) := (Chg.refl _ _).alloc _
  refine ⟨h.nods, by simp [upd, h.r3], by simp [upd, h.r10], by simp [upd, h.r11], by simp [upd, h.r12], by simp [upd, h.r13], h.chg.trans (hw.mono (fun _ _ h => h.elim)), by rw [upb_ne (by omega)]; exact hw.get h.hA id, by rw [upb_ne (by omega)]; exact hw.get h.hB id, ?_, ?_, ?_⟩
  · intro j u hj hu
    obtain ⟨_, h6, _⟩ := atVal_lt hu
    rw [upb_ne h6] at hj
    simp only [upd]; rw [if_neg (by omega)]; exact h.val j u hj hu
  · intro _; exact ⟨w.heap.size, h.chg.size, by simp [upd], get_new _ _⟩
  · intro hj
    rw [upb_ne (by omega)] at hj
    obtain ⟨g, h1, h2, h3⟩ := h.s16 hj
    exact ⟨g, h1, by simp [upd, h2], hw.get h3 id⟩
theorem AtI.slice16 (h : AtI W2 bAt b10 b13 bA bB oA oB nA nB a1 px qx b ρ ds w) :
    AtI W2 bAt b10 b13 bA bB oA oB nA nB a1 px qx (upb b 16) (upd ρ 66 (.slice (some ⟨w.heap.size, 0, none⟩) 2 2)) ds (w.alloc (.cells #[.int .i64 px, .int .i64 (-(qx % 1073741789))] 3)) := by
  have hw : Chg nil_ w (w.alloc (.cells #[.int .i64 px, .int .i64 (-(qx % 1073741789))] 3)) := (Chg.refl _ _).alloc _
  refine ⟨h.nods, by simp [upd, h.r3], by simp [upd, h.r10], by simp [upd, h.r11], by simp [upd, h.r12], by simp [upd, h.r13], h.chg.trans (hw.mono (fun _ _ h => h.elim)), by rw [upb_ne (by omega)]; exact hw.get h.hA id, by rw [upb_ne (by omega)]; exact hw.get h.hB id, ?_, ?_, ?_⟩
  · intro j u hj hu
    obtain ⟨_, _, h6⟩ := atVal_lt hu
    rw [upb_ne h6] at hj
    simp only [upd]; rw [if_neg (by omega)]; exact h.val j u hj hu
  · intro hj
    rw [upb_ne (by omega)] at hj
    obtain ⟨g, h1, h2, h3⟩ := h.s6 hj
    exact ⟨g, h1, by simp [upd, h2], hw.get h3 id⟩
  · intro _; exact ⟨w.heap.size, h.chg.size, by simp [upd], get_new _ _⟩
theorem AtI.storeA (h : AtI W2 bAt b10 b13 bA bB oA oB nA nB a1 px qx b ρ ds w) (hab : bA ≠ bB) (hs : bA < W2.heap.size) :
    AtI W2 bAt b10 b13 bA bB oA oB nA nB a1 px qx (upb b 19) ρ ds (w.putObj bA (.cells #[.int .i64 nA] 3 (0, 0))) := by
  refine ⟨h.nods, h.r3, h.r10, h.r11, h.r12, h.r13, h.chg.put (.inl (.inl rfl)) _, by rw [upb_self]; exact get_put_same h.hA _, by rw [upb_ne (by omega)]; exact get_put_other h.hB (fun e => hab e.symm) _, ?_, ?_, ?_⟩
  · intro j u hj hu
    obtain ⟨h1, _, _⟩ := atVal_lt hu
    rw [upb_ne (by omega)] at hj
    exact h.val j u hj hu
  · intro hj
    rw [upb_ne (by omega)] at hj
    obtain ⟨g, h1, h2, h3⟩ := h.s6 hj
    exact ⟨g, h1, h2, get_put_other h3 (by omega) _⟩
  · intro hj
    rw [upb_ne (by omega)] at hj
    obtain ⟨g, h1, h2, h3⟩ := h.s16 hj
    exact ⟨g, h1, h2, get_put_other h3 (by omega) _⟩
theorem AtI.storeB (h : AtI W2 bAt b10 b13 bA bB oA oB nA nB a1 px qx b ρ ds w) (hab : bA ≠ bB) (hs : bB < W2.heap.size) :
    AtI W2 bAt b10 b13 bA bB oA oB nA nB a1 px qx (upb b 20) ρ ds (w.putObj bB (.cells #[.int .i64 nB] 3 (0, 0))) := by
  refine ⟨h.nods, h.r3, h.r10, h.r11, h.r12, h.r13, h.chg.put (.inl (.inr rfl)) _, by rw [upb_ne (by omega)]; exact get_put_other h.hA hab _, by rw [upb_self]; exact get_put_same h.hB _, ?_, ?_, ?_⟩
  · intro j u hj hu
    obtain ⟨h1, _, _⟩ := atVal_lt hu
    rw [upb_ne (by omega)] at hj
    exact h.val j u hj hu
  · intro hj
    rw [upb_ne (by omega)] at hj
    obtain ⟨g, h1, h2, h3⟩ := h.s6 hj
    exact ⟨g, h1, h2, get_put_other h3 (by omega) _⟩
  · intro hj
    rw [upb_ne (by omega)] at hj
    obtain ⟨g, h1, h2, h3⟩ := h.s16 hj
    exact ⟨g, h1, h2, get_put_other h3 (by omega) _⟩
end
/-! ### At -/
theorem stores_int {W : World} {b : Nat} {u : Value} (h : W.heap[b]? = some (.cells #[u] 3 (0, 0))) (x : Int) : Stores Try.prog 3 W ⟨b, 0, none⟩ (.int .i64 x) (W.putObj b (.cells #[.int .i64 x] 3 (0, 0))) := by
  obtain ⟨i, hi, hz, hs, _⟩ := info_parts info3
  have := stores_cell (P := Try.prog) (t := 3) (v := .int .i64 x) hi hs (cells_int _ _) rfl h (by simp : (0:Nat) < #[u].size)
  simpa using this
theorem stores_point {W : World} {b : Nat} {u v : Value} (h : W.heap[b]? = some (.cells #[u, v] 38 (0, 0))) (x y : Int) : Stores Try.prog 38 W ⟨b, 0, none⟩ (.agg #[.int .i64 x, .int .i64 y]) (W.putObj b (.cells #[.int .i64 x, .int .i64 y] 38 (0, 0))) := by
  obtain ⟨i, hi, hz, hs, _⟩ := info_parts info38
  have := stores_block (P := Try.prog) (w := W) (t := 38) (b := b) (cs := #[u, v]) (t' := 38) (v := .agg #[.int .i64 x, .int .i64 y]) hi (by rw [hs]; rfl) (by rw [hs]; rfl) h (by simp [Value.cells, Value.one1]) (by rw [hs]; decide)
  simpa [Value.cells] using this
theorem mapL_chg {κ β : Type} {ek : κ → Value} {eb : β → Value} {W W' : World} {b : Nat} {es : List (κ × β)} (h : MapL ek eb W b es) (hc : Chg nil_ W W') : MapL ek eb W' b es := by
  have h' := h
  obtain ⟨en, clock, hb, hm⟩ := h'
  exact h.eq (hc.block b (get_lt hb) id)
theorem hsub_at (a qx : Int) : (a + -(qx % 1073741789)) % 1073741789 = (a - qx) % 1073741789 := by rw [← Int.sub_eq_add_neg]; simp

theorem field_At.calls (A0 : Option Addr) (c0 : Nat) (l0 : List (S38)) (a1 : Int) (r1 : Int) (r2 : Int) (w : World) (hr0 : Kd.C k38 w A0 l0.length l0) (hc0 : l0.length ≤ c0) (h : field_At.f l0 a1 = some (r1, r2)) :
    Calls Try.prog 19 #[.slice A0 l0.length c0, .int .i64 a1] w fun e w' => e = .returned (.tuple #[.int .i64 r1, .int .i64 r2]) ∧ Below w.heap.size w w' := by
  have hF := wide_wide
  obtain ⟨i3, hi3, hz3, hs3, _⟩ := info_parts info3
  obtain ⟨i38, hi38, hz38, hs38, _⟩ := info_parts info38
  refine calls_of (n := 82) Try.func19 rfl Try.ntmps19 (by simp) ?_
  (repeat (first | (with_reducible refine X_seq_k ?_; intro K hK) | with_reducible refine X_block ?_ | with_reducible refine X_scope ?_ | with_reducible refine nogo_n ?_ | with_reducible refine nogo_e ?_ | with_reducible refine nogo_r ?_ | with_reducible refine X_region ?_ | with_reducible refine X_skip ?_ | with_reducible refine X_label ?_ | with_reducible refine X_ret ?_ | with_reducible refine X_exit ?_ | with_reducible refine then_n ?_ | with_reducible refine then_e ?_ | with_reducible refine then_r ?_ | with_reducible refine inb_n ?_ | with_reducible refine inb_r ?_ | with_reducible refine inb_e rfl ?_ | with_reducible refine inb_x rfl ?_ | with_reducible refine XL_nil ?_ | with_reducible refine go_k (by assumption) ?_))
  refine XL_box hF ?_
  (refine XL_plain hF _ _ ?_; simp only [plainRun, plain, bin, intBin, un, xv, updO, upd_apply, Option.bind_some, reduceIte, Nat.reduceLT, Nat.reduceEqDiff, reduceCtorEq, List.getElem?_toArray, List.getElem?_cons_zero, List.getElem?_cons_succ, Int.reduceEq, BEq.rfl, Bool.not_true, Bool.not_false, cells_int])
  (repeat (first | (with_reducible refine X_seq_k ?_; intro K hK) | with_reducible refine X_block ?_ | with_reducible refine X_scope ?_ | with_reducible refine nogo_n ?_ | with_reducible refine nogo_e ?_ | with_reducible refine nogo_r ?_ | with_reducible refine X_region ?_ | with_reducible refine X_skip ?_ | with_reducible refine X_label ?_ | with_reducible refine X_ret ?_ | with_reducible refine X_exit ?_ | with_reducible refine then_n ?_ | with_reducible refine then_e ?_ | with_reducible refine then_r ?_ | with_reducible refine inb_n ?_ | with_reducible refine inb_r ?_ | with_reducible refine inb_e rfl ?_ | with_reducible refine inb_x rfl ?_ | with_reducible refine XL_nil ?_ | with_reducible refine go_k (by assumption) ?_))
  (refine XL_plain hF _ _ ?_; simp only [plainRun, plain, bin, intBin, un, xv, updO, upd_apply, Option.bind_some, reduceIte, Nat.reduceLT, Nat.reduceEqDiff, reduceCtorEq, List.getElem?_toArray, List.getElem?_cons_zero, List.getElem?_cons_succ, Int.reduceEq, BEq.rfl, Bool.not_true, Bool.not_false])
  refine XL_len hF Try.underlying30 (by simp [xv, upd, updO]; exact ⟨rfl, rfl, rfl⟩) ?_
  (refine XL_plain hF _ _ ?_; simp only [plainRun, plain, bin, intBin, un, xv, updO, upd_apply, Option.bind_some, reduceIte, Nat.reduceLT, Nat.reduceEqDiff, reduceCtorEq, List.getElem?_toArray, List.getElem?_cons_zero, List.getElem?_cons_succ, Int.reduceEq, BEq.rfl, Bool.not_true, Bool.not_false])
  (repeat (first | (with_reducible refine X_seq_k ?_; intro K hK) | with_reducible refine X_block ?_ | with_reducible refine X_scope ?_ | with_reducible refine nogo_n ?_ | with_reducible refine nogo_e ?_ | with_reducible refine nogo_r ?_ | with_reducible refine X_region ?_ | with_reducible refine X_skip ?_ | with_reducible refine X_label ?_ | with_reducible refine X_ret ?_ | with_reducible refine X_exit ?_ | with_reducible refine then_n ?_ | with_reducible refine then_e ?_ | with_reducible refine then_r ?_ | with_reducible refine inb_n ?_ | with_reducible refine inb_r ?_ | with_reducible refine inb_e rfl ?_ | with_reducible refine inb_x rfl ?_ | with_reducible refine XL_nil ?_ | with_reducible refine go_k (by assumption) ?_))
  unfold field_At.f at h
  have hbw1 : Chg nil_ w (w.alloc (.cells #[.int .i64 a1] 3)) := (Chg.refl _ _).alloc _
  by_cases h64 : 64 < l0.length
  · rw [if_pos h64] at h
    obtain ⟨rfl, rfl⟩ : 0 = r1 ∧ 2 = r2 := by simpa using h
    refine X_cond_true (by simp [xv, upd]; omega) ?_
    (repeat (first | (with_reducible refine X_seq_k ?_; intro K hK) | with_reducible refine X_block ?_ | with_reducible refine X_scope ?_ | with_reducible refine nogo_n ?_ | with_reducible refine nogo_e ?_ | with_reducible refine nogo_r ?_ | with_reducible refine X_region ?_ | with_reducible refine X_skip ?_ | with_reducible refine X_label ?_ | with_reducible refine X_ret ?_ | with_reducible refine X_exit ?_ | with_reducible refine then_n ?_ | with_reducible refine then_e ?_ | with_reducible refine then_r ?_ | with_reducible refine inb_n ?_ | with_reducible refine inb_r ?_ | with_reducible refine inb_e rfl ?_ | with_reducible refine inb_x rfl ?_ | with_reducible refine XL_nil ?_ | with_reducible refine go_k (by assumption) ?_))
    (refine XL_plain hF _ _ ?_; simp only [plainRun, plain, bin, intBin, un, xv, updO, upd_apply, Option.bind_some, reduceIte, Nat.reduceLT, Nat.reduceEqDiff, reduceCtorEq, List.getElem?_toArray, List.getElem?_cons_zero, List.getElem?_cons_succ, Int.reduceEq, BEq.rfl, Bool.not_true, Bool.not_false])
    (repeat (first | (with_reducible refine X_seq_k ?_; intro K hK) | with_reducible refine X_block ?_ | with_reducible refine X_scope ?_ | with_reducible refine nogo_n ?_ | with_reducible refine nogo_e ?_ | with_reducible refine nogo_r ?_ | with_reducible refine X_region ?_ | with_reducible refine X_skip ?_ | with_reducible refine X_label ?_ | with_reducible refine X_ret ?_ | with_reducible refine X_exit ?_ | with_reducible refine then_n ?_ | with_reducible refine then_e ?_ | with_reducible refine then_r ?_ | with_reducible refine inb_n ?_ | with_reducible refine inb_r ?_ | with_reducible refine inb_e rfl ?_ | with_reducible refine inb_x rfl ?_ | with_reducible refine XL_nil ?_ | with_reducible refine go_k (by assumption) ?_))
    exact body_ret (results2 rfl (by decide) (by decide)) ⟨by simp [upd], hbw1.below0⟩
  rw [if_neg h64] at h
  refine X_cond_false (by simp [xv, upd]; omega) ?_
  (repeat (first | (with_reducible refine X_seq_k ?_; intro K hK) | with_reducible refine X_block ?_ | with_reducible refine X_scope ?_ | with_reducible refine nogo_n ?_ | with_reducible refine nogo_e ?_ | with_reducible refine nogo_r ?_ | with_reducible refine X_region ?_ | with_reducible refine X_skip ?_ | with_reducible refine X_label ?_ | with_reducible refine X_ret ?_ | with_reducible refine X_exit ?_ | with_reducible refine then_n ?_ | with_reducible refine then_e ?_ | with_reducible refine then_r ?_ | with_reducible refine inb_n ?_ | with_reducible refine inb_r ?_ | with_reducible refine inb_e rfl ?_ | with_reducible refine inb_x rfl ?_ | with_reducible refine XL_nil ?_ | with_reducible refine go_k (by assumption) ?_))
  refine XL_makeMap hF ?_
  (refine XL_plain hF _ _ ?_; simp only [plainRun, plain, bin, intBin, un, xv, updO, upd_apply, Option.bind_some, reduceIte, Nat.reduceLT, Nat.reduceEqDiff, reduceCtorEq, List.getElem?_toArray, List.getElem?_cons_zero, List.getElem?_cons_succ, Int.reduceEq, BEq.rfl, Bool.not_true, Bool.not_false])
  (repeat (first | (with_reducible refine X_seq_k ?_; intro K hK) | with_reducible refine X_block ?_ | with_reducible refine X_scope ?_ | with_reducible refine nogo_n ?_ | with_reducible refine nogo_e ?_ | with_reducible refine nogo_r ?_ | with_reducible refine X_region ?_ | with_reducible refine X_skip ?_ | with_reducible refine X_label ?_ | with_reducible refine X_ret ?_ | with_reducible refine X_exit ?_ | with_reducible refine then_n ?_ | with_reducible refine then_e ?_ | with_reducible refine then_r ?_ | with_reducible refine inb_n ?_ | with_reducible refine inb_r ?_ | with_reducible refine inb_e rfl ?_ | with_reducible refine inb_x rfl ?_ | with_reducible refine XL_nil ?_ | with_reducible refine go_k (by assumption) ?_))
  (refine XL_plain hF _ _ ?_; simp only [plainRun, plain, bin, intBin, un, xv, updO, upd_apply, Option.bind_some, reduceIte, Nat.reduceLT, Nat.reduceEqDiff, reduceCtorEq, List.getElem?_toArray, List.getElem?_cons_zero, List.getElem?_cons_succ, Int.reduceEq, BEq.rfl, Bool.not_true, Bool.not_false])
  refine XL_len hF Try.underlying30 (by simp [xv, upd, updO]; exact ⟨rfl, rfl, rfl⟩) ?_
  (refine XL_plain hF _ _ ?_; simp only [plainRun, plain, bin, intBin, un, xv, updO, upd_apply, Option.bind_some, reduceIte, Nat.reduceLT, Nat.reduceEqDiff, reduceCtorEq, List.getElem?_toArray, List.getElem?_cons_zero, List.getElem?_cons_succ, Int.reduceEq, BEq.rfl, Bool.not_true, Bool.not_false])
  (repeat (first | (with_reducible refine X_seq_k ?_; intro K hK) | with_reducible refine X_block ?_ | with_reducible refine X_scope ?_ | with_reducible refine nogo_n ?_ | with_reducible refine nogo_e ?_ | with_reducible refine nogo_r ?_ | with_reducible refine X_region ?_ | with_reducible refine X_skip ?_ | with_reducible refine X_label ?_ | with_reducible refine X_ret ?_ | with_reducible refine X_exit ?_ | with_reducible refine then_n ?_ | with_reducible refine then_e ?_ | with_reducible refine then_r ?_ | with_reducible refine inb_n ?_ | with_reducible refine inb_r ?_ | with_reducible refine inb_e rfl ?_ | with_reducible refine inb_x rfl ?_ | with_reducible refine XL_nil ?_ | with_reducible refine go_k (by assumption) ?_))
  refine X_loop (α := Nat)
    (fun k ρ ds w' => ρ 0 = .slice A0 l0.length c0 ∧ ρ 3 = ip w.heap.size 0 ∧ ρ 4 = .int .i64 0 ∧ ρ 6 = .map (some (w.heap.size + 1)) ∧ ρ 20 = .slice A0 l0.length c0 ∧ ρ 21 = .int .i64 l0.length ∧ ρ 22 = .int .i64 k ∧ ds = [] ∧ k ≤ l0.length ∧
      Chg nil_ w w' ∧ w'.heap[w.heap.size]? = some (.cells #[.int .i64 a1] 3 (0, 0)) ∧ MapL (Value.int .i64) Value.bool w' (w.heap.size + 1) (keys (l0.take k)))
    (fun k => l0.length - k) 0 ⟨by simp [upd], by simp [upd], by simp [upd], by simp [upd], by simp [upd], by simp [upd], by simp [upd], rfl, Nat.zero_le _, hbw1.alloc _, get_alloc (get_new _ _) _, by
      have := mapL_new (ek := Value.int .i64) (eb := Value.bool) (w.alloc (.cells #[.int .i64 a1] 3))
      rwa [size_alloc] at this⟩ ?_
  rintro k ρ ds w1 ⟨r0, r3, r4, r6, r20, r21, r22, rfl, hk, hbel, hat, hmap⟩ K hK
  (repeat (first | (with_reducible refine X_seq_k ?_; intro K hK) | with_reducible refine X_block ?_ | with_reducible refine X_scope ?_ | with_reducible refine nogo_n ?_ | with_reducible refine nogo_e ?_ | with_reducible refine nogo_r ?_ | with_reducible refine X_region ?_ | with_reducible refine X_skip ?_ | with_reducible refine X_label ?_ | with_reducible refine X_ret ?_ | with_reducible refine X_exit ?_ | with_reducible refine then_n ?_ | with_reducible refine then_e ?_ | with_reducible refine then_r ?_ | with_reducible refine inb_n ?_ | with_reducible refine inb_r ?_ | with_reducible refine inb_e rfl ?_ | with_reducible refine inb_x rfl ?_ | with_reducible refine XL_nil ?_ | with_reducible refine go_k (by assumption) ?_))
  (refine XL_plain hF _ _ ?_; simp only [plainRun, plain, bin, intBin, un, xv, updO, upd_apply, Option.bind_some, reduceIte, Nat.reduceLT, Nat.reduceEqDiff, reduceCtorEq, List.getElem?_toArray, List.getElem?_cons_zero, List.getElem?_cons_succ, Int.reduceEq, BEq.rfl, Bool.not_true, Bool.not_false, r21, r22])
  (repeat (first | (with_reducible refine X_seq_k ?_; intro K hK) | with_reducible refine X_block ?_ | with_reducible refine X_scope ?_ | with_reducible refine nogo_n ?_ | with_reducible refine nogo_e ?_ | with_reducible refine nogo_r ?_ | with_reducible refine X_region ?_ | with_reducible refine X_skip ?_ | with_reducible refine X_label ?_ | with_reducible refine X_ret ?_ | with_reducible refine X_exit ?_ | with_reducible refine then_n ?_ | with_reducible refine then_e ?_ | with_reducible refine then_r ?_ | with_reducible refine inb_n ?_ | with_reducible refine inb_r ?_ | with_reducible refine inb_e rfl ?_ | with_reducible refine inb_x rfl ?_ | with_reducible refine XL_nil ?_ | with_reducible refine go_k (by assumption) ?_))
  by_cases hlt : k < l0.length
  · refine X_cond_true (by simp [xv, upd, hlt]) ?_
    (repeat (first | (with_reducible refine X_seq_k ?_; intro K hK) | with_reducible refine X_block ?_ | with_reducible refine X_scope ?_ | with_reducible refine nogo_n ?_ | with_reducible refine nogo_e ?_ | with_reducible refine nogo_r ?_ | with_reducible refine X_region ?_ | with_reducible refine X_skip ?_ | with_reducible refine X_label ?_ | with_reducible refine X_ret ?_ | with_reducible refine X_exit ?_ | with_reducible refine then_n ?_ | with_reducible refine then_e ?_ | with_reducible refine then_r ?_ | with_reducible refine inb_n ?_ | with_reducible refine inb_r ?_ | with_reducible refine inb_e rfl ?_ | with_reducible refine inb_x rfl ?_ | with_reducible refine XL_nil ?_ | with_reducible refine go_k (by assumption) ?_))
    obtain ⟨ad, rfl, hl⟩ := point_loads (Kd.C_below hr0 hbel.below0) k hlt
    have hks := keys_snoc l0 k hlt
    generalize l0.getD k z38 = p at hl hks
    refine XL_index hF Try.underlying30 hi38 (a := ad) (l := l0.length) (c := c0) (k := .i64) (i := k) (by simp [xv, upd, r20]) (by simp [xv, upd, r22]) (by omega) (by omega) ?_
    refine XL_load hF (a := ad.add (k * 2)) (by simp [xv, upd, updO, hs38]) hl ?_
    refine XL_alloc hF hi38 hz38 ?_
    (refine XL_plain hF _ _ ?_; simp only [plainRun, plain, bin, intBin, un, xv, updO, upd_apply, Option.bind_some, reduceIte, Nat.reduceLT, Nat.reduceEqDiff, reduceCtorEq, List.getElem?_toArray, List.getElem?_cons_zero, List.getElem?_cons_succ, Int.reduceEq, BEq.rfl, Bool.not_true, Bool.not_false, Value.cells])
    refine XL_store hF (a := ⟨w1.heap.size, 0, none⟩) (by simp [xv, upd]) (by simp only [xv, upd, reduceIte, Nat.reduceEqDiff]; exact stores_point (get_new w1 (.cells #[.int .i64 0, .int .i64 0] 38)) p.f0 p.f1) ?_
    have hp : ((w1.alloc (.cells #[.int .i64 0, .int .i64 0] 38)).putObj w1.heap.size (.cells #[.int .i64 p.f0, .int .i64 p.f1] 38 (0, 0))).heap[w1.heap.size]? = some (.cells #[.int .i64 p.f0, .int .i64 p.f1] 38 (0, 0)) := get_put_same (get_new w1 _) _
    have hch : Chg nil_ w1 ((w1.alloc (.cells #[.int .i64 0, .int .i64 0] 38)).putObj w1.heap.size (.cells #[.int .i64 p.f0, .int .i64 p.f1] 38 (0, 0))) := ((Chg.refl nil_ w1).alloc _).put (.inr (Nat.le_refl _)) _
    revert hp hch
    generalize (w1.alloc (.cells #[.int .i64 0, .int .i64 0] 38)).putObj w1.heap.size (.cells #[.int .i64 p.f0, .int .i64 p.f1] 38 (0, 0)) = w2
    intro hp hch
    (repeat (first | (with_reducible refine X_seq_k ?_; intro K hK) | with_reducible refine X_block ?_ | with_reducible refine X_scope ?_ | with_reducible refine nogo_n ?_ | with_reducible refine nogo_e ?_ | with_reducible refine nogo_r ?_ | with_reducible refine X_region ?_ | with_reducible refine X_skip ?_ | with_reducible refine X_label ?_ | with_reducible refine X_ret ?_ | with_reducible refine X_exit ?_ | with_reducible refine then_n ?_ | with_reducible refine then_e ?_ | with_reducible refine then_r ?_ | with_reducible refine inb_n ?_ | with_reducible refine inb_r ?_ | with_reducible refine inb_e rfl ?_ | with_reducible refine inb_x rfl ?_ | with_reducible refine XL_nil ?_ | with_reducible refine go_k (by assumption) ?_))
    (refine XL_plain hF _ _ ?_; simp only [plainRun, plain, bin, intBin, un, xv, updO, upd_apply, Option.bind_some, reduceIte, Nat.reduceLT, Nat.reduceEqDiff, reduceCtorEq, List.getElem?_toArray, List.getElem?_cons_zero, List.getElem?_cons_succ, Int.reduceEq, BEq.rfl, Bool.not_true, Bool.not_false, r6])
    refine XL_field hF Try.underlying38 rfl hi3 (by rw [hs3]; decide) (b := w1.heap.size) (off := 0) (by simp [xv, upd, updO]) ?_
    refine XL_load hF (a := ⟨w1.heap.size, 0, none⟩) (by simp [xv, upd, updO]) (loads_cell Try.underlying3 rfl hp rfl) ?_
    refine XL_call hF rfl E12 (mod_rets p.f0 _) (by simp [xv, upd, updO]) ?_
    rintro v w3 ⟨rfl, hd3⟩
    have hch3 : Chg nil_ w1 w3 := hch.trans (Chg.of_below (drawn_below hd3))
    refine XL_mapUpdate hF Try.underlying43 (keyOk_int Try.underlying3) (mapL_chg hmap hch3) (k := p.f0 % 1073741789) (v := true) (by simp [xv, upd, updO, r6]) (by simp [xv, upd, updO]) (by simp [xv, upd, updO]) ?_
    intro o hmap'
    rw [← hks] at hmap'
    (repeat (first | (with_reducible refine X_seq_k ?_; intro K hK) | with_reducible refine X_block ?_ | with_reducible refine X_scope ?_ | with_reducible refine nogo_n ?_ | with_reducible refine nogo_e ?_ | with_reducible refine nogo_r ?_ | with_reducible refine X_region ?_ | with_reducible refine X_skip ?_ | with_reducible refine X_label ?_ | with_reducible refine X_ret ?_ | with_reducible refine X_exit ?_ | with_reducible refine then_n ?_ | with_reducible refine then_e ?_ | with_reducible refine then_r ?_ | with_reducible refine inb_n ?_ | with_reducible refine inb_r ?_ | with_reducible refine inb_e rfl ?_ | with_reducible refine inb_x rfl ?_ | with_reducible refine XL_nil ?_ | with_reducible refine go_k (by assumption) ?_))
    (refine XL_plain hF _ _ ?_; simp only [plainRun, plain, bin, intBin, un, xv, updO, upd_apply, Option.bind_some, reduceIte, Nat.reduceLT, Nat.reduceEqDiff, reduceCtorEq, List.getElem?_toArray, List.getElem?_cons_zero, List.getElem?_cons_succ, Int.reduceEq, BEq.rfl, Bool.not_true, Bool.not_false, r22, wrap64_in (x := (k : Int) + 1) (by omega) (by omega)])
    (repeat (first | (with_reducible refine X_seq_k ?_; intro K hK) | with_reducible refine X_block ?_ | with_reducible refine X_scope ?_ | with_reducible refine nogo_n ?_ | with_reducible refine nogo_e ?_ | with_reducible refine nogo_r ?_ | with_reducible refine X_region ?_ | with_reducible refine X_skip ?_ | with_reducible refine X_label ?_ | with_reducible refine X_ret ?_ | with_reducible refine X_exit ?_ | with_reducible refine then_n ?_ | with_reducible refine then_e ?_ | with_reducible refine then_r ?_ | with_reducible refine inb_n ?_ | with_reducible refine inb_r ?_ | with_reducible refine inb_e rfl ?_ | with_reducible refine inb_x rfl ?_ | with_reducible refine XL_nil ?_ | with_reducible refine go_k (by assumption) ?_))
    have hb3 : Chg nil_ w w3 := hbel.trans hch3
    exact ⟨k + 1, ⟨by simp [upd, r0], by simp [upd, r3], by simp [upd, r4], by simp [upd, r6], by simp [upd, r20], by simp [upd, r21], by simp [upd], rfl, hlt,
      hb3.put (.inr (by omega)) _, get_put_other (hch3.get hat id) (by omega) _, hmap'⟩, by omega⟩
  obtain rfl : k = l0.length := by omega
  rw [List.take_length] at hmap
  refine X_cond_false (by simp [xv, upd]) ?_
  (repeat (first | (with_reducible refine X_seq_k ?_; intro K hK) | with_reducible refine X_block ?_ | with_reducible refine X_scope ?_ | with_reducible refine nogo_n ?_ | with_reducible refine nogo_e ?_ | with_reducible refine nogo_r ?_ | with_reducible refine X_region ?_ | with_reducible refine X_skip ?_ | with_reducible refine X_label ?_ | with_reducible refine X_ret ?_ | with_reducible refine X_exit ?_ | with_reducible refine then_n ?_ | with_reducible refine then_e ?_ | with_reducible refine then_r ?_ | with_reducible refine inb_n ?_ | with_reducible refine inb_r ?_ | with_reducible refine inb_e rfl ?_ | with_reducible refine inb_x rfl ?_ | with_reducible refine XL_nil ?_ | with_reducible refine go_k (by assumption) ?_))
  (refine XL_plain hF _ _ ?_; simp only [plainRun, plain, bin, intBin, un, xv, updO, upd_apply, Option.bind_some, reduceIte, Nat.reduceLT, Nat.reduceEqDiff, reduceCtorEq, List.getElem?_toArray, List.getElem?_cons_zero, List.getElem?_cons_succ, Int.reduceEq, BEq.rfl, Bool.not_true, Bool.not_false, r6, r0])
  refine XL_mapLen hF Try.underlying43 hmap (by simp [xv, upd, updO, r6]) ?_
  (refine XL_plain hF _ _ ?_; simp only [plainRun, plain, bin, intBin, un, xv, updO, upd_apply, Option.bind_some, reduceIte, Nat.reduceLT, Nat.reduceEqDiff, reduceCtorEq, List.getElem?_toArray, List.getElem?_cons_zero, List.getElem?_cons_succ, Int.reduceEq, BEq.rfl, Bool.not_true, Bool.not_false, r0])
  refine XL_len hF Try.underlying30 (by simp [xv, upd, updO, r0]; exact ⟨rfl, rfl, rfl⟩) ?_
  (refine XL_plain hF _ _ ?_; simp only [plainRun, plain, bin, intBin, un, xv, updO, upd_apply, Option.bind_some, reduceIte, Nat.reduceLT, Nat.reduceEqDiff, reduceCtorEq, List.getElem?_toArray, List.getElem?_cons_zero, List.getElem?_cons_succ, Int.reduceEq, BEq.rfl, Bool.not_true, Bool.not_false])
  (repeat (first | (with_reducible refine X_seq_k ?_; intro K hK) | with_reducible refine X_block ?_ | with_reducible refine X_scope ?_ | with_reducible refine nogo_n ?_ | with_reducible refine nogo_e ?_ | with_reducible refine nogo_r ?_ | with_reducible refine X_region ?_ | with_reducible refine X_skip ?_ | with_reducible refine X_label ?_ | with_reducible refine X_ret ?_ | with_reducible refine X_exit ?_ | with_reducible refine then_n ?_ | with_reducible refine then_e ?_ | with_reducible refine then_r ?_ | with_reducible refine inb_n ?_ | with_reducible refine inb_r ?_ | with_reducible refine inb_e rfl ?_ | with_reducible refine inb_x rfl ?_ | with_reducible refine XL_nil ?_ | with_reducible refine go_k (by assumption) ?_))
  by_cases hd : (keys l0).length < l0.length
  · rw [if_pos hd] at h
    obtain ⟨rfl, rfl⟩ : 0 = r1 ∧ 90 = r2 := by simpa using h
    refine X_cond_true (by simp [xv, upd, hd]) ?_
    (repeat (first | (with_reducible refine X_seq_k ?_; intro K hK) | with_reducible refine X_block ?_ | with_reducible refine X_scope ?_ | with_reducible refine nogo_n ?_ | with_reducible refine nogo_e ?_ | with_reducible refine nogo_r ?_ | with_reducible refine X_region ?_ | with_reducible refine X_skip ?_ | with_reducible refine X_label ?_ | with_reducible refine X_ret ?_ | with_reducible refine X_exit ?_ | with_reducible refine then_n ?_ | with_reducible refine then_e ?_ | with_reducible refine then_r ?_ | with_reducible refine inb_n ?_ | with_reducible refine inb_r ?_ | with_reducible refine inb_e rfl ?_ | with_reducible refine inb_x rfl ?_ | with_reducible refine XL_nil ?_ | with_reducible refine go_k (by assumption) ?_))
    (refine XL_plain hF _ _ ?_; simp only [plainRun, plain, bin, intBin, un, xv, updO, upd_apply, Option.bind_some, reduceIte, Nat.reduceLT, Nat.reduceEqDiff, reduceCtorEq, List.getElem?_toArray, List.getElem?_cons_zero, List.getElem?_cons_succ, Int.reduceEq, BEq.rfl, Bool.not_true, Bool.not_false])
    (repeat (first | (with_reducible refine X_seq_k ?_; intro K hK) | with_reducible refine X_block ?_ | with_reducible refine X_scope ?_ | with_reducible refine nogo_n ?_ | with_reducible refine nogo_e ?_ | with_reducible refine nogo_r ?_ | with_reducible refine X_region ?_ | with_reducible refine X_skip ?_ | with_reducible refine X_label ?_ | with_reducible refine X_ret ?_ | with_reducible refine X_exit ?_ | with_reducible refine then_n ?_ | with_reducible refine then_e ?_ | with_reducible refine then_r ?_ | with_reducible refine inb_n ?_ | with_reducible refine inb_r ?_ | with_reducible refine inb_e rfl ?_ | with_reducible refine inb_x rfl ?_ | with_reducible refine XL_nil ?_ | with_reducible refine go_k (by assumption) ?_))
    exact body_ret (results2 rfl (by decide) (by decide)) ⟨by simp [upd], hbel.below0⟩
  rw [if_neg hd] at h
  obtain ⟨rfl, rfl⟩ : atSum a1 l0 l0.zipIdx = r1 ∧ 0 = r2 := by simpa using h
  refine X_cond_false (by simp [xv, upd, hd]) ?_
  (repeat (first | (with_reducible refine X_seq_k ?_; intro K hK) | with_reducible refine X_block ?_ | with_reducible refine X_scope ?_ | with_reducible refine nogo_n ?_ | with_reducible refine nogo_e ?_ | with_reducible refine nogo_r ?_ | with_reducible refine X_region ?_ | with_reducible refine X_skip ?_ | with_reducible refine X_label ?_ | with_reducible refine X_ret ?_ | with_reducible refine X_exit ?_ | with_reducible refine then_n ?_ | with_reducible refine then_e ?_ | with_reducible refine then_r ?_ | with_reducible refine inb_n ?_ | with_reducible refine inb_r ?_ | with_reducible refine inb_e rfl ?_ | with_reducible refine inb_x rfl ?_ | with_reducible refine XL_nil ?_ | with_reducible refine go_k (by assumption) ?_))
  (refine XL_plain hF _ _ ?_; simp only [plainRun, plain, bin, intBin, un, xv, updO, upd_apply, Option.bind_some, reduceIte, Nat.reduceLT, Nat.reduceEqDiff, reduceCtorEq, List.getElem?_toArray, List.getElem?_cons_zero, List.getElem?_cons_succ, Int.reduceEq, BEq.rfl, Bool.not_true, Bool.not_false, r0])
  refine XL_len hF Try.underlying30 (by simp [xv, upd, updO, r0]; exact ⟨rfl, rfl, rfl⟩) ?_
  (refine XL_plain hF _ _ ?_; simp only [plainRun, plain, bin, intBin, un, xv, updO, upd_apply, Option.bind_some, reduceIte, Nat.reduceLT, Nat.reduceEqDiff, reduceCtorEq, List.getElem?_toArray, List.getElem?_cons_zero, List.getElem?_cons_succ, Int.reduceEq, BEq.rfl, Bool.not_true, Bool.not_false])
  (repeat (first | (with_reducible refine X_seq_k ?_; intro K hK) | with_reducible refine X_block ?_ | with_reducible refine X_scope ?_ | with_reducible refine nogo_n ?_ | with_reducible refine nogo_e ?_ | with_reducible refine nogo_r ?_ | with_reducible refine X_region ?_ | with_reducible refine X_skip ?_ | with_reducible refine X_label ?_ | with_reducible refine X_ret ?_ | with_reducible refine X_exit ?_ | with_reducible refine then_n ?_ | with_reducible refine then_e ?_ | with_reducible refine then_r ?_ | with_reducible refine inb_n ?_ | with_reducible refine inb_r ?_ | with_reducible refine inb_e rfl ?_ | with_reducible refine inb_x rfl ?_ | with_reducible refine XL_nil ?_ | with_reducible refine go_k (by assumption) ?_))
  clear hmap hd
  have hlen : l0.length ≤ 64 := by omega
  have hcat : w.heap.size < w1.heap.size := get_lt hat
  refine X_loop (α := Nat × List Nat)
    (fun st ρ ds w' => ρ 0 = .slice A0 l0.length c0 ∧ ρ 3 = ip w.heap.size 0 ∧ ρ 4 = .int .i64 (atSum a1 l0 (l0.take st.1).zipIdx) ∧ ρ 36 = .slice A0 l0.length c0 ∧ ρ 37 = .int .i64 l0.length ∧ ρ 38 = .int .i64 st.1 ∧ ds = st.2.map mk ∧ st.1 ≤ l0.length ∧
      Chg nil_ w w' ∧ w'.heap[w.heap.size]? = some (.cells #[.int .i64 a1] 3 (0, 0)) ∧ st.2.Nodup ∧ ∀ D ∈ st.2, w.heap.size ≤ D ∧ w'.heap[D]? = some (.deferred (some [])))
    (fun st => l0.length - st.1) (0, []) ⟨by simp [upd, r0], by simp [upd, r3], by simp [upd, r4, atSum], by simp [upd, r0], by simp [upd], by simp [upd], rfl, Nat.zero_le _, hbel, hat, List.nodup_nil, by simp⟩ ?_
  clear r0 r3 r4 r6 r20 r21 r22 hbel hat hcat hK K
  rintro ⟨i, Ds⟩ ρ ds w1 ⟨r0, r3, r4, r36, r37, r38, rfl, hk, hbel, hat, hnd, hDs⟩ K hK
  simp only at r4 r38 hk hnd hDs
  (repeat (first | (with_reducible refine X_seq_k ?_; intro K hK) | with_reducible refine X_block ?_ | with_reducible refine X_scope ?_ | with_reducible refine nogo_n ?_ | with_reducible refine nogo_e ?_ | with_reducible refine nogo_r ?_ | with_reducible refine X_region ?_ | with_reducible refine X_skip ?_ | with_reducible refine X_label ?_ | with_reducible refine X_ret ?_ | with_reducible refine X_exit ?_ | with_reducible refine then_n ?_ | with_reducible refine then_e ?_ | with_reducible refine then_r ?_ | with_reducible refine inb_n ?_ | with_reducible refine inb_r ?_ | with_reducible refine inb_e rfl ?_ | with_reducible refine inb_x rfl ?_ | with_reducible refine XL_nil ?_ | with_reducible refine go_k (by assumption) ?_))
  (refine XL_plain hF _ _ ?_; simp only [plainRun, plain, bin, intBin, un, xv, updO, upd_apply, Option.bind_some, reduceIte, Nat.reduceLT, Nat.reduceEqDiff, reduceCtorEq, List.getElem?_toArray, List.getElem?_cons_zero, List.getElem?_cons_succ, Int.reduceEq, BEq.rfl, Bool.not_true, Bool.not_false, r37, r38])
  (repeat (first | (with_reducible refine X_seq_k ?_; intro K hK) | with_reducible refine X_block ?_ | with_reducible refine X_scope ?_ | with_reducible refine nogo_n ?_ | with_reducible refine nogo_e ?_ | with_reducible refine nogo_r ?_ | with_reducible refine X_region ?_ | with_reducible refine X_skip ?_ | with_reducible refine X_label ?_ | with_reducible refine X_ret ?_ | with_reducible refine X_exit ?_ | with_reducible refine then_n ?_ | with_reducible refine then_e ?_ | with_reducible refine then_r ?_ | with_reducible refine inb_n ?_ | with_reducible refine inb_r ?_ | with_reducible refine inb_e rfl ?_ | with_reducible refine inb_x rfl ?_ | with_reducible refine XL_nil ?_ | with_reducible refine go_k (by assumption) ?_))
  by_cases hlt : i < l0.length
  · refine X_cond_true (by simp [xv, upd, hlt]) ?_
    (repeat (first | (with_reducible refine X_seq_k ?_; intro K hK) | with_reducible refine X_block ?_ | with_reducible refine X_scope ?_ | with_reducible refine nogo_n ?_ | with_reducible refine nogo_e ?_ | with_reducible refine nogo_r ?_ | with_reducible refine X_region ?_ | with_reducible refine X_skip ?_ | with_reducible refine X_label ?_ | with_reducible refine X_ret ?_ | with_reducible refine X_exit ?_ | with_reducible refine then_n ?_ | with_reducible refine then_e ?_ | with_reducible refine then_r ?_ | with_reducible refine inb_n ?_ | with_reducible refine inb_r ?_ | with_reducible refine inb_e rfl ?_ | with_reducible refine inb_x rfl ?_ | with_reducible refine XL_nil ?_ | with_reducible refine go_k (by assumption) ?_))
    (refine XL_plain hF _ _ ?_; simp only [plainRun, plain, bin, intBin, un, xv, updO, upd_apply, Option.bind_some, reduceIte, Nat.reduceLT, Nat.reduceEqDiff, reduceCtorEq, List.getElem?_toArray, List.getElem?_cons_zero, List.getElem?_cons_succ, Int.reduceEq, BEq.rfl, Bool.not_true, Bool.not_false, r38])
    obtain ⟨ad, hA0, hl⟩ := point_loads (Kd.C_below hr0 hbel.below0) i hlt
    have hsn := atSum_snoc a1 l0 i hlt
    generalize l0.getD i z38 = p at hl hsn
    refine XL_index hF Try.underlying30 hi38 (a := ad) (l := l0.length) (c := c0) (k := .i64) (i := i) (by simp [xv, upd, r36, hA0]) (by simp [xv, upd, r38]) (by omega) (by omega) ?_
    refine XL_load hF (a := ad.add (i * 2)) (by simp [xv, upd, updO, hs38]) hl ?_
    refine XL_alloc hF hi38 hz38 ?_
    (refine XL_plain hF _ _ ?_; simp only [plainRun, plain, bin, intBin, un, xv, updO, upd_apply, Option.bind_some, reduceIte, Nat.reduceLT, Nat.reduceEqDiff, reduceCtorEq, List.getElem?_toArray, List.getElem?_cons_zero, List.getElem?_cons_succ, Int.reduceEq, BEq.rfl, Bool.not_true, Bool.not_false, Value.cells])
    refine XL_store hF (a := ⟨w1.heap.size, 0, none⟩) (by simp [xv, upd]) (by simp only [xv, upd, reduceIte, Nat.reduceEqDiff]; exact stores_point (get_new w1 (.cells #[.int .i64 0, .int .i64 0] 38)) p.f0 p.f1) ?_
    have hp : ((w1.alloc (.cells #[.int .i64 0, .int .i64 0] 38)).putObj w1.heap.size (.cells #[.int .i64 p.f0, .int .i64 p.f1] 38 (0, 0))).heap[w1.heap.size]? = some (.cells #[.int .i64 p.f0, .int .i64 p.f1] 38 (0, 0)) := get_put_same (get_new w1 _) _
    have hch : Chg nil_ w1 ((w1.alloc (.cells #[.int .i64 0, .int .i64 0] 38)).putObj w1.heap.size (.cells #[.int .i64 p.f0, .int .i64 p.f1] 38 (0, 0))) := ((Chg.refl nil_ w1).alloc _).put (.inr (Nat.le_refl _)) _
    revert hp hch
    generalize (w1.alloc (.cells #[.int .i64 0, .int .i64 0] 38)).putObj w1.heap.size (.cells #[.int .i64 p.f0, .int .i64 p.f1] 38 (0, 0)) = w2
    intro hp hch
    (repeat (first | (with_reducible refine X_seq_k ?_; intro K hK) | with_reducible refine X_block ?_ | with_reducible refine X_scope ?_ | with_reducible refine nogo_n ?_ | with_reducible refine nogo_e ?_ | with_reducible refine nogo_r ?_ | with_reducible refine X_region ?_ | with_reducible refine X_skip ?_ | with_reducible refine X_label ?_ | with_reducible refine X_ret ?_ | with_reducible refine X_exit ?_ | with_reducible refine then_n ?_ | with_reducible refine then_e ?_ | with_reducible refine then_r ?_ | with_reducible refine inb_n ?_ | with_reducible refine inb_r ?_ | with_reducible refine inb_e rfl ?_ | with_reducible refine inb_x rfl ?_ | with_reducible refine XL_nil ?_ | with_reducible refine go_k (by assumption) ?_))
    refine XL_field hF Try.underlying38 rfl hi3 (by rw [hs3]; decide) (b := w1.heap.size) (off := 0) (by simp [xv, upd, updO]) ?_
    refine XL_load hF (a := ⟨w1.heap.size, 1, none⟩) (by simp [xv, upd, updO]) (loads_cell Try.underlying3 rfl hp rfl) ?_
    refine XL_call hF rfl E12 (mod_rets p.f1 _) (by simp [xv, upd, updO]) ?_
    rintro v w3 ⟨rfl, hd3⟩
    have hch3 : Chg nil_ w1 w3 := hch.trans (Chg.of_below (drawn_below hd3))
    have hp3 := (Chg.of_below (S := nil_) (drawn_below hd3)).get hp id
    refine XL_alloc hF hi3 hz3 ?_
    refine XL_alloc hF hi3 hz3 ?_
    simp only [cells_int]
    refine XL_store hF (a := ⟨w3.heap.size, 0, none⟩) (by simp [xv, upd, updO]) (by simp only [xv, upd, updO, reduceIte, Nat.reduceEqDiff]; exact stores_int (get_alloc (get_new w3 (.cells #[.int .i64 0] 3)) (.cells #[.int .i64 0] 3)) (p.f1 % 1073741789)) ?_
    refine XL_store hF (a := ⟨w3.heap.size + 1, 0, none⟩) (by simp [xv, upd, updO, size_alloc]) (by simp only [xv, upd, updO, reduceIte, Nat.reduceEqDiff]; exact stores_int (get_put_other (by have := get_new (w3.alloc (.cells #[.int .i64 0] 3)) (.cells #[.int .i64 0] 3); rwa [size_alloc] at this) (by omega) _) 1) ?_
    have hA4 : ((((w3.alloc (.cells #[.int .i64 0] 3)).alloc (.cells #[.int .i64 0] 3)).putObj w3.heap.size (.cells #[.int .i64 (p.f1 % 1073741789)] 3 (0, 0))).putObj (w3.heap.size + 1) (.cells #[.int .i64 1] 3 (0, 0))).heap[w3.heap.size]? = some (.cells #[.int .i64 (p.f1 % 1073741789)] 3 (0, 0)) :=
      get_put_other (get_put_same (get_alloc (get_new w3 _) _) _) (by omega) _
    have hB4 : ((((w3.alloc (.cells #[.int .i64 0] 3)).alloc (.cells #[.int .i64 0] 3)).putObj w3.heap.size (.cells #[.int .i64 (p.f1 % 1073741789)] 3 (0, 0))).putObj (w3.heap.size + 1) (.cells #[.int .i64 1] 3 (0, 0))).heap[w3.heap.size + 1]? = some (.cells #[.int .i64 1] 3 (0, 0)) :=
      get_put_same (get_put_other (by have := get_new (w3.alloc (.cells #[.int .i64 0] 3)) (.cells #[.int .i64 0] 3); rwa [size_alloc] at this) (by omega) _) _
    have hch4 : Chg nil_ w3 ((((w3.alloc (.cells #[.int .i64 0] 3)).alloc (.cells #[.int .i64 0] 3)).putObj w3.heap.size (.cells #[.int .i64 (p.f1 % 1073741789)] 3 (0, 0))).putObj (w3.heap.size + 1) (.cells #[.int .i64 1] 3 (0, 0))) :=
      ((((Chg.refl nil_ w3).alloc _).alloc _).put (.inr (Nat.le_refl _)) _).put (.inr (Nat.le_succ _)) _
    revert hA4 hB4 hch4
    generalize (((w3.alloc (.cells #[.int .i64 0] 3)).alloc (.cells #[.int .i64 0] 3)).putObj w3.heap.size (.cells #[.int .i64 (p.f1 % 1073741789)] 3 (0, 0))).putObj (w3.heap.size + 1) (.cells #[.int .i64 1] 3 (0, 0)) = w4
    intro hA4 hB4 hch4
    have hp4 := hch4.get hp3 id
    have hsz1 := get_lt hat
    have hsz3 := hch3.size
    have hszp := get_lt hp3
    generalize hbA : w3.heap.size = bA at *
    generalize hb10 : w1.heap.size = b10 at *
    (repeat (first | (with_reducible refine X_seq_k ?_; intro K hK) | with_reducible refine X_block ?_ | with_reducible refine X_scope ?_ | with_reducible refine nogo_n ?_ | with_reducible refine nogo_e ?_ | with_reducible refine nogo_r ?_ | with_reducible refine X_region ?_ | with_reducible refine X_skip ?_ | with_reducible refine X_label ?_ | with_reducible refine X_ret ?_ | with_reducible refine X_exit ?_ | with_reducible refine then_n ?_ | with_reducible refine then_e ?_ | with_reducible refine then_r ?_ | with_reducible refine inb_n ?_ | with_reducible refine inb_r ?_ | with_reducible refine inb_e rfl ?_ | with_reducible refine inb_x rfl ?_ | with_reducible refine XL_nil ?_ | with_reducible refine go_k (by assumption) ?_))
    (refine XL_plain hF _ _ ?_; simp only [plainRun, plain, bin, intBin, un, xv, updO, upd_apply, Option.bind_some, reduceIte, Nat.reduceLT, Nat.reduceEqDiff, reduceCtorEq, List.getElem?_toArray, List.getElem?_cons_zero, List.getElem?_cons_succ, Int.reduceEq, BEq.rfl, Bool.not_true, Bool.not_false, r0])
    refine XL_call hF rfl E27 (others_rets (.slice A0 l0.length c0) i (by simp [Value.cells]) _) (by simp [xv, upd, r0]) ?_
    rintro v w5 ⟨rfl, rfl⟩
    (repeat (first | (with_reducible refine X_seq_k ?_; intro K hK) | with_reducible refine X_block ?_ | with_reducible refine X_scope ?_ | with_reducible refine nogo_n ?_ | with_reducible refine nogo_e ?_ | with_reducible refine nogo_r ?_ | with_reducible refine X_region ?_ | with_reducible refine X_skip ?_ | with_reducible refine X_label ?_ | with_reducible refine X_ret ?_ | with_reducible refine X_exit ?_ | with_reducible refine then_n ?_ | with_reducible refine then_e ?_ | with_reducible refine then_r ?_ | with_reducible refine inb_n ?_ | with_reducible refine inb_r ?_ | with_reducible refine inb_e rfl ?_ | with_reducible refine inb_x rfl ?_ | with_reducible refine XL_nil ?_ | with_reducible refine go_k (by assumption) ?_))
    refine X_range hF rfl rfl (gf := 28) (by simp only [xv, upd, updO, reduceIte, Nat.reduceEqDiff]; rfl) E28 ?_
    intro fn
    have hat4 : w4.heap[w.heap.size]? = some (.cells #[.int .i64 a1] 3 (0, 0)) := hch4.get (hch3.get hat id) id
    have hszB := get_lt hB4
    have hch5 : Chg nil_ w4 ((w4.alloc (.cells #[.slice A0 l0.length c0] 30)).alloc (.cells #[.int .i64 i] 3)) := ((Chg.refl nil_ w4).alloc _).alloc _
    have hx1 : ((w4.alloc (.cells #[.slice A0 l0.length c0] 30)).alloc (.cells #[.int .i64 i] 3)).heap[w4.heap.size]? = some (.cells #[.slice A0 l0.length c0] 30 (0, 0)) := get_alloc (get_new _ _) _
    have hx2 : ((w4.alloc (.cells #[.slice A0 l0.length c0] 30)).alloc (.cells #[.int .i64 i] 3)).heap[w4.heap.size + 1]? = some (.cells #[.int .i64 i] 3 (0, 0)) := by
      have := get_new (w4.alloc (.cells #[.slice A0 l0.length c0] 30)) (.cells #[.int .i64 i] 3); rwa [size_alloc] at this
    have hsz5 : ((w4.alloc (.cells #[.slice A0 l0.length c0] 30)).alloc (.cells #[.int .i64 i] 3)).heap.size = w4.heap.size + 2 := by simp
    revert hch5 hx1 hx2 hsz5
    generalize (w4.alloc (.cells #[.slice A0 l0.length c0] 30)).alloc (.cells #[.int .i64 i] 3) = w5
    intro hch5 hx1 hx2 hsz5
    generalize hrec : ({ state := .ready, pending := none, fn := fn, tmps := _, params := _, assign := _, body := _, defers := w5.heap.size } : Loop) = rec
    have hD1 : ((w5.alloc (.deferred (some []))).alloc (.loop rec)).heap[w5.heap.size]? = some (.deferred (some [])) := get_alloc (get_new _ _) _
    have hl1 : ((w5.alloc (.deferred (some []))).alloc (.loop rec)).heap[w5.heap.size + 1]? = some (.loop rec) := by
      have := get_new (w5.alloc (.deferred (some []))) (.loop rec); rwa [size_alloc] at this
    have hch6 : Chg nil_ w5 ((w5.alloc (.deferred (some []))).alloc (.loop rec)) := ((Chg.refl nil_ w5).alloc _).alloc _
    revert hD1 hl1 hch6
    generalize (w5.alloc (.deferred (some []))).alloc (.loop rec) = W1
    intro hD1 hl1 hch6
    generalize hD : w5.heap.size = D at *
    have hWA := hch6.get (hch5.get hA4 id) id
    have hWB := hch6.get (hch5.get hB4 id) id
    have hWat := hch6.get (hch5.get hat4 id) id
    have hWp := hch6.get (hch5.get hp4 id) id
    have hW1 := hch6.get hx1 id
    have hW2 := hch6.get hx2 id
    have hcW : Chg nil_ w1 W1 := ((hch3.trans hch4).trans hch5).trans hch6
    have hlW := get_lt hl1
    have hab : bA ≠ bA + 1 := by omega
    have hy : ∀ (k : Nat) (W : World), k < l0.length → k ≠ i → (Chg (fun b => b = bA ∨ b = bA + 1) W1 W ∧ W.heap[bA]? = some (.cells #[.int .i64 (ab a1 p i (l0.take k)).1] 3 (0, 0)) ∧ W.heap[bA + 1]? = some (.cells #[.int .i64 (ab a1 p i (l0.take k)).2] 3 (0, 0))) →
        YieldC .wide Try.prog (D + 1) #[.agg #[.int .i64 (l0.getD k z38).f0, .int .i64 (l0.getD k z38).f1]] W fun b W' => b = true ∧ (Chg (fun b => b = bA ∨ b = bA + 1) W1 W' ∧ W'.heap[bA]? = some (.cells #[.int .i64 (ab a1 p i (l0.take (k + 1))).1] 3 (0, 0)) ∧ W'.heap[bA + 1]? = some (.cells #[.int .i64 (ab a1 p i (l0.take (k + 1))).2] 3 (0, 0))) := by
      rintro k W hkl hki ⟨hJc, hJA, hJB⟩
      have habs := ab_snoc a1 p i l0 k hkl
      generalize l0.getD k z38 = q at habs
      rw [abStep, if_neg hki] at habs
      have hlW2 : W.heap[D + 1]? = some (.loop rec) := hJc.get hl1 (by simp; omega)
      subst hrec
      refine yieldC_of hF hlW2 rfl rfl rfl ?_
      have hF : Wide (Fence.wide.inRound (D + 1)) := hF.inRound (D + 1)
      have hG := hF
      dsimp only
      (repeat (first | (with_reducible refine X_seq_k ?_; intro K hK) | with_reducible refine X_block ?_ | with_reducible refine X_scope ?_ | with_reducible refine nogo_n ?_ | with_reducible refine nogo_e ?_ | with_reducible refine nogo_r ?_ | with_reducible refine X_region ?_ | with_reducible refine X_skip ?_ | with_reducible refine X_label ?_ | with_reducible refine X_ret ?_ | with_reducible refine X_exit ?_ | with_reducible refine then_n ?_ | with_reducible refine then_e ?_ | with_reducible refine then_r ?_ | with_reducible refine inb_n ?_ | with_reducible refine inb_r ?_ | with_reducible refine inb_e rfl ?_ | with_reducible refine inb_x rfl ?_ | with_reducible refine XL_nil ?_ | with_reducible refine go_k (by assumption) ?_))
      have hWs := get_lt hlW2
      refine XL_alloc hG hi38 hz38 ?_
      (refine XL_plain hF _ _ ?_; simp only [plainRun, plain, bin, intBin, un, xv, updO, upd_apply, Option.bind_some, reduceIte, Nat.reduceLT, Nat.reduceEqDiff, reduceCtorEq, List.getElem?_toArray, List.getElem?_cons_zero, List.getElem?_cons_succ, Int.reduceEq, BEq.rfl, Bool.not_true, Bool.not_false, Value.cells])
      refine XL_store hG (a := ⟨W.heap.size, 0, none⟩) (by simp [xv, upd]) (by simp only [xv, upd, updL, List.zip, List.zipWith, reduceIte, Nat.reduceEqDiff]; exact stores_point (get_new W (.cells #[.int .i64 0, .int .i64 0] 38)) q.f0 q.f1) ?_
      have hq : ((W.alloc (.cells #[.int .i64 0, .int .i64 0] 38)).putObj W.heap.size (.cells #[.int .i64 q.f0, .int .i64 q.f1] 38 (0, 0))).heap[W.heap.size]? = some (.cells #[.int .i64 q.f0, .int .i64 q.f1] 38 (0, 0)) := get_put_same (get_new W _) _
      have hchq : Chg nil_ W ((W.alloc (.cells #[.int .i64 0, .int .i64 0] 38)).putObj W.heap.size (.cells #[.int .i64 q.f0, .int .i64 q.f1] 38 (0, 0))) := ((Chg.refl nil_ W).alloc _).put (.inr (Nat.le_refl _)) _
      revert hq hchq
      generalize (W.alloc (.cells #[.int .i64 0, .int .i64 0] 38)).putObj W.heap.size (.cells #[.int .i64 q.f0, .int .i64 q.f1] 38 (0, 0)) = X1
      intro hq hchq
      (repeat (first | (with_reducible refine X_seq_k ?_; intro K hK) | with_reducible refine X_block ?_ | with_reducible refine X_scope ?_ | with_reducible refine nogo_n ?_ | with_reducible refine nogo_e ?_ | with_reducible refine nogo_r ?_ | with_reducible refine X_region ?_ | with_reducible refine X_skip ?_ | with_reducible refine X_label ?_ | with_reducible refine X_ret ?_ | with_reducible refine X_exit ?_ | with_reducible refine then_n ?_ | with_reducible refine then_e ?_ | with_reducible refine then_r ?_ | with_reducible refine inb_n ?_ | with_reducible refine inb_r ?_ | with_reducible refine inb_e rfl ?_ | with_reducible refine inb_x rfl ?_ | with_reducible refine XL_nil ?_ | with_reducible refine go_k (by assumption) ?_))
      refine ⟨hchq.get hlW2 id, ?_⟩
      dsimp only
      (repeat (first | (with_reducible refine X_seq_k ?_; intro K hK) | with_reducible refine X_block ?_ | with_reducible refine X_scope ?_ | with_reducible refine nogo_n ?_ | with_reducible refine nogo_e ?_ | with_reducible refine nogo_r ?_ | with_reducible refine X_region ?_ | with_reducible refine X_skip ?_ | with_reducible refine X_label ?_ | with_reducible refine X_ret ?_ | with_reducible refine X_exit ?_ | with_reducible refine then_n ?_ | with_reducible refine then_e ?_ | with_reducible refine then_r ?_ | with_reducible refine inb_n ?_ | with_reducible refine inb_r ?_ | with_reducible refine inb_e rfl ?_ | with_reducible refine inb_x rfl ?_ | with_reducible refine XL_nil ?_ | with_reducible refine go_k (by assumption) ?_))
      generalize hob : Obj.loop { state := .busy, pending := none, fn := fn, tmps := _, params := _, assign := _, body := _, defers := D } = ob
      have hWl : (X1.putObj (D + 1) ob).heap[D + 1]? = some ob := get_put_same (hchq.get hlW2 id) _
      have hsX1 := hchq.size
      have hqs := get_lt hq
      have hbAt := get_put_other (b := D + 1) (hchq.get (hJc.get hWat (by simp; omega)) id) (by omega) ob
      have hb10' := get_put_other (b := D + 1) (hchq.get (hJc.get hWp (by simp; omega)) id) (by omega) ob
      have hb13 := get_put_other (b := D + 1) hq (by omega) ob
      have hXA := get_put_other (b := D + 1) (hchq.get hJA id) (by omega) ob
      have hXB := get_put_other (b := D + 1) (hchq.get hJB id) (by omega) ob
      have hcX : Chg (fun b => (b = bA ∨ b = bA + 1) ∨ b = D + 1) W1 (X1.putObj (D + 1) ob) := ((hJc.mono (fun _ _ h => .inl h)).trans (hchq.mono (fun _ _ h => h.elim))).put (.inl (.inr rfl)) _
      have hszX : (X1.putObj (D + 1) ob).heap.size = X1.heap.size := size_put ..
      revert hWl hbAt hb10' hb13 hXA hXB hcX hszX
      generalize X1.putObj (D + 1) ob = W2
      intro hWl hbAt hb10 hb13 hXA hXB hcX hszX
      have hqx : ∀ x : Int, 0 ≤ x % 1073741789 ∧ x % 1073741789 < 1073741789 := fun x => ⟨Int.emod_nonneg x (by omega), Int.emod_lt_of_pos x (by omega)⟩
      have hneg : IntKind.i64.wrap (-(q.f0 % 1073741789)) = -(q.f0 % 1073741789) := wrap64_in (by have := hqx q.f0; omega) (by have := hqx q.f0; omega)
      have hsub := fun a => hsub_at a q.f0
      have hba : w.heap.size ≠ bA ∧ w.heap.size ≠ bA + 1 ∧ b10 ≠ bA ∧ b10 ≠ bA + 1 ∧ W.heap.size ≠ bA ∧ W.heap.size ≠ bA + 1 := by omega
      obtain ⟨hba1, hba2, hba3, hba4, hba5, hba6⟩ := hba
      generalize W.heap.size = b13 at *
      generalize w.heap.size = bAt at *
      generalize hbB : bA + 1 = bB at *
      have hbsz : bA < W2.heap.size ∧ bB < W2.heap.size := by omega
      generalize hnab : (ab a1 p i (l0.take (k + 1))) = nab at *
      generalize (ab a1 p i (l0.take k)) = oab at *
      obtain ⟨px, py⟩ := p
      obtain ⟨qx, qy⟩ := q
      obtain ⟨oA, oB⟩ := oab
      obtain ⟨nA, nB⟩ := nab
      simp only [Prod.mk.injEq] at habs
      obtain ⟨rfl, rfl⟩ := habs
      simp only at *
      generalize hQ : InB 5 _ = Q
      refine X_region_closed hF (by kernel_rfl) (by decide +kernel) (AtI W2 bAt b10 b13 bA bB oA oB (oA * ((a1 - qx) % 1073741789) % 1073741789) (oB * ((px - qx) % 1073741789) % 1073741789) a1 px qx) ?_ ?_ ?_
      · refine ⟨rfl, by simp [upd, updO, updL, r3], by simp [upd, updO, updL], by simp [upd, updO, updL], by simp [upd, updO, updL, size_alloc, hbA, hbB], by simp [upd, updO, updL], (Chg.refl _ _).drewN 1, by simpa using hXA, by simpa using hXB, ?_, ?_, ?_⟩ <;> simp
      · intro i' o hi' ho b ρ' ds' w' hI hb hd hcl K hK
        match i', hi' with
        | 0, _ =>
          simp only [List.getElem?_toArray, List.getElem?_cons_succ, List.getElem?_cons_zero, Option.some.injEq, Nat.zero_add] at ho
          subst ho
          have h19 : b 19 = false := Bool.eq_false_iff.2 fun h => by rw [hcl 8 (hcl 19 h 8 (by decide +kernel)) 0 (by decide +kernel)] at hb; cases hb
          have hx := hI.hA; rw [h19, if_neg (by simp)] at hx
          refine XL_load hF (a := ⟨bA, 0, none⟩) (by simp [xv, hI.r11]) (loads_box Try.underlying3 rfl hx) ?_
          (repeat (first | (with_reducible refine X_seq_k ?_; intro K hK) | with_reducible refine X_block ?_ | with_reducible refine X_scope ?_ | with_reducible refine nogo_n ?_ | with_reducible refine nogo_e ?_ | with_reducible refine nogo_r ?_ | with_reducible refine X_region ?_ | with_reducible refine X_skip ?_ | with_reducible refine X_label ?_ | with_reducible refine X_ret ?_ | with_reducible refine X_exit ?_ | with_reducible refine then_n ?_ | with_reducible refine then_e ?_ | with_reducible refine then_r ?_ | with_reducible refine inb_n ?_ | with_reducible refine inb_r ?_ | with_reducible refine inb_e rfl ?_ | with_reducible refine inb_x rfl ?_ | with_reducible refine XL_nil ?_ | with_reducible refine go_k (by assumption) ?_))
          exact hI.step (i := 0) rfl (Chg.refl _ _)
        | 1, _ =>
          simp only [List.getElem?_toArray, List.getElem?_cons_succ, List.getElem?_cons_zero, Option.some.injEq, Nat.zero_add] at ho
          subst ho
          have hx := hI.chg.get hbAt (by simp; omega)
          refine XL_load hF (a := ⟨bAt, 0, none⟩) (by simp [xv, hI.r3]) (loads_box Try.underlying3 rfl hx) ?_
          (repeat (first | (with_reducible refine X_seq_k ?_; intro K hK) | with_reducible refine X_block ?_ | with_reducible refine X_scope ?_ | with_reducible refine nogo_n ?_ | with_reducible refine nogo_e ?_ | with_reducible refine nogo_r ?_ | with_reducible refine X_region ?_ | with_reducible refine X_skip ?_ | with_reducible refine X_label ?_ | with_reducible refine X_ret ?_ | with_reducible refine X_exit ?_ | with_reducible refine then_n ?_ | with_reducible refine then_e ?_ | with_reducible refine then_r ?_ | with_reducible refine inb_n ?_ | with_reducible refine inb_r ?_ | with_reducible refine inb_e rfl ?_ | with_reducible refine inb_x rfl ?_ | with_reducible refine XL_nil ?_ | with_reducible refine go_k (by assumption) ?_))
          exact hI.step (i := 1) rfl (Chg.refl _ _)
        | 2, _ =>
          simp only [List.getElem?_toArray, List.getElem?_cons_succ, List.getElem?_cons_zero, Option.some.injEq, Nat.zero_add] at ho
          subst ho
          refine XL_field hF Try.underlying38 rfl hi3 (by rw [hs3]; decide) (b := b13) (off := 0) (by simp [xv, hI.r13]) ?_
          (repeat (first | (with_reducible refine X_seq_k ?_; intro K hK) | with_reducible refine X_block ?_ | with_reducible refine X_scope ?_ | with_reducible refine nogo_n ?_ | with_reducible refine nogo_e ?_ | with_reducible refine nogo_r ?_ | with_reducible refine X_region ?_ | with_reducible refine X_skip ?_ | with_reducible refine X_label ?_ | with_reducible refine X_ret ?_ | with_reducible refine X_exit ?_ | with_reducible refine then_n ?_ | with_reducible refine then_e ?_ | with_reducible refine then_r ?_ | with_reducible refine inb_n ?_ | with_reducible refine inb_r ?_ | with_reducible refine inb_e rfl ?_ | with_reducible refine inb_x rfl ?_ | with_reducible refine XL_nil ?_ | with_reducible refine go_k (by assumption) ?_))
          exact hI.step (i := 2) rfl (Chg.refl _ _)
        | 3, _ =>
          simp only [List.getElem?_toArray, List.getElem?_cons_succ, List.getElem?_cons_zero, Option.some.injEq, Nat.zero_add] at ho
          subst ho
          have hp := hI.val 2 _ (hd 2 (by decide +kernel)) rfl
          refine XL_load hF (a := ⟨b13, 0, none⟩) (by simp [xv, hp]) (loads_cell Try.underlying3 rfl (hI.chg.get hb13 (by simp; omega)) rfl) ?_
          (repeat (first | (with_reducible refine X_seq_k ?_; intro K hK) | with_reducible refine X_block ?_ | with_reducible refine X_scope ?_ | with_reducible refine nogo_n ?_ | with_reducible refine nogo_e ?_ | with_reducible refine nogo_r ?_ | with_reducible refine X_region ?_ | with_reducible refine X_skip ?_ | with_reducible refine X_label ?_ | with_reducible refine X_ret ?_ | with_reducible refine X_exit ?_ | with_reducible refine then_n ?_ | with_reducible refine then_e ?_ | with_reducible refine then_r ?_ | with_reducible refine inb_n ?_ | with_reducible refine inb_r ?_ | with_reducible refine inb_e rfl ?_ | with_reducible refine inb_x rfl ?_ | with_reducible refine XL_nil ?_ | with_reducible refine go_k (by assumption) ?_))
          exact hI.step (i := 3) rfl (Chg.refl _ _)
        | 4, _ =>
          simp only [List.getElem?_toArray, List.getElem?_cons_succ, List.getElem?_cons_zero, Option.some.injEq, Nat.zero_add] at ho
          subst ho
          have hp := hI.val 3 _ (hd 3 (by decide +kernel)) rfl
          refine XL_call hF rfl E12 (mod_rets qx _) (by simp [xv, hp]) ?_
          rintro v w1 ⟨rfl, hd1⟩
          (repeat (first | (with_reducible refine X_seq_k ?_; intro K hK) | with_reducible refine X_block ?_ | with_reducible refine X_scope ?_ | with_reducible refine nogo_n ?_ | with_reducible refine nogo_e ?_ | with_reducible refine nogo_r ?_ | with_reducible refine X_region ?_ | with_reducible refine X_skip ?_ | with_reducible refine X_label ?_ | with_reducible refine X_ret ?_ | with_reducible refine X_exit ?_ | with_reducible refine then_n ?_ | with_reducible refine then_e ?_ | with_reducible refine then_r ?_ | with_reducible refine inb_n ?_ | with_reducible refine inb_r ?_ | with_reducible refine inb_e rfl ?_ | with_reducible refine inb_x rfl ?_ | with_reducible refine XL_nil ?_ | with_reducible refine go_k (by assumption) ?_))
          exact hI.step (i := 4) rfl (Chg.of_below (drawn_below hd1))
        | 5, _ =>
          simp only [List.getElem?_toArray, List.getElem?_cons_succ, List.getElem?_cons_zero, Option.some.injEq, Nat.zero_add] at ho
          subst ho
          have hp : ρ' (50 + 4) = .int .i64 (qx % 1073741789) := hI.val 4 _ (hd 4 (by decide +kernel)) rfl
          simp only [Nat.reduceAdd] at hp
          (refine XL_plain hF _ _ ?_; simp only [plainRun, plain, bin, intBin, un, xv, updO, upd_apply, Option.bind_some, reduceIte, Nat.reduceLT, Nat.reduceEqDiff, reduceCtorEq, List.getElem?_toArray, List.getElem?_cons_zero, List.getElem?_cons_succ, Int.reduceEq, BEq.rfl, Bool.not_true, Bool.not_false, hp, hneg, Int.zero_sub])
          (repeat (first | (with_reducible refine X_seq_k ?_; intro K hK) | with_reducible refine X_block ?_ | with_reducible refine X_scope ?_ | with_reducible refine nogo_n ?_ | with_reducible refine nogo_e ?_ | with_reducible refine nogo_r ?_ | with_reducible refine X_region ?_ | with_reducible refine X_skip ?_ | with_reducible refine X_label ?_ | with_reducible refine X_ret ?_ | with_reducible refine X_exit ?_ | with_reducible refine then_n ?_ | with_reducible refine then_e ?_ | with_reducible refine then_r ?_ | with_reducible refine inb_n ?_ | with_reducible refine inb_r ?_ | with_reducible refine inb_e rfl ?_ | with_reducible refine inb_x rfl ?_ | with_reducible refine XL_nil ?_ | with_reducible refine go_k (by assumption) ?_))
          exact hI.step (i := 5) rfl (Chg.refl _ _)
        | 6, _ =>
          simp only [List.getElem?_toArray, List.getElem?_cons_succ, List.getElem?_cons_zero, Option.some.injEq, Nat.zero_add] at ho
          subst ho
          have hp := hI.val 1 _ (hd 1 (by decide +kernel)) rfl
          have hp2 := hI.val 5 _ (hd 5 (by decide +kernel)) rfl
          refine XL_buildSlice hF (e := 3) (v := .slice (some ⟨w'.heap.size, 0, none⟩) 2 2) (by simpa [xv, hp, hp2] using build_two a1 (-(qx % 1073741789)) w') ?_
          (repeat (first | (with_reducible refine X_seq_k ?_; intro K hK) | with_reducible refine X_block ?_ | with_reducible refine X_scope ?_ | with_reducible refine nogo_n ?_ | with_reducible refine nogo_e ?_ | with_reducible refine nogo_r ?_ | with_reducible refine X_region ?_ | with_reducible refine X_skip ?_ | with_reducible refine X_label ?_ | with_reducible refine X_ret ?_ | with_reducible refine X_exit ?_ | with_reducible refine then_n ?_ | with_reducible refine then_e ?_ | with_reducible refine then_r ?_ | with_reducible refine inb_n ?_ | with_reducible refine inb_r ?_ | with_reducible refine inb_e rfl ?_ | with_reducible refine inb_x rfl ?_ | with_reducible refine XL_nil ?_ | with_reducible refine go_k (by assumption) ?_))
          exact hI.slice6
        | 7, _ =>
          simp only [List.getElem?_toArray, List.getElem?_cons_succ, List.getElem?_cons_zero, Option.some.injEq, Nat.zero_add] at ho
          subst ho
          obtain ⟨g, -, hp, hg⟩ := hI.s6 (hd 6 (by decide +kernel))
          refine XL_call hF rfl E26 (sum_rets a1 (-(qx % 1073741789)) _ g hg) (by simp [xv, hp]) ?_
          rintro v w1 ⟨rfl, hd1⟩
          (repeat (first | (with_reducible refine X_seq_k ?_; intro K hK) | with_reducible refine X_block ?_ | with_reducible refine X_scope ?_ | with_reducible refine nogo_n ?_ | with_reducible refine nogo_e ?_ | with_reducible refine nogo_r ?_ | with_reducible refine X_region ?_ | with_reducible refine X_skip ?_ | with_reducible refine X_label ?_ | with_reducible refine X_ret ?_ | with_reducible refine X_exit ?_ | with_reducible refine then_n ?_ | with_reducible refine then_e ?_ | with_reducible refine then_r ?_ | with_reducible refine inb_n ?_ | with_reducible refine inb_r ?_ | with_reducible refine inb_e rfl ?_ | with_reducible refine inb_x rfl ?_ | with_reducible refine XL_nil ?_ | with_reducible refine go_k (by assumption) ?_))
          rw [hsub a1]
          exact hI.step (i := 7) rfl (Chg.of_below (drawn_below hd1))
        | 8, _ =>
          simp only [List.getElem?_toArray, List.getElem?_cons_succ, List.getElem?_cons_zero, Option.some.injEq, Nat.zero_add] at ho
          subst ho
          have hp := hI.val 0 _ (hd 0 (by decide +kernel)) rfl
          have hp2 := hI.val 7 _ (hd 7 (by decide +kernel)) rfl
          refine XL_call hF rfl E16 (mul_rets oA ((a1 - qx) % 1073741789) _) (by simp [xv, hp, hp2]) ?_
          rintro v w1 ⟨rfl, hd1⟩
          (repeat (first | (with_reducible refine X_seq_k ?_; intro K hK) | with_reducible refine X_block ?_ | with_reducible refine X_scope ?_ | with_reducible refine nogo_n ?_ | with_reducible refine nogo_e ?_ | with_reducible refine nogo_r ?_ | with_reducible refine X_region ?_ | with_reducible refine X_skip ?_ | with_reducible refine X_label ?_ | with_reducible refine X_ret ?_ | with_reducible refine X_exit ?_ | with_reducible refine then_n ?_ | with_reducible refine then_e ?_ | with_reducible refine then_r ?_ | with_reducible refine inb_n ?_ | with_reducible refine inb_r ?_ | with_reducible refine inb_e rfl ?_ | with_reducible refine inb_x rfl ?_ | with_reducible refine XL_nil ?_ | with_reducible refine go_k (by assumption) ?_))
          exact hI.step (i := 8) rfl (Chg.of_below (drawn_below hd1))
        | 9, _ =>
          simp only [List.getElem?_toArray, List.getElem?_cons_succ, List.getElem?_cons_zero, Option.some.injEq, Nat.zero_add] at ho
          subst ho
          have h20 : b 20 = false := Bool.eq_false_iff.2 fun h => by rw [hcl 18 (hcl 20 h 18 (by decide +kernel)) 9 (by decide +kernel)] at hb; cases hb
          have hx := hI.hB; rw [h20, if_neg (by simp)] at hx
          refine XL_load hF (a := ⟨bB, 0, none⟩) (by simp [xv, hI.r12]) (loads_box Try.underlying3 rfl hx) ?_
          (repeat (first | (with_reducible refine X_seq_k ?_; intro K hK) | with_reducible refine X_block ?_ | with_reducible refine X_scope ?_ | with_reducible refine nogo_n ?_ | with_reducible refine nogo_e ?_ | with_reducible refine nogo_r ?_ | with_reducible refine X_region ?_ | with_reducible refine X_skip ?_ | with_reducible refine X_label ?_ | with_reducible refine X_ret ?_ | with_reducible refine X_exit ?_ | with_reducible refine then_n ?_ | with_reducible refine then_e ?_ | with_reducible refine then_r ?_ | with_reducible refine inb_n ?_ | with_reducible refine inb_r ?_ | with_reducible refine inb_e rfl ?_ | with_reducible refine inb_x rfl ?_ | with_reducible refine XL_nil ?_ | with_reducible refine go_k (by assumption) ?_))
          exact hI.step (i := 9) rfl (Chg.refl _ _)
        | 10, _ =>
          simp only [List.getElem?_toArray, List.getElem?_cons_succ, List.getElem?_cons_zero, Option.some.injEq, Nat.zero_add] at ho
          subst ho
          refine XL_field hF Try.underlying38 rfl hi3 (by rw [hs3]; decide) (b := b10) (off := 0) (by simp [xv, hI.r10]) ?_
          (repeat (first | (with_reducible refine X_seq_k ?_; intro K hK) | with_reducible refine X_block ?_ | with_reducible refine X_scope ?_ | with_reducible refine nogo_n ?_ | with_reducible refine nogo_e ?_ | with_reducible refine nogo_r ?_ | with_reducible refine X_region ?_ | with_reducible refine X_skip ?_ | with_reducible refine X_label ?_ | with_reducible refine X_ret ?_ | with_reducible refine X_exit ?_ | with_reducible refine then_n ?_ | with_reducible refine then_e ?_ | with_reducible refine then_r ?_ | with_reducible refine inb_n ?_ | with_reducible refine inb_r ?_ | with_reducible refine inb_e rfl ?_ | with_reducible refine inb_x rfl ?_ | with_reducible refine XL_nil ?_ | with_reducible refine go_k (by assumption) ?_))
          exact hI.step (i := 10) rfl (Chg.refl _ _)
        | 11, _ =>
          simp only [List.getElem?_toArray, List.getElem?_cons_succ, List.getElem?_cons_zero, Option.some.injEq, Nat.zero_add] at ho
          subst ho
          have hp := hI.val 10 _ (hd 10 (by decide +kernel)) rfl
          refine XL_load hF (a := ⟨b10, 0, none⟩) (by simp [xv, hp]) (loads_cell Try.underlying3 rfl (hI.chg.get hb10 (by simp; omega)) rfl) ?_
          (repeat (first | (with_reducible refine X_seq_k ?_; intro K hK) | with_reducible refine X_block ?_ | with_reducible refine X_scope ?_ | with_reducible refine nogo_n ?_ | with_reducible refine nogo_e ?_ | with_reducible refine nogo_r ?_ | with_reducible refine X_region ?_ | with_reducible refine X_skip ?_ | with_reducible refine X_label ?_ | with_reducible refine X_ret ?_ | with_reducible refine X_exit ?_ | with_reducible refine then_n ?_ | with_reducible refine then_e ?_ | with_reducible refine then_r ?_ | with_reducible refine inb_n ?_ | with_reducible refine inb_r ?_ | with_reducible refine inb_e rfl ?_ | with_reducible refine inb_x rfl ?_ | with_reducible refine XL_nil ?_ | with_reducible refine go_k (by assumption) ?_))
          exact hI.step (i := 11) rfl (Chg.refl _ _)
        | 12, _ =>
          simp only [List.getElem?_toArray, List.getElem?_cons_succ, List.getElem?_cons_zero, Option.some.injEq, Nat.zero_add] at ho
          subst ho
          refine XL_field hF Try.underlying38 rfl hi3 (by rw [hs3]; decide) (b := b13) (off := 0) (by simp [xv, hI.r13]) ?_
          (repeat (first | (with_reducible refine X_seq_k ?_; intro K hK) | with_reducible refine X_block ?_ | with_reducible refine X_scope ?_ | with_reducible refine nogo_n ?_ | with_reducible refine nogo_e ?_ | with_reducible refine nogo_r ?_ | with_reducible refine X_region ?_ | with_reducible refine X_skip ?_ | with_reducible refine X_label ?_ | with_reducible refine X_ret ?_ | with_reducible refine X_exit ?_ | with_reducible refine then_n ?_ | with_reducible refine then_e ?_ | with_reducible refine then_r ?_ | with_reducible refine inb_n ?_ | with_reducible refine inb_r ?_ | with_reducible refine inb_e rfl ?_ | with_reducible refine inb_x rfl ?_ | with_reducible refine XL_nil ?_ | with_reducible refine go_k (by assumption) ?_))
          exact hI.step (i := 12) rfl (Chg.refl _ _)
        | 13, _ =>
          simp only [List.getElem?_toArray, List.getElem?_cons_succ, List.getElem?_cons_zero, Option.some.injEq, Nat.zero_add] at ho
          subst ho
          have hp := hI.val 12 _ (hd 12 (by decide +kernel)) rfl
          refine XL_load hF (a := ⟨b13, 0, none⟩) (by simp [xv, hp]) (loads_cell Try.underlying3 rfl (hI.chg.get hb13 (by simp; omega)) rfl) ?_
          (repeat (first | (with_reducible refine X_seq_k ?_; intro K hK) | with_reducible refine X_block ?_ | with_reducible refine X_scope ?_ | with_reducible refine nogo_n ?_ | with_reducible refine nogo_e ?_ | with_reducible refine nogo_r ?_ | with_reducible refine X_region ?_ | with_reducible refine X_skip ?_ | with_reducible refine X_label ?_ | with_reducible refine X_ret ?_ | with_reducible refine X_exit ?_ | with_reducible refine then_n ?_ | with_reducible refine then_e ?_ | with_reducible refine then_r ?_ | with_reducible refine inb_n ?_ | with_reducible refine inb_r ?_ | with_reducible refine inb_e rfl ?_ | with_reducible refine inb_x rfl ?_ | with_reducible refine XL_nil ?_ | with_reducible refine go_k (by assumption) ?_))
          exact hI.step (i := 13) rfl (Chg.refl _ _)
        | 14, _ =>
          simp only [List.getElem?_toArray, List.getElem?_cons_succ, List.getElem?_cons_zero, Option.some.injEq, Nat.zero_add] at ho
          subst ho
          have hp := hI.val 13 _ (hd 13 (by decide +kernel)) rfl
          refine XL_call hF rfl E12 (mod_rets qx _) (by simp [xv, hp]) ?_
          rintro v w1 ⟨rfl, hd1⟩
          (repeat (first | (with_reducible refine X_seq_k ?_; intro K hK) | with_reducible refine X_block ?_ | with_reducible refine X_scope ?_ | with_reducible refine nogo_n ?_ | with_reducible refine nogo_e ?_ | with_reducible refine nogo_r ?_ | with_reducible refine X_region ?_ | with_reducible refine X_skip ?_ | with_reducible refine X_label ?_ | with_reducible refine X_ret ?_ | with_reducible refine X_exit ?_ | with_reducible refine then_n ?_ | with_reducible refine then_e ?_ | with_reducible refine then_r ?_ | with_reducible refine inb_n ?_ | with_reducible refine inb_r ?_ | with_reducible refine inb_e rfl ?_ | with_reducible refine inb_x rfl ?_ | with_reducible refine XL_nil ?_ | with_reducible refine go_k (by assumption) ?_))
          exact hI.step (i := 14) rfl (Chg.of_below (drawn_below hd1))
        | 15, _ =>
          simp only [List.getElem?_toArray, List.getElem?_cons_succ, List.getElem?_cons_zero, Option.some.injEq, Nat.zero_add] at ho
          subst ho
          have hp : ρ' (50 + 14) = .int .i64 (qx % 1073741789) := hI.val 14 _ (hd 14 (by decide +kernel)) rfl
          simp only [Nat.reduceAdd] at hp
          (refine XL_plain hF _ _ ?_; simp only [plainRun, plain, bin, intBin, un, xv, updO, upd_apply, Option.bind_some, reduceIte, Nat.reduceLT, Nat.reduceEqDiff, reduceCtorEq, List.getElem?_toArray, List.getElem?_cons_zero, List.getElem?_cons_succ, Int.reduceEq, BEq.rfl, Bool.not_true, Bool.not_false, hp, hneg, Int.zero_sub])
          (repeat (first | (with_reducible refine X_seq_k ?_; intro K hK) | with_reducible refine X_block ?_ | with_reducible refine X_scope ?_ | with_reducible refine nogo_n ?_ | with_reducible refine nogo_e ?_ | with_reducible refine nogo_r ?_ | with_reducible refine X_region ?_ | with_reducible refine X_skip ?_ | with_reducible refine X_label ?_ | with_reducible refine X_ret ?_ | with_reducible refine X_exit ?_ | with_reducible refine then_n ?_ | with_reducible refine then_e ?_ | with_reducible refine then_r ?_ | with_reducible refine inb_n ?_ | with_reducible refine inb_r ?_ | with_reducible refine inb_e rfl ?_ | with_reducible refine inb_x rfl ?_ | with_reducible refine XL_nil ?_ | with_reducible refine go_k (by assumption) ?_))
          exact hI.step (i := 15) rfl (Chg.refl _ _)
        | 16, _ =>
          simp only [List.getElem?_toArray, List.getElem?_cons_succ, List.getElem?_cons_zero, Option.some.injEq, Nat.zero_add] at ho
          subst ho
          have hp := hI.val 11 _ (hd 11 (by decide +kernel)) rfl
          have hp2 := hI.val 15 _ (hd 15 (by decide +kernel)) rfl
          refine XL_buildSlice hF (e := 3) (v := .slice (some ⟨w'.heap.size, 0, none⟩) 2 2) (by simpa [xv, hp, hp2] using build_two px (-(qx % 1073741789)) w') ?_
          (repeat (first | (with_reducible refine X_seq_k ?_; intro K hK) | with_reducible refine X_block ?_ | with_reducible refine X_scope ?_ | with_reducible refine nogo_n ?_ | with_reducible refine nogo_e ?_ | with_reducible refine nogo_r ?_ | with_reducible refine X_region ?_ | with_reducible refine X_skip ?_ | with_reducible refine X_label ?_ | with_reducible refine X_ret ?_ | with_reducible refine X_exit ?_ | with_reducible refine then_n ?_ | with_reducible refine then_e ?_ | with_reducible refine then_r ?_ | with_reducible refine inb_n ?_ | with_reducible refine inb_r ?_ | with_reducible refine inb_e rfl ?_ | with_reducible refine inb_x rfl ?_ | with_reducible refine XL_nil ?_ | with_reducible refine go_k (by assumption) ?_))
          exact hI.slice16
        | 17, _ =>
          simp only [List.getElem?_toArray, List.getElem?_cons_succ, List.getElem?_cons_zero, Option.some.injEq, Nat.zero_add] at ho
          subst ho
          obtain ⟨g, -, hp, hg⟩ := hI.s16 (hd 16 (by decide +kernel))
          refine XL_call hF rfl E26 (sum_rets px (-(qx % 1073741789)) _ g hg) (by simp [xv, hp]) ?_
          rintro v w1 ⟨rfl, hd1⟩
          (repeat (first | (with_reducible refine X_seq_k ?_; intro K hK) | with_reducible refine X_block ?_ | with_reducible refine X_scope ?_ | with_reducible refine nogo_n ?_ | with_reducible refine nogo_e ?_ | with_reducible refine nogo_r ?_ | with_reducible refine X_region ?_ | with_reducible refine X_skip ?_ | with_reducible refine X_label ?_ | with_reducible refine X_ret ?_ | with_reducible refine X_exit ?_ | with_reducible refine then_n ?_ | with_reducible refine then_e ?_ | with_reducible refine then_r ?_ | with_reducible refine inb_n ?_ | with_reducible refine inb_r ?_ | with_reducible refine inb_e rfl ?_ | with_reducible refine inb_x rfl ?_ | with_reducible refine XL_nil ?_ | with_reducible refine go_k (by assumption) ?_))
          rw [hsub px]
          exact hI.step (i := 17) rfl (Chg.of_below (drawn_below hd1))
        | 18, _ =>
          simp only [List.getElem?_toArray, List.getElem?_cons_succ, List.getElem?_cons_zero, Option.some.injEq, Nat.zero_add] at ho
          subst ho
          have hp := hI.val 9 _ (hd 9 (by decide +kernel)) rfl
          have hp2 := hI.val 17 _ (hd 17 (by decide +kernel)) rfl
          refine XL_call hF rfl E16 (mul_rets oB ((px - qx) % 1073741789) _) (by simp [xv, hp, hp2]) ?_
          rintro v w1 ⟨rfl, hd1⟩
          (repeat (first | (with_reducible refine X_seq_k ?_; intro K hK) | with_reducible refine X_block ?_ | with_reducible refine X_scope ?_ | with_reducible refine nogo_n ?_ | with_reducible refine nogo_e ?_ | with_reducible refine nogo_r ?_ | with_reducible refine X_region ?_ | with_reducible refine X_skip ?_ | with_reducible refine X_label ?_ | with_reducible refine X_ret ?_ | with_reducible refine X_exit ?_ | with_reducible refine then_n ?_ | with_reducible refine then_e ?_ | with_reducible refine then_r ?_ | with_reducible refine inb_n ?_ | with_reducible refine inb_r ?_ | with_reducible refine inb_e rfl ?_ | with_reducible refine inb_x rfl ?_ | with_reducible refine XL_nil ?_ | with_reducible refine go_k (by assumption) ?_))
          exact hI.step (i := 18) rfl (Chg.of_below (drawn_below hd1))
        | 19, _ =>
          simp only [List.getElem?_toArray, List.getElem?_cons_succ, List.getElem?_cons_zero, Option.some.injEq, Nat.zero_add] at ho
          subst ho
          have hp := hI.val 8 _ (hd 8 (by decide +kernel)) rfl
          refine XL_store hF (a := ⟨bA, 0, none⟩) (by simp [xv, hI.r11]) (by simpa [xv, hp] using stores_int hI.hA _) ?_
          (repeat (first | (with_reducible refine X_seq_k ?_; intro K hK) | with_reducible refine X_block ?_ | with_reducible refine X_scope ?_ | with_reducible refine nogo_n ?_ | with_reducible refine nogo_e ?_ | with_reducible refine nogo_r ?_ | with_reducible refine X_region ?_ | with_reducible refine X_skip ?_ | with_reducible refine X_label ?_ | with_reducible refine X_ret ?_ | with_reducible refine X_exit ?_ | with_reducible refine then_n ?_ | with_reducible refine then_e ?_ | with_reducible refine then_r ?_ | with_reducible refine inb_n ?_ | with_reducible refine inb_r ?_ | with_reducible refine inb_e rfl ?_ | with_reducible refine inb_x rfl ?_ | with_reducible refine XL_nil ?_ | with_reducible refine go_k (by assumption) ?_))
          exact hI.storeA hab (by omega)
        | 20, _ =>
          simp only [List.getElem?_toArray, List.getElem?_cons_succ, List.getElem?_cons_zero, Option.some.injEq, Nat.zero_add] at ho
          subst ho
          have hp := hI.val 18 _ (hd 18 (by decide +kernel)) rfl
          refine XL_store hF (a := ⟨bB, 0, none⟩) (by simp [xv, hI.r12]) (by simpa [xv, hp] using stores_int hI.hB _) ?_
          (repeat (first | (with_reducible refine X_seq_k ?_; intro K hK) | with_reducible refine X_block ?_ | with_reducible refine X_scope ?_ | with_reducible refine nogo_n ?_ | with_reducible refine nogo_e ?_ | with_reducible refine nogo_r ?_ | with_reducible refine X_region ?_ | with_reducible refine X_skip ?_ | with_reducible refine X_label ?_ | with_reducible refine X_ret ?_ | with_reducible refine X_exit ?_ | with_reducible refine then_n ?_ | with_reducible refine then_e ?_ | with_reducible refine then_r ?_ | with_reducible refine inb_n ?_ | with_reducible refine inb_r ?_ | with_reducible refine inb_e rfl ?_ | with_reducible refine inb_x rfl ?_ | with_reducible refine XL_nil ?_ | with_reducible refine go_k (by assumption) ?_))
          exact hI.storeB hab (by omega)
        | j + 21, hj => exact absurd (show j + 21 < 21 from hj) (by omega)
      · intro b ρ' ds' w' hall hI
        subst hQ
        subst hob
        (repeat (first | (with_reducible refine X_seq_k ?_; intro K hK) | with_reducible refine X_block ?_ | with_reducible refine X_scope ?_ | with_reducible refine nogo_n ?_ | with_reducible refine nogo_e ?_ | with_reducible refine nogo_r ?_ | with_reducible refine X_region ?_ | with_reducible refine X_skip ?_ | with_reducible refine X_label ?_ | with_reducible refine X_ret ?_ | with_reducible refine X_exit ?_ | with_reducible refine then_n ?_ | with_reducible refine then_e ?_ | with_reducible refine then_r ?_ | with_reducible refine inb_n ?_ | with_reducible refine inb_r ?_ | with_reducible refine inb_e rfl ?_ | with_reducible refine inb_x rfl ?_ | with_reducible refine XL_nil ?_ | with_reducible refine go_k (by assumption) ?_))
        have hAe := hI.hA; rw [hall 19 (by simp), if_pos rfl] at hAe
        have hBe := hI.hB; rw [hall 20 (by simp), if_pos rfl] at hBe
        have hDA : bA ≠ D + 1 ∧ bB ≠ D + 1 := by omega
        have hle := hI.chg.get hWl (by simp; omega)
        refine ⟨hle, rfl, Chg.fix (((hcX.trans (hI.chg.mono (fun _ _ h => .inl h))).put (.inl (.inr rfl)) _)) ?_, get_put_other hAe hDA.1 _, get_put_other hBe hDA.2 _⟩
        rw [hl1]
        exact get_put_same hle _
    have hwb := hbel.size
    have key := others1 hF rfl rfl (D + 1) A0 c0 l0 (by omega) i w4.heap.size (w4.heap.size + 1)
      (fun k W => Chg (fun b => b = bA ∨ b = bA + 1) W1 W ∧ W.heap[bA]? = some (.cells #[.int .i64 (ab a1 p i (l0.take k)).1] 3 (0, 0)) ∧ W.heap[bA + 1]? = some (.cells #[.int .i64 (ab a1 p i (l0.take k)).2] 3 (0, 0)))
      (fun k W ⟨hc, _, _⟩ => ⟨hc.get hW1 (by simp; omega), hc.get hW2 (by simp; omega), Kd.C_below hr0 ((((hbel.trans hcW).mono (fun _ _ h => h.elim)).trans hc).below (Nat.le_refl _) (by rintro k (rfl | rfl) <;> omega))⟩)
      (fun k W W' ⟨hc, h1, h2⟩ hb => ⟨hc.trans (Chg.of_below hb), (Chg.of_below (S := nil_) hb).get h1 id, (Chg.of_below (S := nil_) hb).get h2 id⟩)
      (fun W ⟨hc, h1, h2⟩ => by
        have := ab_snoc a1 p i l0 i hlt
        rw [abStep, if_pos rfl] at this
        rw [this]; exact ⟨hc, h1, h2⟩)
      hy W1 ⟨Chg.refl _ _, by simpa [ab] using hWA, by simpa [ab] using hWB⟩
    rw [List.take_length] at key
    have earr : ∀ a b c : Value, (#[a] ++ #[b, c] : Array Value) = #[a, b, c] := fun a b c => by simp
    rw [earr]
    refine CallsIn.mono key ?_
    rintro e W' ⟨v, rfl, hc, hA, hB⟩
    have hlW' := hc.get hl1 (by simp; omega)
    refine ⟨v, rfl, rec, hlW', by subst hrec; simp, ?_⟩
    have hpn : rec.pending = none := by subst hrec; rfl
    have h7A := get_put_other (b := D + 1) hA (by omega) (.loop { rec with state := .exhausted })
    have h7B := get_put_other (b := D + 1) hB (by omega) (.loop { rec with state := .exhausted })
    have h7D := get_put_other (b := D + 1) (hc.get hD1 (by simp; omega)) (by omega) (.loop { rec with state := .exhausted })
    have h7c : Chg nil_ w1 (W'.putObj (D + 1) (.loop { rec with state := .exhausted })) :=
      ⟨hc.os.trans hcW.os, hc.tape.trans hcW.tape, hc.output.trans hcW.output, by rw [size_put]; exact Nat.le_trans hcW.size hc.size, fun k hk _ => by
        rw [World.putObj_heap_other (by omega)]
        rw [hc.block k (by have := hcW.size; omega) (by simp; omega)]
        exact hcW.block k hk id⟩
    revert h7A h7B h7D h7c
    generalize W'.putObj (D + 1) (.loop { rec with state := .exhausted }) = w7
    intro h7A h7B h7D h7c
    rw [hpn]
    dsimp only
    clear key hy hrec hpn hlW' hl1
    clear rec
    (repeat (first | (with_reducible refine X_seq_k ?_; intro K hK) | with_reducible refine X_block ?_ | with_reducible refine X_scope ?_ | with_reducible refine nogo_n ?_ | with_reducible refine nogo_e ?_ | with_reducible refine nogo_r ?_ | with_reducible refine X_region ?_ | with_reducible refine X_skip ?_ | with_reducible refine X_label ?_ | with_reducible refine X_ret ?_ | with_reducible refine X_exit ?_ | with_reducible refine then_n ?_ | with_reducible refine then_e ?_ | with_reducible refine then_r ?_ | with_reducible refine inb_n ?_ | with_reducible refine inb_r ?_ | with_reducible refine inb_e rfl ?_ | with_reducible refine inb_x rfl ?_ | with_reducible refine XL_nil ?_ | with_reducible refine go_k (by assumption) ?_))
    refine XL_load hF (a := ⟨bA + 1, 0, none⟩) (by simp [xv, upd, updO, size_alloc, hbA]) (loads_box Try.underlying3 rfl h7B) ?_
    refine XL_call hF rfl E10 (inv_rets (ab a1 p i l0).2 _) (by simp [xv, upd, updO]) ?_
    rintro v8 w8 ⟨rfl, hd8⟩
    (refine XL_plain hF _ _ ?_; simp only [plainRun, plain, bin, intBin, un, xv, updO, upd_apply, Option.bind_some, reduceIte, Nat.reduceLT, Nat.reduceEqDiff, reduceCtorEq, List.getElem?_toArray, List.getElem?_cons_zero, List.getElem?_cons_succ, Int.reduceEq, BEq.rfl, Bool.not_true, Bool.not_false])
    (repeat (first | (with_reducible refine X_seq_k ?_; intro K hK) | with_reducible refine X_block ?_ | with_reducible refine X_scope ?_ | with_reducible refine nogo_n ?_ | with_reducible refine nogo_e ?_ | with_reducible refine nogo_r ?_ | with_reducible refine X_region ?_ | with_reducible refine X_skip ?_ | with_reducible refine X_label ?_ | with_reducible refine X_ret ?_ | with_reducible refine X_exit ?_ | with_reducible refine then_n ?_ | with_reducible refine then_e ?_ | with_reducible refine then_r ?_ | with_reducible refine inb_n ?_ | with_reducible refine inb_r ?_ | with_reducible refine inb_e rfl ?_ | with_reducible refine inb_x rfl ?_ | with_reducible refine XL_nil ?_ | with_reducible refine go_k (by assumption) ?_))
    (refine XL_plain hF _ _ ?_; simp only [plainRun, plain, bin, intBin, un, xv, updO, upd_apply, Option.bind_some, reduceIte, Nat.reduceLT, Nat.reduceEqDiff, reduceCtorEq, List.getElem?_toArray, List.getElem?_cons_zero, List.getElem?_cons_succ, Int.reduceEq, BEq.rfl, Bool.not_true, Bool.not_false, r4])
    have hch8 : Chg nil_ w7 w8 := Chg.of_below (drawn_below hd8)
    refine XL_load hF (a := ⟨bA, 0, none⟩) (by simp [xv, upd, updO]) (loads_box Try.underlying3 rfl (hch8.get h7A id)) ?_
    (refine XL_plain hF _ _ ?_; simp only [plainRun, plain, bin, intBin, un, xv, updO, upd_apply, Option.bind_some, reduceIte, Nat.reduceLT, Nat.reduceEqDiff, reduceCtorEq, List.getElem?_toArray, List.getElem?_cons_zero, List.getElem?_cons_succ, Int.reduceEq, BEq.rfl, Bool.not_true, Bool.not_false])
    refine XL_call hF rfl E16 (mul_rets (ab a1 p i l0).1 (inv (ab a1 p i l0).2) _) (by simp [xv, upd, updO]) ?_
    rintro v9 w9 ⟨rfl, hd9⟩
    refine XL_buildSlice hF (e := 3) (v := .slice (some ⟨w9.heap.size, 0, none⟩) 2 2) (by simpa [xv, upd, updO] using build_two (atSum a1 l0 (l0.take i).zipIdx) ((ab a1 p i l0).1 * inv (ab a1 p i l0).2 % 1073741789) w9) ?_
    refine XL_call hF rfl E26 (sum_rets (atSum a1 l0 (l0.take i).zipIdx) ((ab a1 p i l0).1 * inv (ab a1 p i l0).2 % 1073741789) _ w9.heap.size (get_new _ _)) (by simp [xv, upd, updO]) ?_
    rintro v10 w10 ⟨rfl, hd10⟩
    have hch9 : Chg nil_ w1 w10 := (((h7c.trans hch8).trans (Chg.of_below (drawn_below hd9))).alloc _).trans (Chg.of_below (drawn_below hd10))
    have hch79 : Chg nil_ w7 w10 := ((hch8.trans (Chg.of_below (drawn_below hd9))).alloc _).trans (Chg.of_below (drawn_below hd10))
    (refine XL_plain hF _ _ ?_; simp only [plainRun, plain, bin, intBin, un, xv, updO, upd_apply, Option.bind_some, reduceIte, Nat.reduceLT, Nat.reduceEqDiff, reduceCtorEq, List.getElem?_toArray, List.getElem?_cons_zero, List.getElem?_cons_succ, Int.reduceEq, BEq.rfl, Bool.not_true, Bool.not_false])
    (repeat (first | (with_reducible refine X_seq_k ?_; intro K hK) | with_reducible refine X_block ?_ | with_reducible refine X_scope ?_ | with_reducible refine nogo_n ?_ | with_reducible refine nogo_e ?_ | with_reducible refine nogo_r ?_ | with_reducible refine X_region ?_ | with_reducible refine X_skip ?_ | with_reducible refine X_label ?_ | with_reducible refine X_ret ?_ | with_reducible refine X_exit ?_ | with_reducible refine then_n ?_ | with_reducible refine then_e ?_ | with_reducible refine then_r ?_ | with_reducible refine inb_n ?_ | with_reducible refine inb_r ?_ | with_reducible refine inb_e rfl ?_ | with_reducible refine inb_x rfl ?_ | with_reducible refine XL_nil ?_ | with_reducible refine go_k (by assumption) ?_))
    (refine XL_plain hF _ _ ?_; simp only [plainRun, plain, bin, intBin, un, xv, updO, upd_apply, Option.bind_some, reduceIte, Nat.reduceLT, Nat.reduceEqDiff, reduceCtorEq, List.getElem?_toArray, List.getElem?_cons_zero, List.getElem?_cons_succ, Int.reduceEq, BEq.rfl, Bool.not_true, Bool.not_false, r38, wrap64_in (x := (i : Int) + 1) (by omega) (by omega)])
    (repeat (first | (with_reducible refine X_seq_k ?_; intro K hK) | with_reducible refine X_block ?_ | with_reducible refine X_scope ?_ | with_reducible refine nogo_n ?_ | with_reducible refine nogo_e ?_ | with_reducible refine nogo_r ?_ | with_reducible refine X_region ?_ | with_reducible refine X_skip ?_ | with_reducible refine X_label ?_ | with_reducible refine X_ret ?_ | with_reducible refine X_exit ?_ | with_reducible refine then_n ?_ | with_reducible refine then_e ?_ | with_reducible refine then_r ?_ | with_reducible refine inb_n ?_ | with_reducible refine inb_r ?_ | with_reducible refine inb_e rfl ?_ | with_reducible refine inb_x rfl ?_ | with_reducible refine XL_nil ?_ | with_reducible refine go_k (by assumption) ?_))
    rw [atStep] at hsn
    simp only at hsn
    refine ⟨(i + 1, D :: Ds), ⟨by simp [upd, r0], by simp [upd, r3], by simp [upd, hsn], by simp [upd, r36], by simp [upd, r37], by simp [upd], rfl, hlt, hbel.trans hch9, hch9.get hat id, List.nodup_cons.2 ⟨fun hm => ?_, hnd⟩, ?_⟩, by simp only; omega⟩
    · have := get_lt (hDs D hm).2
      omega
    · intro D' hm
      rcases List.mem_cons.1 hm with rfl | hm
      · exact ⟨by omega, hch79.get h7D id⟩
      · exact ⟨(hDs D' hm).1, hch9.get (hDs D' hm).2 id⟩
  · obtain rfl : i = l0.length := by omega
    refine X_cond_false (by simp [xv, upd]) ?_
    rw [List.take_length] at r4
    (repeat (first | (with_reducible refine X_seq_k ?_; intro K hK) | with_reducible refine X_block ?_ | with_reducible refine X_scope ?_ | with_reducible refine nogo_n ?_ | with_reducible refine nogo_e ?_ | with_reducible refine nogo_r ?_ | with_reducible refine X_region ?_ | with_reducible refine X_skip ?_ | with_reducible refine X_label ?_ | with_reducible refine X_ret ?_ | with_reducible refine X_exit ?_ | with_reducible refine then_n ?_ | with_reducible refine then_e ?_ | with_reducible refine then_r ?_ | with_reducible refine inb_n ?_ | with_reducible refine inb_r ?_ | with_reducible refine inb_e rfl ?_ | with_reducible refine inb_x rfl ?_ | with_reducible refine XL_nil ?_ | with_reducible refine go_k (by assumption) ?_))
    (refine XL_plain hF _ _ ?_; simp only [plainRun, plain, bin, intBin, un, xv, updO, upd_apply, Option.bind_some, reduceIte, Nat.reduceLT, Nat.reduceEqDiff, reduceCtorEq, List.getElem?_toArray, List.getElem?_cons_zero, List.getElem?_cons_succ, Int.reduceEq, BEq.rfl, Bool.not_true, Bool.not_false, r4])
    (repeat (first | (with_reducible refine X_seq_k ?_; intro K hK) | with_reducible refine X_block ?_ | with_reducible refine X_scope ?_ | with_reducible refine nogo_n ?_ | with_reducible refine nogo_e ?_ | with_reducible refine nogo_r ?_ | with_reducible refine X_region ?_ | with_reducible refine X_skip ?_ | with_reducible refine X_label ?_ | with_reducible refine X_ret ?_ | with_reducible refine X_exit ?_ | with_reducible refine then_n ?_ | with_reducible refine then_e ?_ | with_reducible refine then_r ?_ | with_reducible refine inb_n ?_ | with_reducible refine inb_r ?_ | with_reducible refine inb_e rfl ?_ | with_reducible refine inb_x rfl ?_ | with_reducible refine XL_nil ?_ | with_reducible refine go_k (by assumption) ?_))
    exact body_ret_marks (B := w.heap.size) hnd hDs (fun W' hb => ⟨results2 rfl (by decide) (by decide), by simp [upd], hbel.below0.trans hb⟩)
end Go.Proofs.Ytbbffpgnjdejiaa.P
