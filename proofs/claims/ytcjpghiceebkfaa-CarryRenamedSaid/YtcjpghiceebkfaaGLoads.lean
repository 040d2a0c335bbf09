/- carry.Loads: walk and contract. -/
import Derived.Test.YtcjpghiceebkfaaGVal
import Derived.Test.YtcjpghiceebkfaaXB
namespace Go.Proofs.Ytcjpghiceebkfaa.P
open Go.RowKit Go.Proofs.YtcjpghiceebkfaaW.PrintWords Go.Proofs.YtcjpghiceebkfaaW.PrintLast Go.Proofs.YtcjpghiceebkfaaW.PrintMore
open XW RegInv
attribute [local irreducible] Addr.add
set_option linter.unusedSimpArgs false
set_option linter.unusedVariables false

theorem E32 : Enters Try.prog 32 := enters Try.func32 (by kernel_rfl) rfl
theorem E33 : Enters Try.prog 33 := enters Try.func33 (by kernel_rfl) rfl
theorem E44 : Enters Try.prog 44 := enters Try.func44 (by kernel_rfl) rfl
theorem C_int {w : World} {A : Option Addr} {n : Nat} {xs : List Int} (h : Kd.C (Kd.int .i64) w A n xs) (k : Nat) (hk : k < n) : ∃ ad, A = some ad ∧ w.cell? (ad.add k) = some (.int .i64 (xs.getD k 0)) := by
  obtain ⟨ad, c, hA, _, hK, hc⟩ := Kd.C_get h 0 (k : Int) (by omega) (by omega)
  rw [Int.toNat_natCast] at hK hc
  refine ⟨ad, hA, ?_⟩
  have e : c = [.int .i64 (xs.getD k 0)] := hK
  have := hc 0 _ (by rw [e]; rfl)
  simpa [Kd.int, Kd.scalar] using this
def badR (x : Int) : Bool := decide (x < 1) || decide (x > 1000)
theorem pred_rets {base w : World} {R : List Res} (hw : Mem base w R) (x : Int) : Rets Try.prog 32 #[.int .i64 x] w fun u w' => u = .bool (badR x) ∧ Below w.heap.size w w' := by
  have hF := wide_wide
  refine rets_at (n := 9) Try.func32 rfl Try.ntmps32 (by simp) ?_
  (repeat' (first | ((with_reducible refine is_AL ?_); (first | ((with_reducible refine is_guarded ?_); (first | refine At_guard_t rfl (by decide) rfl ?_ | refine At_guard_f hF rfl (by decide) rfl rfl ?_)) | ((with_reducible refine is_move ?_); (refine At_plain hF (by (first | exact (rfl : _ = some (Value.int _ _)) | exact (rfl : _ = some (Value.bool _)))) ?_)) | ((with_reducible refine is_bin ?_); (refine At_plain hF (by (exact (rfl : _ = some (Value.bool _)))) ?_)) | ((with_reducible refine is_assign ?_); (refine At_plain hF (by (exact (rfl : _ = some (Value.bool _)))) ?_)) | ((with_reducible refine is_pick ?_); (refine At_plain hF (by (exact (rfl : _ = some (Value.bool _)))) ?_)) | with_reducible refine At_nil ?_)) | ((with_reducible refine is_At ?_); (first | with_reducible refine At_seq ?_; intro K hK | with_reducible refine At_region ?_ | with_reducible refine At_ret ?_ | with_reducible refine At_then_n ?_ | with_reducible refine At_go (by assumption) ?_)) | ((with_reducible refine is_guarded ?_); (refine At_guard hF rfl (by decide) rfl ?_ ?_ <;> (intro hg; try (simp only [decide_eq_true_eq, decide_eq_false_iff_not, beq_iff_eq, bne_iff_ne, beq_eq_false_iff_ne, bne_eq_false_iff_eq, ne_eq, Bool.not_eq_true', Bool.not_eq_false', Bool.not_true, Bool.not_false, Decidable.not_not] at hg); try (exfalso; omega))))))
  · refine At_ret1 rfl (rv_tmp (by decide)) (fun w' hw' => ⟨_, rfl, ?_, hw'.below⟩)
    have e1 : badR x = decide (x > 1000) := by simp [badR, hg]
    rw [e1]; rfl
  · refine At_ret1 rfl (rv_tmp (by decide)) (fun w' hw' => ⟨_, rfl, ?_, hw'.below⟩)
    have e1 : badR x = true := by simp [badR, hg]
    rw [e1]; rfl

theorem find_rets {base w : World} {R : List Res} (hw : Mem base w R) (A : Option Addr) (c : Nat) (l : List Int) (hr : Kd.C (Kd.int .i64) w A l.length l) (hc : l.length ≤ c) :
    Rets Try.prog 44 #[.slice A l.length c, .func (.func 32) #[] #[]] w fun u w' => (∃ i : Int, u = .int .i64 i ∧ (l.any badR = decide (i ≥ 0))) ∧ Below w.heap.size w w' := by
  have hF := wide_wide
  have hmx := hr.2.1
  refine rets_at (n := 19) Try.func44 rfl Try.ntmps44 (by simp) ?_
  (repeat (first | ((with_reducible refine is_AL ?_); (first | ((with_reducible refine is_move ?_); (refine At_plain hF (by (first | exact (rfl : _ = some (Value.int _ _)) | exact (rfl : _ = some (Value.slice _ _ _)))) ?_)) | ((with_reducible refine is_assign ?_); (refine At_plain hF (by (exact (rfl : _ = some (Value.int _ _)))) ?_)) | ((with_reducible refine is_call ?_); (refine At_len hF rfl ?_)) | with_reducible refine At_nil ?_)) | ((with_reducible refine is_At ?_); (first | with_reducible refine At_seq ?_; intro K hK | with_reducible refine At_block ?_ | with_reducible refine At_region ?_ | with_reducible refine At_then_n ?_ | with_reducible refine At_go (by assumption) ?_))))
  refine At_loop (fun k : Nat => [(0, .slice A l.length c), (1, .func (.func 32) #[] #[]), (7, .int .i64 l.length), (8, .int .i64 k)]) (fun _ => []) (fun k => k ≤ l.length ∧ (l.take k).any badR = false) (fun k => l.length - k) 0 ?_ ?_ ⟨Nat.zero_le _, rfl⟩ ?_
  · (repeat (first | exact List.Sublist.refl _ | exact List.Sublist.slnil | refine List.Sublist.cons_cons _ ?_ | refine List.Sublist.cons _ ?_))
  · (repeat (first | exact True.intro | (refine And.intro ?_ ?_; focus (show _ = (_ : Value); first | exact rfl | (refine Eq.trans (b := Value.int IntKind.i64 _) rfl (congrArg (Value.int IntKind.i64) ?_); omega)))))
  rintro k ⟨hk, hno⟩ K hL ρ0
  (repeat (first | ((with_reducible refine is_AL ?_); (first | ((with_reducible refine is_bin ?_); (refine At_plain hF (by (exact (rfl : _ = some (Value.bool _)))) ?_)) | with_reducible refine At_nil ?_)) | ((with_reducible refine is_At ?_); (first | with_reducible refine At_seq ?_; intro K hK | with_reducible refine At_region ?_ | with_reducible refine At_then_n ?_ | with_reducible refine At_go (by assumption) ?_))))
  ((with_reducible refine is_cond ?_); (refine At_cond rfl ?_ ?_ <;> (intro hg; try (simp only [decide_eq_true_eq, decide_eq_false_iff_not, beq_iff_eq, bne_iff_ne, beq_eq_false_iff_ne, bne_eq_false_iff_eq, ne_eq, Bool.not_eq_true', Bool.not_eq_false', Bool.not_true, Bool.not_false, Decidable.not_not] at hg); try (exfalso; omega))))
  · have hlt : k < l.length := by omega
    obtain ⟨ad, hA, hcell⟩ := C_int hr k hlt
    (repeat (first | ((with_reducible refine is_AL ?_); (first | ((with_reducible refine is_move ?_); (refine At_plain hF (by (first | exact (rfl : _ = some (Value.int _ _)) | exact (rfl : _ = some (Value.slice _ _ _)) | exact (rfl : _ = some (Value.func _ _ _)))) ?_)) | ((with_reducible refine is_assign ?_); (refine At_plain hF (by (exact (rfl : _ = some (Value.int _ _)))) ?_)) | ((with_reducible refine is_index ?_); (refine At_indexC1 hF rfl (by assumption) rfl rfl (by omega) ?_)) | with_reducible refine At_nil ?_)) | ((with_reducible refine is_At ?_); (first | with_reducible refine At_seq ?_; intro K hK | with_reducible refine At_block ?_ | with_reducible refine At_region ?_ | with_reducible refine At_skip ?_ | with_reducible refine At_then_n ?_ | with_reducible refine At_go (by assumption) ?_))))
    refine At_loadC hF (by exact rfl) hcell ?_
    refine At_callvB hF E32 rfl (by exact rfl) (arg1 (by (first | exact (rfl : _ = (Value.int _ _)) | exact (rfl : _ = (Value.bool _)) | exact (rfl : _ = (Value.pointer _)) | exact (rfl : _ = (Value.slice _ _ _)) | exact (rfl : _ = (Value.map _)) | exact (rfl : _ = (Value.func _ _ _)) | exact (rfl : _ = (Value.tuple _)) | exact (rfl : _ = (Value.agg _)) | exact (rfl : _ = (Value.string _)) | exact (rfl : _ = (Value.nilFunc)) | exact (rfl : _ = (Value.nilIface))))) (by simp) (fun w' hw' => pred_rets hw' (l.getD k 0)) ?_
    have hx : l.getD k 0 ∈ l := by rw [List.getD_eq_getElem?_getD, List.getElem?_eq_getElem hlt]; exact List.getElem_mem hlt
    have hsn : (l.take (k + 1)).any badR = badR (l.getD k 0) := by
      rw [List.take_succ_eq_append_getElem hlt, List.any_append, hno, List.getD_eq_getElem?_getD, List.getElem?_eq_getElem hlt]; simp
    generalize l.getD k 0 = x at *
    cases hb : badR x with
    | true =>
      (repeat (first | ((with_reducible refine is_AL ?_); (first | ((with_reducible refine is_move ?_); (refine At_plain hF (by (exact (rfl : _ = some (Value.int _ _)))) ?_)) | ((with_reducible refine is_assign ?_); (refine At_plain hF (by (exact (rfl : _ = some (Value.int _ _)))) ?_)) | with_reducible refine At_nil ?_)) | ((with_reducible refine is_At ?_); (first | with_reducible refine At_seq ?_; intro K hK | with_reducible refine At_region ?_ | with_reducible refine At_ret ?_ | with_reducible refine At_then_n ?_ | with_reducible refine At_then_r ?_ | with_reducible refine At_inb_r ?_ | with_reducible refine At_go (by assumption) ?_ | ((with_reducible refine is_cond ?_); (refine At_cond_t rfl ?_))))))
      refine At_ret1 rfl (rv_tmp (by decide)) (fun w' hw' => ⟨_, rfl, ⟨(k : Int), by rfl, ?_⟩, hw'.below⟩)
      have e : l.any badR = true := List.any_eq_true.2 ⟨x, hx, hb⟩
      rw [e]; simp
    | false =>
      (repeat (first | ((with_reducible refine is_AL ?_); (first | ((with_reducible refine is_move ?_); (refine At_plain hF (by (exact (rfl : _ = some (Value.int _ _)))) ?_)) | ((with_reducible refine is_bin ?_); ((with_reducible refine is_badd ?_); (refine At_add hF rfl rfl (by omega) ?_))) | with_reducible refine At_nil ?_)) | ((with_reducible refine is_At ?_); (first | with_reducible refine At_region ?_ | with_reducible refine At_skip ?_ | with_reducible refine At_then_n ?_ | with_reducible refine At_inb_n ?_ | with_reducible refine At_go (by assumption) ?_ | ((with_reducible refine is_cond ?_); (refine At_cond_f rfl ?_))))))
      refine At.sub ?_ (hL (k + 1) _ ⟨hlt, hsn.trans hb⟩ (by omega) ?_)
      · (repeat (first | exact List.Sublist.refl _ | exact List.Sublist.slnil | refine List.Sublist.cons_cons _ ?_ | refine List.Sublist.cons _ ?_))
      · (repeat (first | exact True.intro | (refine And.intro ?_ ?_; focus (show _ = (_ : Value); first | exact rfl | (refine Eq.trans (b := Value.int IntKind.i64 _) rfl (congrArg (Value.int IntKind.i64) ?_); omega)))))
  · obtain rfl : k = l.length := by omega
    (repeat (first | ((with_reducible refine is_AL ?_); (first | ((with_reducible refine is_assign ?_); (refine At_plain hF (by (exact (rfl : _ = some (Value.int _ _)))) ?_)) | with_reducible refine At_nil ?_)) | ((with_reducible refine is_At ?_); (first | with_reducible refine At_seq ?_; intro K hK | with_reducible refine At_region ?_ | with_reducible refine At_ret ?_ | with_reducible refine At_exit ?_ | with_reducible refine At_then_n ?_ | with_reducible refine At_then_e ?_ | with_reducible refine At_inb_e rfl ?_ | with_reducible refine At_go (by assumption) ?_))))
    refine At_ret1 rfl (rv_tmp (by decide)) (fun w' hw' => ⟨_, rfl, ⟨(-1 : Int), by rfl, ?_⟩, hw'.below⟩)
    rw [List.take_length] at hno
    rw [hno]; rfl
theorem cont_rets {base w : World} {R : List Res} (hw : Mem base w R) (A : Option Addr) (c : Nat) (l : List Int) (hr : Kd.C (Kd.int .i64) w A l.length l) (hc : l.length ≤ c) :
    Rets Try.prog 33 #[.slice A l.length c, .func (.func 32) #[] #[]] w fun u w' => u = .bool (l.any badR) ∧ Below w.heap.size w w' := by
  have hF := wide_wide
  refine rets_at (n := 9) Try.func33 rfl Try.ntmps33 (by simp) ?_
  (repeat (first | ((with_reducible refine is_AL ?_); (first | ((with_reducible refine is_move ?_); (refine At_plain hF (by (first | exact (rfl : _ = some (Value.slice _ _ _)) | exact (rfl : _ = some (Value.func _ _ _)))) ?_)) | ((with_reducible refine is_assign ?_); (refine At_plain hF (by (exact (rfl : _ = some (Value.bool _)))) ?_)) | with_reducible refine At_nil ?_)) | ((with_reducible refine is_At ?_); (first | with_reducible refine At_seq ?_; intro K hK | with_reducible refine At_region ?_ | with_reducible refine At_then_n ?_ | with_reducible refine At_go (by assumption) ?_))))
  refine At_callM hF E44 rfl (Post := fun u Rs => (∃ i : Int, u = .int .i64 i ∧ (l.any badR = decide (i ≥ 0))) ∧ Rs = []) (arg2 (by (first | exact (rfl : _ = (Value.int _ _)) | exact (rfl : _ = (Value.bool _)) | exact (rfl : _ = (Value.pointer _)) | exact (rfl : _ = (Value.slice _ _ _)) | exact (rfl : _ = (Value.map _)) | exact (rfl : _ = (Value.func _ _ _)) | exact (rfl : _ = (Value.tuple _)) | exact (rfl : _ = (Value.agg _)) | exact (rfl : _ = (Value.string _)) | exact (rfl : _ = (Value.nilFunc)) | exact (rfl : _ = (Value.nilIface)))) (by (first | exact (rfl : _ = (Value.int _ _)) | exact (rfl : _ = (Value.bool _)) | exact (rfl : _ = (Value.pointer _)) | exact (rfl : _ = (Value.slice _ _ _)) | exact (rfl : _ = (Value.map _)) | exact (rfl : _ = (Value.func _ _ _)) | exact (rfl : _ = (Value.tuple _)) | exact (rfl : _ = (Value.agg _)) | exact (rfl : _ = (Value.string _)) | exact (rfl : _ = (Value.nilFunc)) | exact (rfl : _ = (Value.nilIface))))) (fun w' hw' => (find_rets hw' A c l (Kd.C_below hr hw'.below) hc).mono ?_) ?_
  · rintro e w'' ⟨u, rfl, hp, hb⟩
    exact ⟨u, rfl, [], ⟨hp, rfl⟩, ⟨hb, fun _ h => (by cases h), fun _ h => (by cases h), List.Pairwise.nil⟩⟩
  rintro u Rs ⟨⟨i, rfl, hi⟩, rfl⟩
  simp only [List.nil_append]
  (repeat (first | ((with_reducible refine is_AL ?_); (first | ((with_reducible refine is_bin ?_); (refine At_plain hF (by (exact (rfl : _ = some (Value.bool _)))) ?_)) | ((with_reducible refine is_assign ?_); (refine At_plain hF (by (exact (rfl : _ = some (Value.bool _)))) ?_)) | with_reducible refine At_nil ?_)) | ((with_reducible refine is_At ?_); (first | with_reducible refine At_ret ?_ | with_reducible refine At_then_n ?_ | with_reducible refine At_go (by assumption) ?_))))
  refine At_ret1 rfl (rv_tmp (by decide)) (fun w' hw' => ⟨_, rfl, ?_, hw'.below⟩)
  rw [hi]; rfl

/-! ### the loads -/
def addL (rank L : List Int) (x : Int × Int) : List Int := L.set x.2.toNat (L.getD x.2.toNat 0 + rank.getD x.1.toNat 0)
/-- what the pairs give to team j -/
def loadAt (rank : List Int) (xs : List (Int × Int)) (j : Int) : Int := ((xs.filter fun x => x.2 == j).map fun x => rank.getD x.1.toNat 0).sum
def loadsL (N : Nat) (rank : List Int) (xs : List (Int × Int)) : List Int := (List.range N).map fun (j : Nat) => loadAt rank xs (j : Int)
theorem sum_perm {l l' : List Int} (h : l.Perm l') : l.sum = l'.sum := by
  induction h with
  | nil => rfl
  | cons x _ ih => simp only [List.sum_cons, ih]
  | swap x y l => simp only [List.sum_cons]; omega
  | trans _ _ h1 h2 => exact h1.trans h2
theorem loadsL_perm (N : Nat) (rank : List Int) {xs ys : List (Int × Int)} (h : xs.Perm ys) : loadsL N rank xs = loadsL N rank ys := by
  simp only [loadsL, loadAt]
  congr 1
  funext j
  exact sum_perm ((h.filter _).map _)
theorem addL_loads (N : Nat) (rank : List Int) (xs : List (Int × Int)) (x : Int × Int) (h2 : 0 ≤ x.2 ∧ x.2 < N) : addL rank (loadsL N rank xs) x = loadsL N rank (xs ++ [x]) := by
  obtain ⟨b, hb⟩ : ∃ b : Nat, x.2 = b := ⟨x.2.toNat, by omega⟩
  have hb' : b < N := by omega
  simp only [addL, hb, Int.toNat_natCast]
  apply List.ext_getElem?
  intro j
  simp only [List.getElem?_set, loadsL, List.length_map, List.length_range, List.getElem?_map]
  by_cases hj : j < N
  · simp only [List.getElem?_range hj, Option.map_some]
    by_cases e : b = j
    · subst e
      simp only [if_true, hj]
      simp [List.getD_eq_getElem?_getD, hj, loadAt, List.filter_append, hb]
    · simp only [e, if_false]
      congr 1
      have e3 : ¬ ((b : Int) = (j : Int)) := by omega
      simp [loadAt, List.filter_append, hb, e3]
  · have : ¬ b = j := by omega
    have hn : (List.range N)[j]? = none := List.getElem?_eq_none (by simp; omega)
    simp only [this, if_false, hn, Option.map_none]
theorem loadsL_len (N : Nat) (rank : List Int) (xs : List (Int × Int)) : (loadsL N rank xs).length = N := by simp [loadsL]
theorem loadsL_nil (N : Nat) (rank : List Int) : loadsL N rank [] = List.replicate N 0 := by simp [loadsL, loadAt, List.map_const']
theorem loadAt_bd (rank : List Int) (hr : rank.any badR = false) (j : Int) : ∀ xs : List (Int × Int), 0 ≤ loadAt rank xs j ∧ loadAt rank xs j ≤ 1000 * xs.length
  | [] => by simp [loadAt]
  | x :: xs => by
    have ih := loadAt_bd rank hr j xs
    have hx : 0 ≤ rank.getD x.1.toNat 0 ∧ rank.getD x.1.toNat 0 ≤ 1000 := by
      by_cases h : x.1.toNat < rank.length
      · have := List.any_eq_false.1 hr (rank.getD x.1.toNat 0) (getD_mem' h)
        simp [badR] at this; simp at *; omega
      · rw [List.getD_eq_getElem?_getD, List.getElem?_eq_none (by omega)]; simp
    have e : loadAt rank (x :: xs) j = (if x.2 == j then rank.getD x.1.toNat 0 else 0) + loadAt rank xs j := by
      simp only [loadAt, List.filter_cons]
      split <;> simp
    rw [e]
    simp only [List.length_cons]
    split <;> omega
theorem loadsL_get (N : Nat) (rank : List Int) (xs : List (Int × Int)) (j : Nat) (hj : j < N) : (loadsL N rank xs).getD j default = loadAt rank xs (j : Int) := by
  simp [loadsL, List.getD_eq_getElem?_getD, hj]

def loadPost (n : Int) (m : List S45) (rank : List Int) (u : Value) (Rs : List Res) : Prop := match foesF n m with
  | none => u = .tuple #[.slice none 0 0, .int .i64 220] ∧ Rs = []
  | some (es, r) => if (rank.length : Int) ≠ n ∨ rank.any badR = true then u = .tuple #[.slice none 0 0, .int .i64 220] ∧ Rs = [] else
      ∃ b, u = .tuple #[.slice (some ⟨b, 0, none⟩) n.toNat n.toNat, .int .i64 0] ∧ Rs = [.obj b (.cells (buf (sc (Value.int .i64)) (loadsL n.toNat rank (es.filterMap (nxt es r))) []) 3 (0, 0))]

set_option maxHeartbeats 4000000 in
theorem loads_rets (n : Int) (A : Option Addr) (c : Nat) (m : List S45) (A2 : Option Addr) (c2 : Nat) (rank : List Int) (w : World) (hr : Kd.C k45 w A m.length m) (hc : m.length ≤ c) (hm : m.length ≤ 1000000) (hr2 : Kd.C (Kd.int .i64) w A2 rank.length rank) (hc2 : rank.length ≤ c2) :
    Rets Try.prog 16 #[.int .i64 n, .slice A m.length c, .slice A2 rank.length c2] w fun u w' => ∃ Rs, loadPost n m rank u Rs ∧ Mem w w' Rs := by
  have hF := wide_wide
  have hmx := hr2.2.1
  have hok := fun es r hf => foes_ok n m hm es r hf
  refine rets_at (n := 50) Try.func16 rfl Try.ntmps16 (by simp) ?_
  ((repeat (first | ((with_reducible refine is_AL ?_); (first | ((with_reducible refine is_move ?_); (refine At_plain hF (by (first | exact (rfl : _ = some (Value.int _ _)) | exact (rfl : _ = some (Value.slice _ _ _)))) ?_)) | ((with_reducible refine is_assign ?_); (refine At_plain hF (by (exact (rfl : _ = some (Value.int _ _)))) ?_)) | with_reducible refine At_nil ?_)) | ((with_reducible refine is_At ?_); (first | with_reducible refine At_seq ?_; intro K hK | with_reducible refine At_region ?_ | with_reducible refine At_then_n ?_ | with_reducible refine At_go (by assumption) ?_)))); (first | ((with_reducible refine is_alloc ?_); (refine At_alloc hF (by (exact (rfl : _ = List.toArray (_ :: _)))) ?_; intro b5)) | ((with_reducible refine is_box ?_); (refine At_box1 hF (by (exact (rfl : _ = (Value.slice _ _ _)))) rfl ?_; intro b5))); (repeat (first | ((with_reducible refine is_AL ?_); (first | ((with_reducible refine is_move ?_); (refine At_plain hF (by (first | exact (rfl : _ = some (Value.int _ _)) | exact (rfl : _ = some (Value.slice _ _ _)))) ?_)) | ((with_reducible refine is_assign ?_); (refine At_plain hF (by (exact (rfl : _ = some (Value.int _ _)))) ?_)) | with_reducible refine At_nil ?_)) | ((with_reducible refine is_At ?_); (first | with_reducible refine At_seq ?_; intro K hK | with_reducible refine At_region ?_ | with_reducible refine At_then_n ?_ | with_reducible refine At_go (by assumption) ?_)))); (first | ((with_reducible refine is_alloc ?_); (refine At_alloc hF (by (exact (rfl : _ = List.toArray (_ :: _)))) ?_; intro b6)) | ((with_reducible refine is_box ?_); (refine At_box1 hF (by (exact (rfl : _ = (Value.slice _ _ _)))) rfl ?_; intro b6))); (repeat (first | ((with_reducible refine is_AL ?_); (first | ((with_reducible refine is_move ?_); (refine At_plain hF (by (first | exact (rfl : _ = some (Value.int _ _)) | exact (rfl : _ = some (Value.slice _ _ _)))) ?_)) | ((with_reducible refine is_assign ?_); (refine At_plain hF (by (exact (rfl : _ = some (Value.int _ _)))) ?_)) | with_reducible refine At_nil ?_)) | ((with_reducible refine is_At ?_); (first | with_reducible refine At_seq ?_; intro K hK | with_reducible refine At_region ?_ | with_reducible refine At_then_n ?_ | with_reducible refine At_go (by assumption) ?_)))))
  refine At_callM hF E29 rfl (arg2 (by (first | exact (rfl : _ = (Value.int _ _)) | exact (rfl : _ = (Value.bool _)) | exact (rfl : _ = (Value.pointer _)) | exact (rfl : _ = (Value.slice _ _ _)) | exact (rfl : _ = (Value.map _)) | exact (rfl : _ = (Value.func _ _ _)) | exact (rfl : _ = (Value.tuple _)) | exact (rfl : _ = (Value.agg _)) | exact (rfl : _ = (Value.string _)) | exact (rfl : _ = (Value.nilFunc)) | exact (rfl : _ = (Value.nilIface)))) (by (first | exact (rfl : _ = (Value.int _ _)) | exact (rfl : _ = (Value.bool _)) | exact (rfl : _ = (Value.pointer _)) | exact (rfl : _ = (Value.slice _ _ _)) | exact (rfl : _ = (Value.map _)) | exact (rfl : _ = (Value.func _ _ _)) | exact (rfl : _ = (Value.tuple _)) | exact (rfl : _ = (Value.agg _)) | exact (rfl : _ = (Value.string _)) | exact (rfl : _ = (Value.nilFunc)) | exact (rfl : _ = (Value.nilIface))))) (fun w' hw' => foes_rets n A c m w' (Kd.C_below hr hw'.below) hc) ?_
  intro u Rs hp
  unfold foesPost at hp
  cases hff : foesF n m with
  | none =>
    rw [hff] at hp
    obtain ⟨rfl, rfl⟩ := hp
    simp only [List.nil_append]
    (repeat (first | ((with_reducible refine is_AL ?_); (first | ((with_reducible refine is_guarded ?_); (refine At_guard_f hF rfl (by decide) rfl rfl ?_)) | ((with_reducible refine is_move ?_); (refine At_plain hF (by (first | exact (rfl : _ = some (Value.bool _)) | exact (rfl : _ = some (Value.map _)) | exact (rfl : _ = some (Value.tuple _)))) ?_)) | ((with_reducible refine is_bin ?_); (refine At_eqMapNil hF (by kernel_rfl) rfl rfl ?_)) | ((with_reducible refine is_assign ?_); (refine At_plain hF (by (first | exact (rfl : _ = some (Value.int _ _)) | exact (rfl : _ = some (Value.map _)) | exact (rfl : _ = some (Value.func _ _ _)))) ?_)) | ((with_reducible refine is_pick ?_); (refine At_plain hF (by (exact (rfl : _ = some (Value.bool _)))) ?_)) | ((with_reducible refine is_extract ?_); (refine At_plain hF (by (first | exact (rfl : _ = some (Value.int _ _)) | exact (rfl : _ = some (Value.map _)))) ?_)) | ((with_reducible refine is_store ?_); (refine At_store_0 hF rfl (by (exact (rfl : _ = (Value.slice _ _ _)))) (by (decide)) (by exact rfl) (by exact rfl) (by (exact (rfl : _ = List.toArray (_ :: _)))) ?_)) | with_reducible refine At_nil ?_)) | ((with_reducible refine is_At ?_); (first | with_reducible refine At_seq ?_; intro K hK | with_reducible refine At_region ?_ | with_reducible refine At_ret ?_ | with_reducible refine At_then_n ?_ | with_reducible refine At_then_r ?_ | with_reducible refine At_go (by assumption) ?_ | ((with_reducible refine is_cond ?_); (refine At_cond_t rfl ?_))))))
    refine At_ret2 rfl (rv_cell (by decide) rfl 0 rfl rfl) (rv_tmp (by decide)) ?_
    exact At.sub (List.nil_sublist _) (fun w' hw' => ⟨_, rfl, [], by rw [loadPost, hff]; exact ⟨rfl, rfl⟩, hw'⟩)
  | some p =>
    obtain ⟨es, r⟩ := p
    rw [hff] at hp
    obtain ⟨bm, rfl, rfl⟩ := hp
    obtain ⟨hn2, hn20, hes⟩ := hok es r hff
    obtain ⟨N, rfl⟩ : ∃ N : Nat, n = N := ⟨n.toNat, by omega⟩
    simp only [List.cons_append, List.nil_append]
    (repeat (first | ((with_reducible refine is_AL ?_); (first | ((with_reducible refine is_guarded ?_); (refine At_guard_t rfl (by decide) rfl ?_)) | ((with_reducible refine is_move ?_); (refine At_plain hF (by (first | exact (rfl : _ = some (Value.int _ _)) | exact (rfl : _ = some (Value.bool _)) | exact (rfl : _ = some (Value.map _)) | exact (rfl : _ = some (Value.tuple _)))) ?_)) | ((with_reducible refine is_bin ?_); (first | refine At_plain hF (by (exact (rfl : _ = some (Value.bool _)))) ?_ | refine At_eqMapNil hF (by kernel_rfl) rfl rfl ?_)) | ((with_reducible refine is_assign ?_); (refine At_plain hF (by (first | exact (rfl : _ = some (Value.int _ _)) | exact (rfl : _ = some (Value.map _)) | exact (rfl : _ = some (Value.func _ _ _)))) ?_)) | ((with_reducible refine is_pick ?_); (refine At_plain hF (by (exact (rfl : _ = some (Value.bool _)))) ?_)) | ((with_reducible refine is_extract ?_); (refine At_plain hF (by (first | exact (rfl : _ = some (Value.int _ _)) | exact (rfl : _ = some (Value.map _)))) ?_)) | ((with_reducible refine is_call ?_); (refine At_len hF rfl ?_)) | ((with_reducible refine is_load ?_); (refine At_load hF 2 rfl rfl (by (exact (rfl : _ = some (Value.slice _ _ _)))) ?_)) | with_reducible refine At_nil ?_)) | ((with_reducible refine is_At ?_); (first | with_reducible refine At_seq ?_; intro K hK | with_reducible refine At_region ?_ | with_reducible refine At_then_n ?_ | with_reducible refine At_go (by assumption) ?_))))
    ((with_reducible refine is_guarded ?_); (refine At_guard hF rfl (by decide) rfl ?_ ?_ <;> (intro hg; try (simp only [decide_eq_true_eq, decide_eq_false_iff_not, beq_iff_eq, bne_iff_ne, beq_eq_false_iff_ne, bne_eq_false_iff_eq, ne_eq, Bool.not_eq_true', Bool.not_eq_false', Bool.not_true, Bool.not_false, Decidable.not_not] at hg); try (exfalso; omega))))
    rotate_left
    · (repeat (first | ((with_reducible refine is_AL ?_); (first | ((with_reducible refine is_guarded ?_); (refine At_guard_f hF rfl (by decide) rfl rfl ?_)) | ((with_reducible refine is_assign ?_); (refine At_plain hF (by (exact (rfl : _ = some (Value.int _ _)))) ?_)) | ((with_reducible refine is_pick ?_); (refine At_plain hF (by (exact (rfl : _ = some (Value.bool _)))) ?_)) | ((with_reducible refine is_store ?_); (refine At_store_1 hF rfl (by (exact (rfl : _ = (Value.slice _ _ _)))) (by (decide)) (by exact rfl) (by exact rfl) (by (exact (rfl : _ = List.toArray (_ :: _)))) ?_)) | with_reducible refine At_nil ?_)) | ((with_reducible refine is_At ?_); (first | with_reducible refine At_seq ?_; intro K hK | with_reducible refine At_region ?_ | with_reducible refine At_ret ?_ | with_reducible refine At_then_n ?_ | with_reducible refine At_then_r ?_ | with_reducible refine At_go (by assumption) ?_ | ((with_reducible refine is_cond ?_); (refine At_cond_t rfl ?_))))))
      refine At_ret2 rfl (rv_cell (by decide) rfl 1 rfl rfl) (rv_tmp (by decide)) ?_
      exact At.sub (List.nil_sublist _) (fun w' hw' => ⟨_, rfl, [], by rw [loadPost, hff]; dsimp only; rw [if_pos (.inl hg)]; exact ⟨rfl, rfl⟩, hw'⟩)
    have hlen := hg
    (repeat ((with_reducible refine is_AL ?_); (first | ((with_reducible refine is_guarded ?_); (refine At_guard_t rfl (by decide) rfl ?_)) | ((with_reducible refine is_move ?_); (refine At_plain hF (by (exact (rfl : _ = some (Value.func _ _ _)))) ?_)) | ((with_reducible refine is_load ?_); (refine At_load hF 2 rfl rfl (by (exact (rfl : _ = some (Value.slice _ _ _)))) ?_)))))
    refine At_callB hF E33 rfl (arg2 (by (first | exact (rfl : _ = (Value.int _ _)) | exact (rfl : _ = (Value.bool _)) | exact (rfl : _ = (Value.pointer _)) | exact (rfl : _ = (Value.slice _ _ _)) | exact (rfl : _ = (Value.map _)) | exact (rfl : _ = (Value.func _ _ _)) | exact (rfl : _ = (Value.tuple _)) | exact (rfl : _ = (Value.agg _)) | exact (rfl : _ = (Value.string _)) | exact (rfl : _ = (Value.nilFunc)) | exact (rfl : _ = (Value.nilIface)))) (by (first | exact (rfl : _ = (Value.int _ _)) | exact (rfl : _ = (Value.bool _)) | exact (rfl : _ = (Value.pointer _)) | exact (rfl : _ = (Value.slice _ _ _)) | exact (rfl : _ = (Value.map _)) | exact (rfl : _ = (Value.func _ _ _)) | exact (rfl : _ = (Value.tuple _)) | exact (rfl : _ = (Value.agg _)) | exact (rfl : _ = (Value.string _)) | exact (rfl : _ = (Value.nilFunc)) | exact (rfl : _ = (Value.nilIface))))) (fun w' hw' => cont_rets hw' A2 c2 rank (Kd.C_below hr2 hw'.below) hc2) ?_
    cases hbd : rank.any badR with
    | true =>
      (repeat (first | ((with_reducible refine is_AL ?_); (first | ((with_reducible refine is_assign ?_); (refine At_plain hF (by (exact (rfl : _ = some (Value.int _ _)))) ?_)) | ((with_reducible refine is_pick ?_); (refine At_plain hF (by (exact (rfl : _ = some (Value.bool _)))) ?_)) | ((with_reducible refine is_store ?_); (refine At_store_1 hF rfl (by (exact (rfl : _ = (Value.slice _ _ _)))) (by (decide)) (by exact rfl) (by exact rfl) (by (exact (rfl : _ = List.toArray (_ :: _)))) ?_)) | with_reducible refine At_nil ?_)) | ((with_reducible refine is_At ?_); (first | with_reducible refine At_seq ?_; intro K hK | with_reducible refine At_region ?_ | with_reducible refine At_ret ?_ | with_reducible refine At_then_n ?_ | with_reducible refine At_then_r ?_ | with_reducible refine At_go (by assumption) ?_ | ((with_reducible refine is_cond ?_); (refine At_cond_t rfl ?_))))))
      refine At_ret2 rfl (rv_cell (by decide) rfl 1 rfl rfl) (rv_tmp (by decide)) ?_
      exact At.sub (List.nil_sublist _) (fun w' hw' => ⟨_, rfl, [], by rw [loadPost, hff]; dsimp only; rw [if_pos (.inr hbd)]; exact ⟨rfl, rfl⟩, hw'⟩)
    | false =>
      (repeat (first | ((with_reducible refine is_AL ?_); (first | ((with_reducible refine is_move ?_); (refine At_plain hF (by (exact (rfl : _ = some (Value.int _ _)))) ?_)) | ((with_reducible refine is_pick ?_); (refine At_plain hF (by (exact (rfl : _ = some (Value.bool _)))) ?_)) | with_reducible refine At_nil ?_)) | ((with_reducible refine is_At ?_); (first | with_reducible refine At_seq ?_; intro K hK | with_reducible refine At_region ?_ | with_reducible refine At_skip ?_ | with_reducible refine At_then_n ?_ | with_reducible refine At_go (by assumption) ?_ | ((with_reducible refine is_cond ?_); (refine At_cond_f rfl ?_))))))
      (refine At_make hF (Value.int .i64) 0 rfl rfl rfl rfl (by exact rfl) (by exact rfl) (by simp only [TS.bytes] <;> omega) (by omega) ?_; intro bl)
      (repeat (first | ((with_reducible refine is_AL ?_); (first | ((with_reducible refine is_move ?_); (refine At_plain hF (by (first | exact (rfl : _ = some (Value.int _ _)) | exact (rfl : _ = some (Value.map _)))) ?_)) | ((with_reducible refine is_store ?_); (refine At_store_2 hF rfl (by (exact (rfl : _ = (Value.slice _ _ _)))) (by (decide)) (by exact rfl) (by exact rfl) (by (exact (rfl : _ = List.toArray (_ :: _)))) ?_)) | with_reducible refine At_nil ?_)) | ((with_reducible refine is_At ?_); (first | with_reducible refine At_seq ?_; intro K hK | with_reducible refine At_region ?_ | with_reducible refine At_then_n ?_ | with_reducible refine At_go (by assumption) ?_))))
      refine At_callM hF E30 rfl (arg2 (by (first | exact (rfl : _ = (Value.int _ _)) | exact (rfl : _ = (Value.bool _)) | exact (rfl : _ = (Value.pointer _)) | exact (rfl : _ = (Value.slice _ _ _)) | exact (rfl : _ = (Value.map _)) | exact (rfl : _ = (Value.func _ _ _)) | exact (rfl : _ = (Value.tuple _)) | exact (rfl : _ = (Value.agg _)) | exact (rfl : _ = (Value.string _)) | exact (rfl : _ = (Value.nilFunc)) | exact (rfl : _ = (Value.nilIface)))) (by (first | exact (rfl : _ = (Value.int _ _)) | exact (rfl : _ = (Value.bool _)) | exact (rfl : _ = (Value.pointer _)) | exact (rfl : _ = (Value.slice _ _ _)) | exact (rfl : _ = (Value.map _)) | exact (rfl : _ = (Value.func _ _ _)) | exact (rfl : _ = (Value.tuple _)) | exact (rfl : _ = (Value.agg _)) | exact (rfl : _ = (Value.string _)) | exact (rfl : _ = (Value.nilFunc)) | exact (rfl : _ = (Value.nilIface))))) (fun w' hw' => carried_rets bm r w') ?_
      rintro u Rs ⟨b2, b3, rfl, rfl⟩
      simp only [List.cons_append, List.nil_append]
      (repeat (first | ((with_reducible refine is_AL ?_); (with_reducible refine At_nil ?_)) | ((with_reducible refine is_At ?_); (first | with_reducible refine At_block ?_ | with_reducible refine At_then_n ?_ | with_reducible refine At_go (by assumption) ?_))))
      have hes' : ∀ e ∈ es, 0 ≤ e.1.2 ∧ e.1.2 ≤ 63 := fun e he => ⟨(hes.key e he).2.2.1, (hes.key e he).2.2.2.1⟩
      (refine At.pick [0, 1, 3, 2, 4, 5] (by decide) (R' := [_, _, _, _, _, _]) rfl ?_)
      refine At_range hF rfl rfl rfl E43 (ritC bm b2 b3 es r) args2 (carried_pre es r) (carried_all es r) (carried_iter hF rfl rfl w bm b2 b3 es r hes')
        (fun L : List Int => [.obj bl (.cells (buf (sc (Value.int .i64)) L []) 3), .obj b6 (.cells #[.slice (some ⟨bl, 0, none⟩) N N] 33), .obj b5 (.cells #[.slice A2 rank.length c2] 33)])
        (fun xs L => L = loadsL N rank xs) (fun _ _ => False) (List.replicate N 0) ?_ ?_ (fun _ => rfl) ?_ ?_ ?_
      · (repeat (first | exact List.Sublist.refl _ | exact List.Sublist.slnil | refine List.Sublist.cons_cons _ ?_ | refine List.Sublist.cons _ ?_))
      · exact (loadsL_nil N rank).symm
      · rintro l rec Ri xs ⟨x1, x2⟩ L hL0 hpre
        have hF := Wide.inRound hF l
        simp only [List.cons_append, List.nil_append]
        (repeat (first | ((with_reducible refine is_AL ?_); (first | ((with_reducible refine is_assign ?_); (refine At_plain hF (by (exact (rfl : _ = some (Value.int _ _)))) ?_)) | with_reducible refine At_nil ?_)) | ((with_reducible refine is_At ?_); (first | with_reducible refine At_seq ?_; intro K hK | with_reducible refine At_region ?_ | with_reducible refine At_then_n ?_ | with_reducible refine At_go (by assumption) ?_))))
        refine fun w' hw' => ⟨rfl, hw', ?_⟩
        obtain ⟨e, he, hex⟩ := hpre.2 (x1, x2) (by simp)
        have hk := hes.key e he
        obtain ⟨j, hj, hjx⟩ := Option.map_eq_some_iff.1 hex
        have hg := hes.get _ _ hj
        simp only [Prod.mk.injEq] at hjx
        obtain ⟨rfl, rfl⟩ := hjx
        have hlen2 : xs.length + 1 ≤ 2000000 := by
          have := hpre.1
          have := hes.len
          simp at this ⊢
          simp at *
          omega
        have hLl : L.length = N := by rw [hL0, loadsL_len]
        have hbL : 0 ≤ L.getD j.toNat default ∧ L.getD j.toNat default ≤ 1000 * xs.length := by
          rw [hL0, loadsL_get _ _ _ _ (by omega)]
          exact loadAt_bd rank hbd _ xs
        obtain ⟨ad, hA, hcell⟩ := C_int hr2 e.2.toNat (by omega)
        have hrk : 0 ≤ rank.getD e.2.toNat 0 ∧ rank.getD e.2.toNat 0 ≤ 1000 := by
          have := List.any_eq_false.1 hbd (rank.getD e.2.toNat 0) (getD_mem' (by omega))
          simp [badR] at this; simp at *; omega
        (repeat ((with_reducible refine is_At ?_); (with_reducible refine At_block ?_)))
        refine At_draw hF 10 (by kernel_rfl) (by decide +kernel) ?_; simp only [List.take_succ_cons, List.take_zero, List.drop_succ_cons, List.drop_zero]; (repeat ((with_reducible refine is_AQc ?_); refine AQ_cons (by intro K Q hK; (repeat (first | ((with_reducible refine is_move ?_); (refine At_plain hF (by (exact (rfl : _ = some (Value.int _ _)))) ?_)) | ((with_reducible refine is_load ?_); (first | refine At_load hF 1 rfl rfl (by (exact buf_getI _ (by omega))) ?_ | refine At_load hF 2 rfl rfl (by (exact (rfl : _ = some (Value.slice _ _ _)))) ?_ | refine At_load hF 3 rfl rfl (by (exact (rfl : _ = some (Value.slice _ _ _)))) ?_)) | ((with_reducible refine is_index ?_); (first | refine At_indexS1i hF rfl rfl rfl (by omega) (by omega) ?_ | refine At_indexC1i hF rfl (by assumption) rfl rfl (by omega) (by omega) ?_)))); exact At_nilK hK) ?_))
        refine AQ_cons (by intro K Q hK; refine At_loadC hF (by exact rfl) hcell ?_; exact At_nilK hK) ?_
        (repeat ((with_reducible refine is_AQc ?_); refine AQ_cons (by intro K Q hK; (repeat (first | ((with_reducible refine is_bin ?_); ((with_reducible refine is_badd ?_); (refine At_add hF rfl rfl (by omega) ?_))) | ((with_reducible refine is_index ?_); (refine At_indexS1i hF rfl rfl rfl (by omega) (by omega) ?_)))); exact At_nilK hK) ?_)); refine AQ_done ?_
        (repeat (first | ((with_reducible refine is_AL ?_); (first | ((with_reducible refine is_store ?_); (refine At_store_1 hF rfl (by (exact (rfl : _ = (Value.int _ _)))) (by (simp [buf_size1]; omega)) (by exact rfl) (by exact rfl) (by (exact buf_set1 _ (by omega))) ?_)) | with_reducible refine At_nil ?_)) | ((with_reducible refine is_At ?_); (with_reducible refine At_inb_n ?_))))
        refine rnd_n (addL rank L (e.2, j)) ?_ (by rw [hL0, addL_loads N rank xs (e.2, j) hg])
        exact List.Sublist.refl _
      · rintro D xs L hall hL0
        obtain ⟨es', hperm, rfl⟩ := hall
        have hL2 : L = loadsL N rank (es.filterMap (nxt es r)) := hL0.trans (loadsL_perm N rank (hperm.filterMap _))
        simp only [ritC, List.cons_append, List.nil_append]
        (repeat (first | ((with_reducible refine is_AL ?_); (first | ((with_reducible refine is_assign ?_); (refine At_plain hF (by (exact (rfl : _ = some (Value.int _ _)))) ?_)) | ((with_reducible refine is_load ?_); (refine At_load hF 5 rfl rfl (by (exact (rfl : _ = some (Value.slice _ _ _)))) ?_)) | ((with_reducible refine is_store ?_); (refine At_store_5 hF rfl (by (exact (rfl : _ = (Value.slice _ _ _)))) (by (simp [buf_size1]; done)) (by exact rfl) (by exact rfl) (by (exact (rfl : _ = List.toArray (_ :: _)))) ?_)) | with_reducible refine At_nil ?_)) | ((with_reducible refine is_At ?_); (first | with_reducible refine At_seq ?_; intro K hK | with_reducible refine At_region ?_ | with_reducible refine At_ret ?_ | with_reducible refine At_then_n ?_ | with_reducible refine At_inb_n ?_ | with_reducible refine At_go (by assumption) ?_))))
        refine At_retm2 rfl (rv_cell (by decide) rfl 4 rfl rfl) (rv_tmp (by decide)) ?_
        exact At.pick [3] (by decide) rfl (fun w' hw' => ⟨_, rfl, _, by rw [loadPost, hff]; dsimp only; rw [if_neg (by rw [hbd]; simp [hlen])]; exact ⟨bl, rfl, by rw [Int.toNat_natCast, ← hL2]; rfl⟩, hw'⟩)
      · exact fun D e s he hf => hf.elim
/-- a row of ints of one's own, laid out -/
theorem R_of_mem {base w : World} {R : List Res} {b : Nat} {L : List Int} (hw : Mem base w (.obj b (.cells (buf (sc (Value.int .i64)) L []) 3 (0, 0)) :: R)) (hl : L.length ≤ 1000000000) : Kd.R (Kd.int .i64) 3 w base.heap.size (fun _ => True) (.slice (some ⟨b, 0, none⟩) L.length L.length) L := by
  have h0 := hw.at_ 0 rfl
  have hbd0 := hw.bd _ (List.mem_cons_self ..) b rfl
  have : RowOk 3 1 (sc (Value.int .i64)) (some b) L.length L w := ⟨sc_len _, Nat.le_refl _, Nat.le_trans hl (by decide), [], h0, by simp⟩
  have h2 := ownsRow_of (B := base.heap.size) this (fun k hk => by cases hk; exact hbd0.1)
  rw [flat_int] at h2
  exact Kd.R_of_own h2 (fun _ _ => trivial)
def carry_Loads.f (a0 : Int) (l1 : List (S45)) (l2 : List Int) : Option (List Int × Int) := if l1.length ≤ 1000000 then some (match foesF a0 l1 with
  | none => ([], 220)
  | some (es, r) => if (l2.length : Int) ≠ a0 ∨ l2.any badR = true then ([], 220) else (loadsL a0.toNat l2 (es.filterMap (nxt es r)), 0)) else none
theorem carry_Loads.calls (a0 : Int) (A1 : Option Addr) (c1 : Nat) (l1 : List (S45)) (A2 : Option Addr) (c2 : Nat) (l2 : List Int) (r1 : List Int) (r2 : Int) (w : World) (hr1 : Kd.C k45 w A1 l1.length l1) (hc1 : l1.length ≤ c1) (hr2 : Kd.C (Kd.int .i64) w A2 l2.length l2) (hc2 : l2.length ≤ c2) (h : carry_Loads.f a0 l1 l2 = some (r1, r2)) :
    Calls Try.prog 16 #[.int .i64 a0, .slice A1 l1.length c1, .slice A2 l2.length c2] w fun e w' => ∃ v0_ : Value, e = .returned (.tuple #[v0_, .int .i64 r2]) ∧ Kd.R (Kd.int .i64) 3 w' w.heap.size (fun _ => True) v0_ r1 ∧ Below w.heap.size w w' := by
  unfold carry_Loads.f at h
  split at h
  · rename_i hm
    refine (loads_rets a0 A1 c1 l1 A2 c2 l2 w hr1 hc1 hm hr2 hc2).mono ?_
    rintro e w' ⟨u, rfl, Rs, hp, hmem⟩
    unfold loadPost at hp
    cases hf : foesF a0 l1 with
    | none =>
      rw [hf] at hp h
      obtain ⟨rfl, rfl⟩ := hp
      cases h
      exact ⟨_, rfl, Kd.R_nil _ _ _ _ _, hmem.below⟩
    | some p =>
      obtain ⟨es, r⟩ := p
      rw [hf] at hp h
      dsimp only at hp h
      split at hp
      · rename_i hbad
        rw [if_pos hbad] at h
        obtain ⟨rfl, rfl⟩ := hp
        cases h
        exact ⟨_, rfl, Kd.R_nil _ _ _ _ _, hmem.below⟩
      · rename_i hbad
        rw [if_neg hbad] at h
        obtain ⟨b, rfl, rfl⟩ := hp
        cases h
        obtain ⟨hn2, hn20, hok⟩ := foes_ok a0 l1 hm es r hf
        refine ⟨_, rfl, ?_, hmem.below⟩
        have := R_of_mem hmem (by rw [loadsL_len]; omega)
        rw [loadsL_len] at this
        exact this
  · cases h
end Go.Proofs.Ytcjpghiceebkfaa.P
