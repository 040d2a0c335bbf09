/- fastiref22.Matrix: the walk. -/
import Derived.Test.YtcjpghiceebkfaaRefW
import Derived.Test.YtcjpghiceebkfaaRightP
namespace Go.Proofs.Ytcjpghiceebkfaa.P
open Go.RowKit Go.Proofs.YtcjpghiceebkfaaW.PrintWords Go.Proofs.YtcjpghiceebkfaaW.PrintLast Go.Proofs.YtcjpghiceebkfaaW.PrintMore
open XW RegInv
attribute [local irreducible] Addr.add
set_option linter.unusedSimpArgs false
set_option linter.unusedVariables false

theorem E27 : Enters Try.prog 27 := enters Try.func27 (by kernel_rfl) rfl
def Vals (N : Nat) (M : List (List Int)) : Prop := ∀ row ∈ M, ∀ x ∈ row, -1 ≤ x ∧ x < N
theorem Vals.set {N : Nat} {M : List (List Int)} (h : Vals N M) {r j : Nat} {v : Int} (hv : 0 ≤ v ∧ v < N) : Vals N (M.set r ((M.getD r []).set j v)) := fun row hm x hx => by
  rcases List.mem_or_eq_of_mem_set hm with hm | rfl
  · exact h _ hm x hx
  · rcases List.mem_or_eq_of_mem_set hx with hx | rfl
    · rw [List.getD_eq_getElem?_getD] at hx
      cases hr : M[r]? with
      | none => rw [hr] at hx; simp at hx
      | some row => rw [hr] at hx; exact h row (List.mem_of_getElem? hr) x hx
    · omega
theorem foes_vals (R N : Nat) (m : List S45) (hf : ∀ x ∈ m, (0 ≤ x.f1 ∧ x.f1 < N) ∧ 0 ≤ x.f2 ∧ x.f2 < N) : ∀ M, Vals N M → Vals N (m.foldl setFoe M) := by
  induction m with
  | nil => intro M h; exact h
  | cons x m ih =>
    intro M h
    have hx := hf x (by simp)
    rw [List.foldl_cons]
    refine ih (fun y hy => hf y (by simp [hy])) _ ?_
    exact (h.set hx.2).set hx.1
theorem foes_rect (R N : Nat) (m : List S45) (hf : ∀ x ∈ m, x.f0.toNat < R) : ∀ M, Rect R N M → Rect R N (m.foldl setFoe M) := by
  induction m with
  | nil => intro M h; exact h
  | cons x m ih =>
    intro M h
    rw [List.foldl_cons]
    exact ih (fun y hy => hf y (by simp [hy])) _ (h.foe (hf x (by simp)))

def pairF (F : List (List Int)) (R r t : Nat) : Option (Int × Int) :=
  if 0 ≤ (F.getD r []).getD t default ∧ 0 ≤ (F.getD ((r + 1) % R) []).getD t default then some ((F.getD r []).getD t default, (F.getD ((r + 1) % R) []).getD t default) else none
def rowP (F : List (List Int)) (R N r : Nat) : List (Int × Int) := (List.range N).filterMap (pairF F R r)
def PQ (F : List (List Int)) (R N r t : Nat) : List (Int × Int) := (List.range r).flatMap (rowP F R N) ++ (List.range t).filterMap (pairF F R r)
theorem PQ_t (F : List (List Int)) (R N r t : Nat) : PQ F R N r (t + 1) = PQ F R N r t ++ (pairF F R r t).toList := by
  rw [PQ, PQ, List.range_succ, List.filterMap_append, List.append_assoc]
  cases h : pairF F R r t <;> simp [List.filterMap_cons, h]
theorem PQ_r (F : List (List Int)) (R N r : Nat) : PQ F R N (r + 1) 0 = PQ F R N r N := by
  rw [PQ, PQ, List.range_succ, List.flatMap_append]; simp [rowP]
theorem PQ_len (F : List (List Int)) (R N r t : Nat) (hN : N ≤ 20) (ht : t ≤ N) : (PQ F R N r t).length ≤ r * 20 + 20 := by
  have h1 : ∀ r, ((List.range r).flatMap (rowP F R N)).length ≤ r * 20 := by
    intro r
    induction r with
    | zero => simp
    | succ r ih =>
      rw [List.range_succ, List.flatMap_append, List.length_append]
      have : (rowP F R N r).length ≤ N := by have := List.length_filterMap_le (pairF F R r) (List.range N); rw [List.length_range] at this; exact this
      simp only [List.flatMap_cons, List.flatMap_nil, List.append_nil]
      omega
  have h2 := List.length_filterMap_le (pairF F R r) (List.range t)
  rw [List.length_range] at h2
  have := h1 r
  rw [PQ, List.length_append]
  omega
def pairsF (F : List (List Int)) (R N : Nat) : List (Int × Int) := (List.range R).flatMap (rowP F R N)
theorem PQ_all (F : List (List Int)) (R N : Nat) : PQ F R N R 0 = pairsF F R N := by simp [PQ, pairsF]
def refPost (n : Int) (m : List S45) (u : Value) (Rs : List Res) : Prop := match rightB n m with
  | false => u = .tuple #[.slice none 0 0, .int .i64 220] ∧ Rs = []
  | true => ∃ bs A c, bs.length = n.toNat ∧ u = .tuple #[.slice (A.map fun b => ⟨b, 0, none⟩) n.toNat c, .int .i64 0] ∧
      Rs = [.row 33 1 (sc (gv n.toNat)) A c bs, .grid 3 (Value.int .i64) bs (cntM n.toNat (pairsF (foesM n.toNat m) (roundsF m).toNat n.toNat))]

set_option maxHeartbeats 4000000 in
theorem refMat_rets (n : Int) (A : Option Addr) (c : Nat) (m : List S45) (w : World) (hr : Kd.C k45 w A m.length m) (hc : m.length ≤ c) (hm : m.length ≤ 1000000) (hfine : rightB n m = true → Fine n.toNat m ∧ 2 ≤ n) :
    Rets Try.prog 12 #[.int .i64 n, .slice A m.length c] w fun u w' => ∃ Rs, refPost n m u Rs ∧ Mem w w' Rs := by
  have hF := wide_wide
  refine rets_at (n := 83) Try.func12 rfl Try.ntmps12 (by simp) ?_
  (repeat (first | ((with_reducible refine is_AL ?_); (first | ((with_reducible refine is_move ?_); (refine At_plain hF (by (first | exact (rfl : _ = some (Value.int _ _)) | exact (rfl : _ = some (Value.slice _ _ _)))) ?_)) | ((with_reducible refine is_assign ?_); (refine At_plain hF (by (first | exact (rfl : _ = some (Value.int _ _)) | exact (rfl : _ = some (Value.slice _ _ _)))) ?_)) | with_reducible refine At_nil ?_)) | ((with_reducible refine is_At ?_); (first | with_reducible refine At_seq ?_; intro K hK | with_reducible refine At_region ?_ | with_reducible refine At_then_n ?_ | with_reducible refine At_go (by assumption) ?_))))
  refine At_callB hF E27 rfl (arg2 (by (first | exact (rfl : _ = (Value.int _ _)) | exact (rfl : _ = (Value.bool _)) | exact (rfl : _ = (Value.pointer _)) | exact (rfl : _ = (Value.slice _ _ _)) | exact (rfl : _ = (Value.map _)) | exact (rfl : _ = (Value.func _ _ _)) | exact (rfl : _ = (Value.tuple _)) | exact (rfl : _ = (Value.agg _)) | exact (rfl : _ = (Value.string _)) | exact (rfl : _ = (Value.nilFunc)) | exact (rfl : _ = (Value.nilIface)))) (by (first | exact (rfl : _ = (Value.int _ _)) | exact (rfl : _ = (Value.bool _)) | exact (rfl : _ = (Value.pointer _)) | exact (rfl : _ = (Value.slice _ _ _)) | exact (rfl : _ = (Value.map _)) | exact (rfl : _ = (Value.func _ _ _)) | exact (rfl : _ = (Value.tuple _)) | exact (rfl : _ = (Value.agg _)) | exact (rfl : _ = (Value.string _)) | exact (rfl : _ = (Value.nilFunc)) | exact (rfl : _ = (Value.nilIface))))) (fun w' hw' => (fastiref22_Right.calls (2 * m.length + 2) n A c m (rightB n m) w' (Kd.C_below hr hw'.below) hc (right_f n m _ (Nat.le_refl _))).mono (by rintro e w'' ⟨rfl, hb⟩; exact ⟨_, rfl, rfl, hb⟩)) ?_
  cases hb : rightB n m with
  | false =>
    (repeat (first | ((with_reducible refine is_AL ?_); (first | ((with_reducible refine is_assign ?_); (refine At_plain hF (by (first | exact (rfl : _ = some (Value.int _ _)) | exact (rfl : _ = some (Value.slice _ _ _)))) ?_)) | ((with_reducible refine is_un ?_); (refine At_plain hF (by (exact (rfl : _ = some (Value.bool _)))) ?_)) | with_reducible refine At_nil ?_)) | ((with_reducible refine is_At ?_); (first | with_reducible refine At_seq ?_; intro K hK | with_reducible refine At_region ?_ | with_reducible refine At_ret ?_ | with_reducible refine At_then_n ?_ | with_reducible refine At_then_r ?_ | with_reducible refine At_go (by assumption) ?_ | ((with_reducible refine is_cond ?_); (refine At_cond_t rfl ?_))))))
    exact At_ret2 rfl (rv_tmp (by decide)) (rv_tmp (by decide)) (fun w' hw' => ⟨_, rfl, [], by rw [refPost, hb]; exact ⟨rfl, rfl⟩, hw'⟩)
  | true =>
    obtain ⟨hf, hn2⟩ := hfine hb
    obtain ⟨N, rfl⟩ : ∃ N : Nat, n = N := ⟨n.toNat, by omega⟩
    simp only [Int.toNat_natCast] at *
    have hn20 := hf.n20
    (repeat (first | ((with_reducible refine is_AL ?_); (first | ((with_reducible refine is_un ?_); (refine At_plain hF (by (exact (rfl : _ = some (Value.bool _)))) ?_)) | with_reducible refine At_nil ?_)) | ((with_reducible refine is_At ?_); (first | with_reducible refine At_seq ?_; intro K hK | with_reducible refine At_region ?_ | with_reducible refine At_skip ?_ | with_reducible refine At_then_n ?_ | with_reducible refine At_go (by assumption) ?_ | ((with_reducible refine is_cond ?_); (refine At_cond_f rfl ?_))))))
    refine At_slice0 hF (sc (gv N)) (fun _ => rfl) ?_
    intro bo
    (repeat (first | ((with_reducible refine is_AL ?_); (first | ((with_reducible refine is_assign ?_); (refine At_plain hF (by (first | exact (rfl : _ = some (Value.int _ _)) | exact (rfl : _ = some (Value.slice _ _ _)))) ?_)) | with_reducible refine At_nil ?_)) | ((with_reducible refine is_At ?_); (first | with_reducible refine At_seq ?_; intro K hK | with_reducible refine At_block ?_ | with_reducible refine At_region ?_ | with_reducible refine At_then_n ?_ | with_reducible refine At_go (by assumption) ?_))))
    refine At.gridNew 3 (Value.int .i64) ?_
    refine At_loop (fun st : Nat × List Nat × Option Nat × Nat => [(0, .int .i64 N), (1, .slice A m.length c), (6, .slice (st.2.2.1.map fun b => ⟨b, 0, none⟩) st.1 st.2.2.2), (7, .int .i64 st.1)])
      (fun st => [.grid 3 (Value.int .i64) st.2.1 (List.replicate st.1 (List.replicate N 0)), .row 33 1 (sc (gv N)) st.2.2.1 st.2.2.2 st.2.1]) (fun st => st.1 ≤ N ∧ st.2.1.length = st.1) (fun st => N - st.1) (0, [], some bo, 0) ?_ ?_ ⟨Nat.zero_le _, rfl⟩ ?_
    · (repeat (first | exact List.Sublist.refl _ | exact List.Sublist.slnil | refine List.Sublist.cons_cons _ ?_ | refine List.Sublist.cons _ ?_))
    · (repeat (first | exact True.intro | (refine And.intro ?_ ?_; focus (show _ = (_ : Value); first | exact rfl | (refine Eq.trans (b := Value.int IntKind.i64 _) rfl (congrArg (Value.int IntKind.i64) ?_); omega)))))
    rintro ⟨i, bs, Ao, co⟩ ⟨hi, hbs⟩ K hL ρ0
    simp only at hi hbs
    try dsimp only
    (repeat (first | ((with_reducible refine is_AL ?_); (first | ((with_reducible refine is_move ?_); (refine At_plain hF (by (exact (rfl : _ = some (Value.int _ _)))) ?_)) | ((with_reducible refine is_bin ?_); (refine At_plain hF (by (exact (rfl : _ = some (Value.bool _)))) ?_)) | with_reducible refine At_nil ?_)) | ((with_reducible refine is_At ?_); (first | with_reducible refine At_seq ?_; intro K hK | with_reducible refine At_region ?_ | with_reducible refine At_then_n ?_ | with_reducible refine At_go (by assumption) ?_))))
    ((with_reducible refine is_cond ?_); (refine At_cond rfl ?_ ?_ <;> (intro hg; try (simp only [decide_eq_true_eq, decide_eq_false_iff_not, beq_iff_eq, bne_iff_ne, beq_eq_false_iff_ne, bne_eq_false_iff_eq, ne_eq, Bool.not_eq_true', Bool.not_eq_false', Bool.not_true, Bool.not_false, Decidable.not_not] at hg); try (exfalso; omega))))
    · have hlt : i < N := by omega
      (repeat (first | ((with_reducible refine is_AL ?_); ((with_reducible refine is_move ?_); (refine At_plain hF (by (first | exact (rfl : _ = some (Value.int _ _)) | exact (rfl : _ = some (Value.slice _ _ _)))) ?_))) | ((with_reducible refine is_At ?_); (first | with_reducible refine At_seq ?_; intro K hK | with_reducible refine At_block ?_ | with_reducible refine At_region ?_ | with_reducible refine At_skip ?_ | with_reducible refine At_then_n ?_ | with_reducible refine At_go (by assumption) ?_))))
      (refine At_make hF (Value.int .i64) 0 rfl rfl rfl rfl (by exact rfl) (by exact rfl) (by simp only [TS.bytes] <;> omega) (by omega) ?_; intro bi)
      (skip; ((with_reducible refine is_bslice ?_); (refine At_slice1_1 hF (by decide) (by (exact (rfl : _ = (Value.slice _ _ _)))) rfl ?_; intro bl)); skip)
      refine At_append_3 hF 0 rfl rfl (by simp [hbs]) rfl (x0 := bi) rfl (by decide) (by simp [Value.one1]) (by simp only [TS.bytes]; omega) (by omega) ?_
      intro A2 c2
      (repeat (first | ((with_reducible refine is_AL ?_); (first | ((with_reducible refine is_move ?_); (refine At_plain hF (by (exact (rfl : _ = some (Value.int _ _)))) ?_)) | ((with_reducible refine is_bin ?_); ((with_reducible refine is_badd ?_); (refine At_add hF rfl rfl (by omega) ?_))) | ((with_reducible refine is_assign ?_); (refine At_plain hF (by (first | exact (rfl : _ = some (Value.int _ _)) | exact (rfl : _ = some (Value.slice _ _ _)))) ?_)) | with_reducible refine At_nil ?_)) | ((with_reducible refine is_At ?_); (first | with_reducible refine At_region ?_ | with_reducible refine At_then_n ?_ | with_reducible refine At_inb_n ?_ | with_reducible refine At_go (by assumption) ?_))))
      (refine At.pick [1, 2, 3] (by decide) (R' := [_, _, _]) rfl ?_)
      refine At.gridPush ?_
      rw [hbs, show List.replicate i (List.replicate N (0 : Int)) ++ [List.replicate N 0] = List.replicate (i + 1) (List.replicate N 0) from (List.replicate_succ' ..).symm]
      refine At.sub ?_ (hL (i + 1, bs ++ [bi], A2, c2) _ ⟨hlt, by simp [hbs]⟩ (by simp only; omega) ?_)
      · (repeat (first | exact List.Sublist.refl _ | exact List.Sublist.slnil | refine List.Sublist.cons_cons _ ?_ | refine List.Sublist.cons _ ?_))
      · (repeat (first | exact True.intro | (refine And.intro ?_ ?_; focus (show _ = (_ : Value); first | exact rfl | (refine Eq.trans (b := Value.int IntKind.i64 _) rfl (congrArg (Value.int IntKind.i64) ?_); omega)))))
    obtain rfl : i = N := by omega
    (repeat (first | ((with_reducible refine is_AL ?_); ((with_reducible refine is_move ?_); (refine At_plain hF (by (first | exact (rfl : _ = some (Value.int _ _)) | exact (rfl : _ = some (Value.slice _ _ _)))) ?_))) | ((with_reducible refine is_At ?_); (first | with_reducible refine At_seq ?_; intro K hK | with_reducible refine At_region ?_ | with_reducible refine At_exit ?_ | with_reducible refine At_then_n ?_ | with_reducible refine At_then_e ?_ | with_reducible refine At_inb_e rfl ?_ | with_reducible refine At_go (by assumption) ?_))))
    refine At_callM hF E22 rfl (arg2 (by (first | exact (rfl : _ = (Value.int _ _)) | exact (rfl : _ = (Value.bool _)) | exact (rfl : _ = (Value.pointer _)) | exact (rfl : _ = (Value.slice _ _ _)) | exact (rfl : _ = (Value.map _)) | exact (rfl : _ = (Value.func _ _ _)) | exact (rfl : _ = (Value.tuple _)) | exact (rfl : _ = (Value.agg _)) | exact (rfl : _ = (Value.string _)) | exact (rfl : _ = (Value.nilFunc)) | exact (rfl : _ = (Value.nilIface)))) (by (first | exact (rfl : _ = (Value.int _ _)) | exact (rfl : _ = (Value.bool _)) | exact (rfl : _ = (Value.pointer _)) | exact (rfl : _ = (Value.slice _ _ _)) | exact (rfl : _ = (Value.map _)) | exact (rfl : _ = (Value.func _ _ _)) | exact (rfl : _ = (Value.tuple _)) | exact (rfl : _ = (Value.agg _)) | exact (rfl : _ = (Value.string _)) | exact (rfl : _ = (Value.nilFunc)) | exact (rfl : _ = (Value.nilIface))))) (fun w' hw' => foesM_rets hw' i A c m (Kd.C_below hr hw'.below) hc hm hf) ?_
    rintro u Rs ⟨bf, Af, cf, hbf, rfl, rfl⟩
    simp only [List.cons_append, List.nil_append]
    (repeat (first | ((with_reducible refine is_AL ?_); (first | ((with_reducible refine is_assign ?_); (refine At_plain hF (by (first | exact (rfl : _ = some (Value.int _ _)) | exact (rfl : _ = some (Value.slice _ _ _)))) ?_)) | with_reducible refine At_nil ?_)) | ((with_reducible refine is_At ?_); (first | with_reducible refine At_seq ?_; intro K hK | with_reducible refine At_block ?_ | with_reducible refine At_region ?_ | with_reducible refine At_then_n ?_ | with_reducible refine At_go (by assumption) ?_))))
    have hrd := rnd_bd m (fun x hx => (hf.ok x hx).1) 0 (by omega) (by omega)
    obtain ⟨RR, hRR⟩ : ∃ RR : Nat, roundsF m = RR := ⟨(roundsF m).toNat, by have := hrd.1; unfold roundsF; omega⟩
    have hR64 : RR ≤ 64 := by have := hrd.2.1; unfold roundsF at hRR; omega
    have hlt0 : ∀ x ∈ m, x.f0.toNat < RR := fun x hx => by have := hrd.2.2.2 x hx; have := hf.ok x hx; unfold roundsF at hRR; omega
    have hRect : Rect RR i (foesM i m) := by rw [foesM, hRR]; exact foes_rect RR i m hlt0 _ (Rect.rep RR i)
    have hVals : Vals i (foesM i m) := by
      refine foes_vals RR i m (fun x hx => (hf.ok x hx).2) _ ?_
      intro row hrow x hx
      rw [F0, List.mem_replicate] at hrow
      rw [hrow.2, List.mem_replicate] at hx
      omega
    have hpost : ∀ u Rs, (∃ bs A c, bs.length = i ∧ u = .tuple #[.slice (A.map fun b => ⟨b, 0, none⟩) i c, .int .i64 0] ∧ Rs = [.row 33 1 (sc (gv i)) A c bs, .grid 3 (Value.int .i64) bs (cntM i (pairsF (foesM i m) RR i))]) → refPost i m u Rs := by
      rintro u Rs h
      rw [refPost, hb]
      simp only [hRR, Int.toNat_natCast]
      exact h
    have hbf2 : bf.length = RR := by rw [hbf, hRR]; exact Int.toNat_natCast _
    clear hbf
    rw [hRR, Int.toNat_natCast]
    generalize foesM i m = F at *
    have hFv : ∀ r t, r < RR → t < i → -1 ≤ (F.getD r []).getD t default ∧ (F.getD r []).getD t default < i := fun r t hr ht => hVals _ (getD_mem' (by rw [hRect.1]; exact hr)) _ (getD_mem' (by rw [hRect.get hr]; exact ht))
    (refine At.pick [3, 2, 1, 0] (by decide) (R' := [_, _, _, _]) rfl ?_)
    refine At_open 0 rfl (by omega) ?_
    rintro bc junkc rfl hc1 hc2 hc3
    simp only [List.set_cons_zero]
    rw [show List.replicate i (List.replicate i (0 : Int)) = cntM i (PQ F RR i 0 0) from by rw [show PQ F RR i 0 0 = [] from rfl, cntM_nil]; rfl]
    refine At_loop (fun r : Nat => [(0, .int .i64 i), (6, .slice (some ⟨bc, 0, none⟩) i co), (8, .slice (Af.map fun b => ⟨b, 0, none⟩) RR cf), (9, .int .i64 r)])
      (fun r => [.obj bc (.cells (buf (sc (gv i)) bs junkc) 33), .grid 3 (Value.int .i64) bs (cntM i (PQ F RR i r 0)), .gridc 3 (Value.int .i64) bf F, .row 33 1 (sc (gvc i)) Af cf bf]) (fun r => r ≤ RR) (fun r => RR - r) 0 ?_ ?_ (Nat.zero_le _) ?_
    · (repeat (first | exact List.Sublist.refl _ | exact List.Sublist.slnil | refine List.Sublist.cons_cons _ ?_ | refine List.Sublist.cons _ ?_))
    · (repeat (first | exact True.intro | (refine And.intro ?_ ?_; focus (show _ = (_ : Value); first | exact rfl | (refine Eq.trans (b := Value.int IntKind.i64 _) rfl (congrArg (Value.int IntKind.i64) ?_); omega)))))
    intro r hrr K hI ρ1
    try dsimp only
    (repeat (first | ((with_reducible refine is_AL ?_); (first | ((with_reducible refine is_move ?_); (refine At_plain hF (by (first | exact (rfl : _ = some (Value.int _ _)) | exact (rfl : _ = some (Value.slice _ _ _)))) ?_)) | ((with_reducible refine is_bin ?_); (refine At_plain hF (by (exact (rfl : _ = some (Value.bool _)))) ?_)) | ((with_reducible refine is_call ?_); (refine At_len hF rfl ?_)) | with_reducible refine At_nil ?_)) | ((with_reducible refine is_At ?_); (first | with_reducible refine At_seq ?_; intro K hK | with_reducible refine At_region ?_ | with_reducible refine At_then_n ?_ | with_reducible refine At_go (by assumption) ?_))))
    ((with_reducible refine is_cond ?_); (refine At_cond rfl ?_ ?_ <;> (intro hg; try (simp only [decide_eq_true_eq, decide_eq_false_iff_not, beq_iff_eq, bne_iff_ne, beq_eq_false_iff_ne, bne_eq_false_iff_eq, ne_eq, Bool.not_eq_true', Bool.not_eq_false', Bool.not_true, Bool.not_false, Decidable.not_not] at hg); try (exfalso; omega))))
    · have hlt : r < RR := by omega
      refine At_open 3 rfl (by omega) ?_
      rintro bA junk rfl hj1 hj2 hj3
      simp only [List.set_cons_succ, List.set_cons_zero]
      have hmod : 0 ≤ ((r : Int) + 1) % (RR : Int) ∧ ((r : Int) + 1) % (RR : Int) < RR := ⟨Int.emod_nonneg _ (by omega), Int.emod_lt_of_pos _ (by omega)⟩
      have hmodN : (((r : Int) + 1) % (RR : Int)).toNat = (r + 1) % RR := by
        have : ((r : Int) + 1) % (RR : Int) = (((r + 1) % RR : Nat) : Int) := by rw [Int.natCast_emod]; rfl
        rw [this, Int.toNat_natCast]
      have hmlt : (r + 1) % RR < RR := Nat.mod_lt _ (by omega)
      (repeat (first | ((with_reducible refine is_AL ?_); (first | ((with_reducible refine is_move ?_); (refine At_plain hF (by (first | exact (rfl : _ = some (Value.int _ _)) | exact (rfl : _ = some (Value.slice _ _ _)))) ?_)) | ((with_reducible refine is_bin ?_); (first | ((with_reducible refine is_badd ?_); (refine At_add hF rfl rfl (by omega) ?_)) | ((with_reducible refine is_brem ?_); (refine At_rem hF rfl rfl (by omega) ?_)))) | ((with_reducible refine is_assign ?_); (refine At_plain hF (by (first | exact (rfl : _ = some (Value.int _ _)) | exact (rfl : _ = some (Value.slice _ _ _)))) ?_)) | ((with_reducible refine is_call ?_); (refine At_len hF rfl ?_)) | ((with_reducible refine is_load ?_); (refine At_load hF 3 rfl rfl (by (exact buf_getI _ (by omega))) ?_)) | ((with_reducible refine is_index ?_); (refine At_indexS1i hF rfl rfl rfl (by omega) (by omega) ?_)) | with_reducible refine At_nil ?_)) | ((with_reducible refine is_At ?_); (first | with_reducible refine At_seq ?_; intro K hK | with_reducible refine At_block ?_ | with_reducible refine At_region ?_ | with_reducible refine At_skip ?_ | with_reducible refine At_then_n ?_ | with_reducible refine At_go (by assumption) ?_))))
      rw [hmodN]
      refine At_loop (fun t : Nat => [(0, .int .i64 i), (6, .slice (some ⟨bc, 0, none⟩) i co), (8, .slice (some ⟨bA, 0, none⟩) RR cf), (9, .int .i64 r), (10, gvc i (bf.getD ((r + 1) % RR) default)), (11, .int .i64 t)])
        (fun t => [.obj bc (.cells (buf (sc (gv i)) bs junkc) 33), .grid 3 (Value.int .i64) bs (cntM i (PQ F RR i r t)), .gridc 3 (Value.int .i64) bf F, .obj bA (.cells (buf (sc (gvc i)) bf junk) 33)]) (fun t => t ≤ i) (fun t => i - t) 0 ?_ ?_ (Nat.zero_le _) ?_
      · (repeat (first | exact List.Sublist.refl _ | exact List.Sublist.slnil | refine List.Sublist.cons_cons _ ?_ | refine List.Sublist.cons _ ?_))
      · (repeat (first | exact True.intro | (refine And.intro ?_ ?_; focus (show _ = (_ : Value); first | exact rfl | (refine Eq.trans (b := Value.int IntKind.i64 _) rfl (congrArg (Value.int IntKind.i64) ?_); omega)))))
      intro t ht K hT ρ2
      try dsimp only
      (repeat (first | ((with_reducible refine is_AL ?_); (first | ((with_reducible refine is_move ?_); (refine At_plain hF (by (exact (rfl : _ = some (Value.int _ _)))) ?_)) | ((with_reducible refine is_bin ?_); (refine At_plain hF (by (exact (rfl : _ = some (Value.bool _)))) ?_)) | with_reducible refine At_nil ?_)) | ((with_reducible refine is_At ?_); (first | with_reducible refine At_seq ?_; intro K hK | with_reducible refine At_region ?_ | with_reducible refine At_then_n ?_ | with_reducible refine At_go (by assumption) ?_))))
      ((with_reducible refine is_cond ?_); (refine At_cond rfl ?_ ?_ <;> (intro hg; try (simp only [decide_eq_true_eq, decide_eq_false_iff_not, beq_iff_eq, bne_iff_ne, beq_eq_false_iff_ne, bne_eq_false_iff_eq, ne_eq, Bool.not_eq_true', Bool.not_eq_false', Bool.not_true, Bool.not_false, Decidable.not_not] at hg); try (exfalso; omega))))
      · have hlt2 : t < i := by omega
        have hl1 := hRect.get hlt
        have hl2 := hRect.get hmlt
        have hv1 := hFv r t hlt hlt2
        have hv2 := hFv _ t hmlt hlt2
        have hPt := PQ_t F RR i r t
        have hpl := PQ_len F RR i r t hn20 ht
        have hcl := cntM_len i (PQ F RR i r t)
        have hrow := cntM_row i (PQ F RR i r t)
        have hbd := cntM_bd (N := i) (xs := PQ F RR i r t) (by omega)
        rw [pairF] at hPt
        (repeat (first | ((with_reducible refine is_AL ?_); (first | ((with_reducible refine is_move ?_); (refine At_plain hF (by (first | exact (rfl : _ = some (Value.int _ _)) | exact (rfl : _ = some (Value.slice _ _ _)))) ?_)) | ((with_reducible refine is_load ?_); (refine At_load hF 3 rfl rfl (by (exact buf_getI _ (by omega))) ?_)) | ((with_reducible refine is_index ?_); (refine At_indexS1 hF rfl rfl rfl (by omega) ?_)))) | ((with_reducible refine is_At ?_); (first | with_reducible refine At_seq ?_; intro K hK | with_reducible refine At_block ?_ | with_reducible refine At_region ?_ | with_reducible refine At_skip ?_ | with_reducible refine At_then_n ?_ | with_reducible refine At_go (by assumption) ?_))))
        refine At_loadGridc (r := r) hF 2 (by exact rfl) rfl (by omega) (by omega) ?_
        (repeat ((with_reducible refine is_AL ?_); (first | ((with_reducible refine is_move ?_); (refine At_plain hF (by (exact (rfl : _ = some (Value.bool _)))) ?_)) | ((with_reducible refine is_bin ?_); (refine At_plain hF (by (exact (rfl : _ = some (Value.bool _)))) ?_)))))
        ((with_reducible refine is_guarded ?_); (refine At_guard hF rfl (by decide) rfl ?_ ?_ <;> (intro hg; try (simp only [decide_eq_true_eq, decide_eq_false_iff_not, beq_iff_eq, bne_iff_ne, beq_eq_false_iff_ne, bne_eq_false_iff_eq, ne_eq, Bool.not_eq_true', Bool.not_eq_false', Bool.not_true, Bool.not_false, Decidable.not_not] at hg); try (exfalso; omega))))
        · have hv := hg
          (repeat ((with_reducible refine is_AL ?_); (first | ((with_reducible refine is_guarded ?_); (refine At_guard_t rfl (by decide) rfl ?_)) | ((with_reducible refine is_move ?_); (refine At_plain hF (by (first | exact (rfl : _ = some (Value.int _ _)) | exact (rfl : _ = some (Value.slice _ _ _)))) ?_)) | ((with_reducible refine is_index ?_); (refine At_indexS1 hF rfl rfl rfl (by omega) ?_)))))
          refine At_loadGridc (r := (r + 1) % RR) hF 2 (by exact rfl) rfl (by omega) (by omega) ?_
          (repeat (first | ((with_reducible refine is_AL ?_); (first | ((with_reducible refine is_guarded ?_); (refine At_guard_t rfl (by decide) rfl ?_)) | ((with_reducible refine is_bin ?_); (refine At_plain hF (by (exact (rfl : _ = some (Value.bool _)))) ?_)) | ((with_reducible refine is_pick ?_); (refine At_plain hF (by (exact (rfl : _ = some (Value.bool _)))) ?_)) | with_reducible refine At_nil ?_)) | ((with_reducible refine is_At ?_); (first | with_reducible refine At_then_n ?_ | with_reducible refine At_go (by assumption) ?_))))
          ((with_reducible refine is_cond ?_); (refine At_cond rfl ?_ ?_ <;> (intro hg; try (simp only [decide_eq_true_eq, decide_eq_false_iff_not, beq_iff_eq, bne_iff_ne, beq_eq_false_iff_ne, bne_eq_false_iff_eq, ne_eq, Bool.not_eq_true', Bool.not_eq_false', Bool.not_true, Bool.not_false, Decidable.not_not] at hg); try (exfalso; omega))))
          · have hu := hg
            have hst : bump (cntM i (PQ F RR i r t)) (((F.getD r []).getD t default), ((F.getD ((r + 1) % RR) []).getD t default)) = cntM i (PQ F RR i r (t + 1)) := by
              rw [hPt, if_pos ⟨hv, hu⟩]
              exact bump_cnt i _ _ ⟨hv, hv1.2⟩ ⟨hu, hv2.2⟩
            have hlr : ((F.getD r []).getD t default).toNat < (cntM i (PQ F RR i r t)).length := by omega
            have hrl := hrow _ (getD_mem' (d := []) hlr)
            have hlc : ((F.getD ((r + 1) % RR) []).getD t default).toNat < ((cntM i (PQ F RR i r t)).getD ((F.getD r []).getD t default).toNat []).length := by omega
            have hcb := hbd _ (getD_mem' (d := []) hlr) _ (getD_mem' (d := default) hlc)
            skip
            refine At_draw hF 17 (by kernel_rfl) (by decide +kernel) ?_; simp only [List.take_succ_cons, List.take_zero, List.drop_succ_cons, List.drop_zero]; (repeat ((with_reducible refine is_AQc ?_); refine AQ_cons (by intro K Q hK; (repeat (first | ((with_reducible refine is_move ?_); (refine At_plain hF (by (first | exact (rfl : _ = some (Value.int _ _)) | exact (rfl : _ = some (Value.slice _ _ _)))) ?_)) | ((with_reducible refine is_load ?_); (refine At_load hF 3 rfl rfl (by (exact buf_getI _ (by omega))) ?_)) | ((with_reducible refine is_index ?_); (refine At_indexS1 hF rfl rfl rfl (by omega) ?_)))); exact At_nilK hK) ?_))
            refine AQ_cons (by intro K Q hK; refine At_loadGridc (r := r) hF 2 (by exact rfl) rfl (by omega) (by omega) ?_; exact At_nilK hK) ?_
            (repeat ((with_reducible refine is_AQc ?_); refine AQ_cons (by intro K Q hK; (repeat (first | ((with_reducible refine is_move ?_); (refine At_plain hF (by (first | exact (rfl : _ = some (Value.int _ _)) | exact (rfl : _ = some (Value.slice _ _ _)))) ?_)) | ((with_reducible refine is_load ?_); (refine At_load hF 0 rfl rfl (by (exact buf_getI _ (by omega))) ?_)) | ((with_reducible refine is_index ?_); (first | refine At_indexS1 hF rfl rfl rfl (by omega) ?_ | refine At_indexS1i hF rfl rfl rfl (by omega) (by omega) ?_)))); exact At_nilK hK) ?_))
            refine AQ_cons (by intro K Q hK; refine At_loadGridc (r := (r + 1) % RR) hF 2 (by exact rfl) rfl (by omega) (by omega) ?_; exact At_nilK hK) ?_
            (repeat ((with_reducible refine is_AQc ?_); refine AQ_cons (by intro K Q hK; (repeat ((with_reducible refine is_index ?_); (refine At_indexS1i hF rfl rfl rfl (by omega) (by omega) ?_))); exact At_nilK hK) ?_))
            refine AQ_cons (by intro K Q hK; refine At_loadGrid (r := ((F.getD r []).getD t default).toNat) hF 1 (by exact rfl) rfl (by omega) hlc ?_; exact At_nilK hK) ?_
            (repeat ((with_reducible refine is_AQc ?_); refine AQ_cons (by intro K Q hK; (repeat ((with_reducible refine is_bin ?_); ((with_reducible refine is_badd ?_); (refine At_add hF rfl rfl (by omega) ?_)))); exact At_nilK hK) ?_)); refine AQ_done ?_
            (repeat ((with_reducible refine is_AL ?_); ((with_reducible refine is_index ?_); (refine At_indexS1i hF rfl rfl rfl (by omega) (by omega) ?_))))
            refine At_storeGrid (r := ((F.getD r []).getD t default).toNat) (a := ((cntM i (PQ F RR i r t)).getD ((F.getD r []).getD t default).toNat []).getD ((F.getD ((r + 1) % RR) []).getD t default).toNat default + 1) hF 1 (by exact rfl) (by exact rfl) rfl rfl rfl rfl (by omega) hlc ?_
            simp only [List.set_cons_succ, List.set_cons_zero]
            (repeat (first | ((with_reducible refine is_AL ?_); (first | ((with_reducible refine is_move ?_); (refine At_plain hF (by (exact (rfl : _ = some (Value.int _ _)))) ?_)) | ((with_reducible refine is_bin ?_); ((with_reducible refine is_badd ?_); (refine At_add hF rfl rfl (by omega) ?_))) | ((with_reducible refine is_assign ?_); (refine At_plain hF (by (exact (rfl : _ = some (Value.int _ _)))) ?_)) | with_reducible refine At_nil ?_)) | ((with_reducible refine is_At ?_); (first | with_reducible refine At_region ?_ | with_reducible refine At_then_n ?_ | with_reducible refine At_inb_n ?_ | with_reducible refine At_go (by assumption) ?_))))
            change At w [.obj bc (.cells (buf (sc (gv i)) bs junkc) 33), .grid 3 (Value.int .i64) bs (bump (cntM i (PQ F RR i r t)) (((F.getD r []).getD t default), ((F.getD ((r + 1) % RR) []).getD t default))), .gridc 3 (Value.int .i64) bf F, .obj bA (.cells (buf (sc (gvc i)) bf junk) 33)] _
            rw [hst]
            refine At.sub ?_ (hT (t + 1) _ hlt2 (by omega) ?_)
            · (repeat (first | exact List.Sublist.refl _ | exact List.Sublist.slnil | refine List.Sublist.cons_cons _ ?_ | refine List.Sublist.cons _ ?_))
            · (repeat (first | exact True.intro | (refine And.intro ?_ ?_; focus (show _ = (_ : Value); first | exact rfl | (refine Eq.trans (b := Value.int IntKind.i64 _) rfl (congrArg (Value.int IntKind.i64) ?_); omega)))))
          · have hnx : PQ F RR i r (t + 1) = PQ F RR i r t := by rw [hPt, if_neg (by omega)]; simp
            rw [← hnx]
            (repeat (first | ((with_reducible refine is_AL ?_); (first | ((with_reducible refine is_move ?_); (refine At_plain hF (by (exact (rfl : _ = some (Value.int _ _)))) ?_)) | ((with_reducible refine is_bin ?_); ((with_reducible refine is_badd ?_); (refine At_add hF rfl rfl (by omega) ?_))) | ((with_reducible refine is_assign ?_); (refine At_plain hF (by (exact (rfl : _ = some (Value.int _ _)))) ?_)) | with_reducible refine At_nil ?_)) | ((with_reducible refine is_At ?_); (first | with_reducible refine At_region ?_ | with_reducible refine At_skip ?_ | with_reducible refine At_then_n ?_ | with_reducible refine At_inb_n ?_ | with_reducible refine At_go (by assumption) ?_))))
            refine At.sub ?_ (hT (t + 1) _ hlt2 (by omega) ?_)
            · (repeat (first | exact List.Sublist.refl _ | exact List.Sublist.slnil | refine List.Sublist.cons_cons _ ?_ | refine List.Sublist.cons _ ?_))
            · (repeat (first | exact True.intro | (refine And.intro ?_ ?_; focus (show _ = (_ : Value); first | exact rfl | (refine Eq.trans (b := Value.int IntKind.i64 _) rfl (congrArg (Value.int IntKind.i64) ?_); omega)))))
        · have hnx : PQ F RR i r (t + 1) = PQ F RR i r t := by rw [hPt, if_neg (by omega)]; simp
          rw [← hnx]
          (repeat (first | ((with_reducible refine is_AL ?_); (first | ((with_reducible refine is_guarded ?_); (refine At_guard_f hF rfl (by decide) rfl rfl ?_)) | ((with_reducible refine is_move ?_); (refine At_plain hF (by (exact (rfl : _ = some (Value.int _ _)))) ?_)) | ((with_reducible refine is_bin ?_); ((with_reducible refine is_badd ?_); (refine At_add hF rfl rfl (by omega) ?_))) | ((with_reducible refine is_assign ?_); (refine At_plain hF (by (exact (rfl : _ = some (Value.int _ _)))) ?_)) | ((with_reducible refine is_pick ?_); (refine At_plain hF (by (exact (rfl : _ = some (Value.bool _)))) ?_)) | with_reducible refine At_nil ?_)) | ((with_reducible refine is_At ?_); (first | with_reducible refine At_region ?_ | with_reducible refine At_skip ?_ | with_reducible refine At_then_n ?_ | with_reducible refine At_inb_n ?_ | with_reducible refine At_go (by assumption) ?_ | ((with_reducible refine is_cond ?_); (refine At_cond_f rfl ?_))))))
          refine At.sub ?_ (hT (t + 1) _ hlt2 (by omega) ?_)
          · (repeat (first | exact List.Sublist.refl _ | exact List.Sublist.slnil | refine List.Sublist.cons_cons _ ?_ | refine List.Sublist.cons _ ?_))
          · (repeat (first | exact True.intro | (refine And.intro ?_ ?_; focus (show _ = (_ : Value); first | exact rfl | (refine Eq.trans (b := Value.int IntKind.i64 _) rfl (congrArg (Value.int IntKind.i64) ?_); omega)))))
      · obtain rfl : t = i := by omega
        (repeat (first | ((with_reducible refine is_AL ?_); (first | ((with_reducible refine is_move ?_); (refine At_plain hF (by (exact (rfl : _ = some (Value.int _ _)))) ?_)) | ((with_reducible refine is_bin ?_); ((with_reducible refine is_badd ?_); (refine At_add hF rfl rfl (by omega) ?_))) | ((with_reducible refine is_assign ?_); (refine At_plain hF (by (exact (rfl : _ = some (Value.int _ _)))) ?_)) | with_reducible refine At_nil ?_)) | ((with_reducible refine is_At ?_); (first | with_reducible refine At_region ?_ | with_reducible refine At_exit ?_ | with_reducible refine At_then_n ?_ | with_reducible refine At_then_e ?_ | with_reducible refine At_inb_n ?_ | with_reducible refine At_inb_e rfl ?_ | with_reducible refine At_go (by assumption) ?_))))
        rw [← PQ_r]
        refine At_close 3 rfl (sc_len _) hj1 hj2 hj3 ?_
        refine At.sub ?_ (hI (r + 1) _ hlt (by omega) ?_)
        · (repeat (first | exact List.Sublist.refl _ | exact List.Sublist.slnil | refine List.Sublist.cons_cons _ ?_ | refine List.Sublist.cons _ ?_))
        · (repeat (first | exact True.intro | (refine And.intro ?_ ?_; focus (show _ = (_ : Value); first | exact rfl | (refine Eq.trans (b := Value.int IntKind.i64 _) rfl (congrArg (Value.int IntKind.i64) ?_); omega)))))
    · obtain rfl : r = RR := by omega
      (repeat (first | ((with_reducible refine is_AL ?_); (first | ((with_reducible refine is_move ?_); (refine At_plain hF (by (exact (rfl : _ = some (Value.slice _ _ _)))) ?_)) | ((with_reducible refine is_assign ?_); (refine At_plain hF (by (first | exact (rfl : _ = some (Value.int _ _)) | exact (rfl : _ = some (Value.slice _ _ _)))) ?_)) | with_reducible refine At_nil ?_)) | ((with_reducible refine is_At ?_); (first | with_reducible refine At_seq ?_; intro K hK | with_reducible refine At_region ?_ | with_reducible refine At_ret ?_ | with_reducible refine At_exit ?_ | with_reducible refine At_then_n ?_ | with_reducible refine At_then_e ?_ | with_reducible refine At_inb_e rfl ?_ | with_reducible refine At_go (by assumption) ?_))))
      rw [PQ_all]
      refine At_close 0 rfl (sc_len _) hc1 hc2 hc3 ?_
      refine At_ret2 rfl (rv_tmp (by decide)) (rv_tmp (by decide)) ?_
      exact At.pick [0, 1] (by decide) rfl (fun w' hw' => ⟨_, rfl, _, hpost _ _ ⟨bs, some bc, co, hbs, by rfl, rfl⟩, hw'⟩)
end Go.Proofs.Ytcjpghiceebkfaa.P
