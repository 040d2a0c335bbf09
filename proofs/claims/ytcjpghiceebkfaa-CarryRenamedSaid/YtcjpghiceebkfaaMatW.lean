/- carry.Matrix: the walk. -/
import Derived.Test.YtcjpghiceebkfaaCarried
import Derived.Test.YtcjpghiceebkfaaXB
namespace Go.Proofs.Ytcjpghiceebkfaa.P
open Go.RowKit Go.Proofs.YtcjpghiceebkfaaW.PrintWords Go.Proofs.YtcjpghiceebkfaaW.PrintLast Go.Proofs.YtcjpghiceebkfaaW.PrintMore
open XW RegInv
attribute [local irreducible] Addr.add
set_option linter.unusedSimpArgs false
set_option linter.unusedVariables false

theorem E29 : Enters Try.prog 29 := enters Try.func29 (by kernel_rfl) rfl
theorem E30 : Enters Try.prog 30 := enters Try.func30 (by kernel_rfl) rfl
theorem E43 : Enters Try.prog 43 := enters Try.func43 (by kernel_rfl) rfl

/-- one count more -/
def bump (M : List (List Int)) (x : Int × Int) : List (List Int) := M.set x.1.toNat ((M.getD x.1.toNat []).set x.2.toNat ((M.getD x.1.toNat []).getD x.2.toNat 0 + 1))
/-- what is told of foes' entries -/
structure EntOk (n : Int) (es : Ent) (r : Int) : Prop where
  key : ∀ e ∈ es, 0 ≤ e.1.1 ∧ e.1.1 < n ∧ 0 ≤ e.1.2 ∧ e.1.2 ≤ 63 ∧ 0 ≤ e.2 ∧ e.2 < n
  get : ∀ k v, mget es k = some v → 0 ≤ v ∧ v < n
  len : es.length ≤ 2000000

def matPost (n : Int) (m : List S45) (u : Value) (Rs : List Res) : Prop := match foesF n m with
  | none => u = .tuple #[.slice none 0 0, .int .i64 220] ∧ Rs = []
  | some (es, r) => ∃ bc bs M xs, carried_all es r xs ∧ M = xs.foldl bump (List.replicate n.toNat (List.replicate n.toNat 0)) ∧ bs.length = n.toNat ∧ u = .tuple #[.slice (some ⟨bc, 0, none⟩) n.toNat n.toNat, .int .i64 0] ∧
      Rs = [.obj bc (.cells (buf (sc (gvo n.toNat)) (bs.map some) []) 33 (0, 0)), .grid 3 (Value.int .i64) bs M]

theorem outer_set (N i bi : Nat) (bs : List Nat) (hbs : bs.length = i) (hi : i < N) : (buf (sc (gvo N)) (bs.map some ++ List.replicate (N - i) none) []).setIfInBounds i (.slice (some ⟨bi, 0, none⟩) N N) = buf (sc (gvo N)) ((bs ++ [bi]).map some ++ List.replicate (N - (i + 1)) none) [] := by
  have h := buf_set1 (junk := []) (l := bs.map some ++ List.replicate (N - i) none) (gvo N) (k := i) (x := some bi) (by simp; omega)
  rw [show Value.slice (some ⟨bi, 0, none⟩) N N = gvo N (some bi) from rfl, h]
  congr 1
  subst hbs
  rw [show N - bs.length = (N - (bs.length + 1)) + 1 by omega, List.replicate_succ, List.set_append_right _ _ (by simp)]
  simp
def M0 (N : Nat) : List (List Int) := List.replicate N (List.replicate N 0)
theorem bump_len (M : List (List Int)) (x : Int × Int) : (bump M x).length = M.length := by simp [bump]
theorem bump_row (M : List (List Int)) (x : Int × Int) (N : Nat) (h : ∀ r, r < M.length → (M.getD r []).length = N) : ∀ r, r < M.length → ((bump M x).getD r []).length = N := by
  intro r hr
  simp only [bump, List.getD_eq_getElem?_getD, List.getElem?_set]
  split
  · rename_i e
    subst e
    simp only [hr, if_true, Option.getD_some, List.length_set]
    have := h x.1.toNat hr
    rwa [List.getD_eq_getElem?_getD] at this
  · have := h r hr
    rwa [List.getD_eq_getElem?_getD] at this
theorem bump_le (M : List (List Int)) (x : Int × Int) (c : Int) (h : ∀ r k, 0 ≤ (M.getD r []).getD k 0 ∧ (M.getD r []).getD k 0 ≤ c) : ∀ r k, 0 ≤ ((bump M x).getD r []).getD k 0 ∧ ((bump M x).getD r []).getD k 0 ≤ c + 1 := by
  intro r k
  have hrk := h r k
  have hx := h x.1.toNat x.2.toNat
  have hc := h r x.2.toNat
  simp only [bump, List.getD_eq_getElem?_getD, List.getElem?_set] at *
  by_cases e : x.1.toNat = r
  · subst e
    rw [if_pos rfl]
    by_cases hl : x.1.toNat < M.length
    · simp only [hl, if_true, Option.getD_some, List.getElem?_set]
      by_cases e2 : x.2.toNat = k
      · subst e2
        rw [if_pos rfl]
        by_cases hk : x.2.toNat < (M[x.1.toNat]?.getD []).length
        · simp only [hk, if_true, Option.getD_some]; omega
        · simp only [hk, if_false, Option.getD_none]; omega
      · rw [if_neg e2]; omega
    · simp only [hl, if_false, Option.getD_none]
      simp; omega
  · rw [if_neg e]; omega

set_option maxHeartbeats 4000000 in
theorem matrix_rets (n : Int) (A : Option Addr) (c : Nat) (m : List S45) (w : World) (hr : Kd.C k45 w A m.length m) (hc : m.length ≤ c) (hok : ∀ es r, foesF n m = some (es, r) → 2 ≤ n ∧ n ≤ 20 ∧ EntOk n es r) :
    Rets Try.prog 11 #[.int .i64 n, .slice A m.length c] w fun u w' => ∃ Rs, matPost n m u Rs ∧ Mem w w' Rs := by
  have hF := wide_wide
  refine rets_at (n := 47) Try.func11 rfl Try.ntmps11 (by simp) ?_
  ((repeat (first | ((with_reducible refine is_AL ?_); (first | ((with_reducible refine is_move ?_); (refine At_plain hF (by (first | exact (rfl : _ = some (Value.int _ _)) | exact (rfl : _ = some (Value.slice _ _ _)))) ?_)) | ((with_reducible refine is_assign ?_); (refine At_plain hF (by (exact (rfl : _ = some (Value.int _ _)))) ?_)) | with_reducible refine At_nil ?_)) | ((with_reducible refine is_At ?_); (first | with_reducible refine At_seq ?_; intro K hK | with_reducible refine At_region ?_ | with_reducible refine At_then_n ?_ | with_reducible refine At_go (by assumption) ?_)))); ((with_reducible refine is_alloc ?_); (refine At_alloc hF (by (exact (rfl : _ = List.toArray (_ :: _)))) ?_; intro b4)); (repeat (first | ((with_reducible refine is_AL ?_); (first | ((with_reducible refine is_move ?_); (refine At_plain hF (by (first | exact (rfl : _ = some (Value.int _ _)) | exact (rfl : _ = some (Value.slice _ _ _)))) ?_)) | ((with_reducible refine is_assign ?_); (refine At_plain hF (by (exact (rfl : _ = some (Value.int _ _)))) ?_)) | with_reducible refine At_nil ?_)) | ((with_reducible refine is_At ?_); (first | with_reducible refine At_seq ?_; intro K hK | with_reducible refine At_region ?_ | with_reducible refine At_then_n ?_ | with_reducible refine At_go (by assumption) ?_)))))
  refine At_callM hF E29 rfl (arg2 (by (first | exact (rfl : _ = (Value.int _ _)) | exact (rfl : _ = (Value.bool _)) | exact (rfl : _ = (Value.pointer _)) | exact (rfl : _ = (Value.slice _ _ _)) | exact (rfl : _ = (Value.map _)) | exact (rfl : _ = (Value.func _ _ _)) | exact (rfl : _ = (Value.tuple _)) | exact (rfl : _ = (Value.agg _)) | exact (rfl : _ = (Value.string _)) | exact (rfl : _ = (Value.nilFunc)) | exact (rfl : _ = (Value.nilIface)))) (by (first | exact (rfl : _ = (Value.int _ _)) | exact (rfl : _ = (Value.bool _)) | exact (rfl : _ = (Value.pointer _)) | exact (rfl : _ = (Value.slice _ _ _)) | exact (rfl : _ = (Value.map _)) | exact (rfl : _ = (Value.func _ _ _)) | exact (rfl : _ = (Value.tuple _)) | exact (rfl : _ = (Value.agg _)) | exact (rfl : _ = (Value.string _)) | exact (rfl : _ = (Value.nilFunc)) | exact (rfl : _ = (Value.nilIface))))) (fun w' hw' => foes_rets n A c m w' (Kd.C_below hr hw'.below) hc) ?_
  intro u Rs hp
  unfold foesPost at hp
  cases hff : foesF n m with
  | none =>
    rw [hff] at hp
    obtain ⟨rfl, rfl⟩ := hp
    simp only [List.nil_append]
    (repeat (first | ((with_reducible refine is_AL ?_); (first | ((with_reducible refine is_move ?_); (refine At_plain hF (by (first | exact (rfl : _ = some (Value.map _)) | exact (rfl : _ = some (Value.tuple _)))) ?_)) | ((with_reducible refine is_bin ?_); (refine At_eqMapNil hF (by kernel_rfl) rfl rfl ?_)) | ((with_reducible refine is_assign ?_); (refine At_plain hF (by (first | exact (rfl : _ = some (Value.int _ _)) | exact (rfl : _ = some (Value.map _)))) ?_)) | ((with_reducible refine is_extract ?_); (refine At_plain hF (by (first | exact (rfl : _ = some (Value.int _ _)) | exact (rfl : _ = some (Value.map _)))) ?_)) | ((with_reducible refine is_store ?_); (refine At_store_0 hF rfl (by (exact (rfl : _ = (Value.slice _ _ _)))) (by (decide)) (by exact rfl) (by exact rfl) (by (exact (rfl : _ = List.toArray (_ :: _)))) ?_)) | with_reducible refine At_nil ?_)) | ((with_reducible refine is_At ?_); (first | with_reducible refine At_seq ?_; intro K hK | with_reducible refine At_region ?_ | with_reducible refine At_ret ?_ | with_reducible refine At_then_n ?_ | with_reducible refine At_then_r ?_ | with_reducible refine At_go (by assumption) ?_ | ((with_reducible refine is_cond ?_); (refine At_cond_t rfl ?_))))))
    refine At_ret2 rfl (rv_cell (by decide) rfl 0 rfl rfl) (rv_tmp (by decide)) ?_
    exact At.sub (List.nil_sublist _) (fun w' hw' => ⟨_, rfl, [], by rw [matPost, hff]; exact ⟨rfl, rfl⟩, hw'⟩)
  | some p =>
    obtain ⟨es, r⟩ := p
    rw [hff] at hp
    obtain ⟨bm, rfl, rfl⟩ := hp
    obtain ⟨hn2, hn20, hes⟩ := hok es r hff
    obtain ⟨N, rfl⟩ : ∃ N : Nat, n = N := ⟨n.toNat, by omega⟩
    simp only [List.cons_append, List.nil_append]
    (repeat (first | ((with_reducible refine is_AL ?_); (first | ((with_reducible refine is_move ?_); (refine At_plain hF (by (first | exact (rfl : _ = some (Value.int _ _)) | exact (rfl : _ = some (Value.map _)) | exact (rfl : _ = some (Value.tuple _)))) ?_)) | ((with_reducible refine is_bin ?_); (refine At_eqMapNil hF (by kernel_rfl) rfl rfl ?_)) | ((with_reducible refine is_assign ?_); (refine At_plain hF (by (first | exact (rfl : _ = some (Value.int _ _)) | exact (rfl : _ = some (Value.map _)))) ?_)) | ((with_reducible refine is_extract ?_); (refine At_plain hF (by (first | exact (rfl : _ = some (Value.int _ _)) | exact (rfl : _ = some (Value.map _)))) ?_)) | with_reducible refine At_nil ?_)) | ((with_reducible refine is_At ?_); (first | with_reducible refine At_seq ?_; intro K hK | with_reducible refine At_region ?_ | with_reducible refine At_skip ?_ | with_reducible refine At_then_n ?_ | with_reducible refine At_go (by assumption) ?_ | ((with_reducible refine is_cond ?_); (refine At_cond_f rfl ?_))))))
    (refine At_make hF (gvo N) none rfl rfl rfl rfl (by exact rfl) (by exact rfl) (by simp only [TS.bytes] <;> omega) (by omega) ?_; intro bc)
    (repeat (first | ((with_reducible refine is_AL ?_); (first | ((with_reducible refine is_move ?_); (refine At_plain hF (by (exact (rfl : _ = some (Value.int _ _)))) ?_)) | ((with_reducible refine is_call ?_); (refine At_len hF rfl ?_)) | ((with_reducible refine is_load ?_); (refine At_load hF 2 rfl rfl (by (exact (rfl : _ = some (Value.slice _ _ _)))) ?_)) | ((with_reducible refine is_store ?_); (refine At_store_2 hF rfl (by (exact (rfl : _ = (Value.slice _ _ _)))) (by (decide)) (by exact rfl) (by exact rfl) (by (exact (rfl : _ = List.toArray (_ :: _)))) ?_)) | with_reducible refine At_nil ?_)) | ((with_reducible refine is_At ?_); (first | with_reducible refine At_seq ?_; intro K hK | with_reducible refine At_block ?_ | with_reducible refine At_region ?_ | with_reducible refine At_then_n ?_ | with_reducible refine At_go (by assumption) ?_))))
    refine At.gridNew 3 (Value.int .i64) ?_
    refine At_loop (fun st : Nat × List Nat => [(0, .int .i64 N), (4, ip b4), (5, .int .i64 0), (6, .map (some bm)), (7, .int .i64 r), (22, .int .i64 N), (23, .int .i64 st.1)])
      (fun st => [.grid 3 (Value.int .i64) st.2 (List.replicate st.1 (List.replicate N 0)), .obj bc (.cells (buf (sc (gvo N)) (st.2.map some ++ List.replicate (N - st.1) none) []) 33), .map epair (Value.int .i64) bm es, .obj b4 (.cells #[.slice (some ⟨bc, 0, none⟩) N N] 25)])
      (fun st => st.1 ≤ N ∧ st.2.length = st.1) (fun st => N - st.1) (0, []) ?_ ?_ ⟨Nat.zero_le _, rfl⟩ ?_
    · (repeat (first | exact List.Sublist.refl _ | exact List.Sublist.slnil | refine List.Sublist.cons_cons _ ?_ | refine List.Sublist.cons _ ?_))
    · (repeat (first | exact True.intro | (refine And.intro ?_ ?_; focus (show _ = (_ : Value); first | exact rfl | (refine Eq.trans (b := Value.int IntKind.i64 _) rfl (congrArg (Value.int IntKind.i64) ?_); omega)))))
    rintro ⟨i, bs⟩ ⟨hi, hbs⟩ K hL ρ0
    simp only at hi hbs
    dsimp only
    (repeat (first | ((with_reducible refine is_AL ?_); (first | ((with_reducible refine is_bin ?_); (refine At_plain hF (by (exact (rfl : _ = some (Value.bool _)))) ?_)) | with_reducible refine At_nil ?_)) | ((with_reducible refine is_At ?_); (first | with_reducible refine At_seq ?_; intro K hK | with_reducible refine At_region ?_ | with_reducible refine At_then_n ?_ | with_reducible refine At_go (by assumption) ?_))))
    ((with_reducible refine is_cond ?_); (refine At_cond rfl ?_ ?_ <;> (intro hg; try (simp only [decide_eq_true_eq, decide_eq_false_iff_not, beq_iff_eq, bne_iff_ne, beq_eq_false_iff_ne, bne_eq_false_iff_eq, ne_eq, Bool.not_eq_true', Bool.not_eq_false', Bool.not_true, Bool.not_false, Decidable.not_not] at hg); try (exfalso; omega))))
    · have hlt : i < N := by omega
      (repeat (first | ((with_reducible refine is_AL ?_); (first | ((with_reducible refine is_move ?_); (refine At_plain hF (by (exact (rfl : _ = some (Value.int _ _)))) ?_)) | ((with_reducible refine is_assign ?_); (refine At_plain hF (by (exact (rfl : _ = some (Value.int _ _)))) ?_)) | with_reducible refine At_nil ?_)) | ((with_reducible refine is_At ?_); (first | with_reducible refine At_seq ?_; intro K hK | with_reducible refine At_block ?_ | with_reducible refine At_region ?_ | with_reducible refine At_skip ?_ | with_reducible refine At_then_n ?_ | with_reducible refine At_go (by assumption) ?_))))
      refine At_drawW hF 4 [0, 1, 2] [3] ([.obj b4 (.cells #[.slice (some ⟨bc, 0, none⟩) N N] 25)]) (by kernel_rfl) (by decide +kernel) ?_; simp only [List.drop_succ_cons, List.drop_zero]; (repeat ((with_reducible refine is_AQE ?_); refine AQE_cons (by exact (rfl : _ = some (Oper.mk _ _ _ _ _ _))) (by intro E K Q hK; simp only [List.cons_append, List.nil_append] at hK ⊢; (repeat (first | ((with_reducible refine is_move ?_); (refine At_plain hF (by (exact (rfl : _ = some (Value.int _ _)))) ?_)) | ((with_reducible refine is_load ?_); (refine At_load hF 0 rfl rfl (by (exact (rfl : _ = some (Value.slice _ _ _)))) ?_)))); exact At_nilK hK) ?_)); refine AQE_done ?_
      (refine WAt_cons ?_ (by exact (rfl : _ = some (Oper.mk _ _ _ _ _ _))) ?_; (focus (repeat (first | exact List.Sublist.refl _ | exact List.Sublist.slnil | refine List.Sublist.cons_cons _ ?_ | refine List.Sublist.cons _ ?_))); intro K Q hK)
      (refine At_make hF (Value.int .i64) 0 rfl rfl rfl rfl (by exact rfl) (by exact rfl) (by simp only [TS.bytes] <;> omega) (by omega) ?_; intro bi)
      refine At_nilK (hK _ _ ?_)
      (refine WAt_nil ?_ ?_; (focus (repeat (first | exact List.Sublist.refl _ | exact List.Sublist.slnil | refine List.Sublist.cons_cons _ ?_ | refine List.Sublist.cons _ ?_))))
      (repeat (first | ((with_reducible refine is_AL ?_); (first | ((with_reducible refine is_move ?_); (refine At_plain hF (by (exact (rfl : _ = some (Value.int _ _)))) ?_)) | ((with_reducible refine is_bin ?_); ((with_reducible refine is_badd ?_); (refine At_add hF rfl rfl (by omega) ?_))) | ((with_reducible refine is_index ?_); (refine At_indexS1 hF rfl rfl rfl (by omega) ?_)) | ((with_reducible refine is_store ?_); (refine At_store_2 hF rfl (by (exact (rfl : _ = (Value.slice _ _ _)))) (by (simp [buf_size1]; omega)) (by exact rfl) (by exact rfl) (by (exact rfl)) ?_)) | with_reducible refine At_nil ?_)) | ((with_reducible refine is_At ?_); (first | with_reducible refine At_region ?_ | with_reducible refine At_then_n ?_ | with_reducible refine At_inb_n ?_ | with_reducible refine At_go (by assumption) ?_))))
      rw [outer_set N i bi bs hbs hlt]
      refine At.gridPush ?_
      rw [show List.replicate i (List.replicate N (0 : Int)) ++ [List.replicate N 0] = List.replicate (i + 1) (List.replicate N 0) from (List.replicate_succ' ..).symm]
      refine At.sub ?_ (hL (i + 1, bs ++ [bi]) _ ⟨hlt, by simp [hbs]⟩ (by simp only; omega) ?_)
      · (repeat (first | exact List.Sublist.refl _ | exact List.Sublist.slnil | refine List.Sublist.cons_cons _ ?_ | refine List.Sublist.cons _ ?_))
      · (repeat (first | exact True.intro | (refine And.intro ?_ ?_; focus (show _ = (_ : Value); first | exact rfl | (refine Eq.trans (b := Value.int IntKind.i64 _) rfl (congrArg (Value.int IntKind.i64) ?_); omega)))))
    obtain rfl : i = N := by omega
    rw [show i - i = 0 by omega, show List.map some bs ++ List.replicate 0 none = bs.map some by simp, buf_map]
    (repeat (first | ((with_reducible refine is_AL ?_); ((with_reducible refine is_move ?_); (refine At_plain hF (by (first | exact (rfl : _ = some (Value.int _ _)) | exact (rfl : _ = some (Value.map _)))) ?_))) | ((with_reducible refine is_At ?_); (first | with_reducible refine At_seq ?_; intro K hK | with_reducible refine At_region ?_ | with_reducible refine At_exit ?_ | with_reducible refine At_then_n ?_ | with_reducible refine At_then_e ?_ | with_reducible refine At_inb_e rfl ?_ | with_reducible refine At_go (by assumption) ?_))))
    refine At_callM hF E30 rfl (arg2 (by (first | exact (rfl : _ = (Value.int _ _)) | exact (rfl : _ = (Value.bool _)) | exact (rfl : _ = (Value.pointer _)) | exact (rfl : _ = (Value.slice _ _ _)) | exact (rfl : _ = (Value.map _)) | exact (rfl : _ = (Value.func _ _ _)) | exact (rfl : _ = (Value.tuple _)) | exact (rfl : _ = (Value.agg _)) | exact (rfl : _ = (Value.string _)) | exact (rfl : _ = (Value.nilFunc)) | exact (rfl : _ = (Value.nilIface)))) (by (first | exact (rfl : _ = (Value.int _ _)) | exact (rfl : _ = (Value.bool _)) | exact (rfl : _ = (Value.pointer _)) | exact (rfl : _ = (Value.slice _ _ _)) | exact (rfl : _ = (Value.map _)) | exact (rfl : _ = (Value.func _ _ _)) | exact (rfl : _ = (Value.tuple _)) | exact (rfl : _ = (Value.agg _)) | exact (rfl : _ = (Value.string _)) | exact (rfl : _ = (Value.nilFunc)) | exact (rfl : _ = (Value.nilIface))))) (fun w' hw' => carried_rets bm r w') ?_
    rintro u Rs ⟨b2, b3, rfl, rfl⟩
    simp only [List.cons_append, List.nil_append]
    (repeat (first | ((with_reducible refine is_AL ?_); (with_reducible refine At_nil ?_)) | ((with_reducible refine is_At ?_); (first | with_reducible refine At_block ?_ | with_reducible refine At_then_n ?_ | with_reducible refine At_go (by assumption) ?_))))
    have hes' : ∀ e ∈ es, 0 ≤ e.1.2 ∧ e.1.2 ≤ 63 := fun e he => ⟨(hes.key e he).2.2.1, (hes.key e he).2.2.2.1⟩
    (refine At.pick [0, 1, 4, 2, 3, 5] (by decide) (R' := [_, _, _, _, _, _]) rfl ?_)
    refine At_range hF rfl rfl rfl E43 (ritC bm b2 b3 es r) args2 (carried_pre es r) (carried_all es r) (carried_iter hF rfl rfl w bm b2 b3 es r hes')
      (fun M : List (List Int) => [.grid 3 (Value.int .i64) bs M, .obj bc (.cells (buf (sc (gv i)) bs []) 33), .obj b4 (.cells #[.slice (some ⟨bc, 0, none⟩) i i] 25)])
      (fun xs M => M = xs.foldl bump (M0 i) ∧ M.length = i ∧ (∀ r, r < M.length → (M.getD r []).length = i) ∧ ∀ r k, 0 ≤ (M.getD r []).getD k 0 ∧ (M.getD r []).getD k 0 ≤ xs.length) (fun _ _ => False) (M0 i) ?_ ?_ (fun _ => rfl) ?_ ?_ ?_
    · exact List.Sublist.refl _
    · refine ⟨rfl, by simp [M0], fun r hr => ?_, fun r k => ?_⟩
      · simp [M0] at hr
        simp [M0, List.getD_eq_getElem?_getD, hr]
      · by_cases h : r < i
        · by_cases h2 : k < i
          · simp [M0, List.getD_eq_getElem?_getD, h, h2]
          · simp [M0, List.getD_eq_getElem?_getD, h, h2]
        · simp [M0, List.getD_eq_getElem?_getD, h]
    · rintro l rec Ri xs ⟨x1, x2⟩ M ⟨hM, hMl, hMr, hMb⟩ hpre
      have hF := Wide.inRound hF l
      simp only [List.cons_append, List.nil_append]
      (repeat (first | ((with_reducible refine is_AL ?_); (first | ((with_reducible refine is_assign ?_); (refine At_plain hF (by (exact (rfl : _ = some (Value.int _ _)))) ?_)) | with_reducible refine At_nil ?_)) | ((with_reducible refine is_At ?_); (first | with_reducible refine At_seq ?_; intro K hK | with_reducible refine At_region ?_ | with_reducible refine At_then_n ?_ | with_reducible refine At_go (by assumption) ?_))))
      refine fun w' hw' => ⟨rfl, hw', ?_⟩
      obtain ⟨e, he, hex⟩ := hpre.2 (x1, x2) (by simp)
      have hk := hes.key e he
      obtain ⟨j, hj, hjx⟩ := Option.map_eq_some_iff.1 hex
      have hg := hes.get _ _ hj
      simp only [Prod.mk.injEq] at hjx
      obtain ⟨rfl, rfl⟩ := hjx
      have hlen : xs.length + 1 ≤ 2000000 := by
        have := hpre.1
        have := hes.len
        simp at this ⊢
        simp at *
        omega
      have hb : 0 ≤ (M.getD e.2.toNat []).getD j.toNat default ∧ (M.getD e.2.toNat []).getD j.toNat default ≤ xs.length := hMb e.2.toNat j.toNat
      (repeat (first | ((with_reducible refine is_AL ?_); (first | ((with_reducible refine is_move ?_); (refine At_plain hF (by (exact (rfl : _ = some (Value.int _ _)))) ?_)) | ((with_reducible refine is_load ?_); (first | refine At_load hF 2 rfl rfl (by (exact buf_getI _ (by omega))) ?_ | refine At_load hF 3 rfl rfl (by (exact (rfl : _ = some (Value.slice _ _ _)))) ?_)) | ((with_reducible refine is_index ?_); (refine At_indexS1i hF rfl rfl rfl (by omega) (by omega) ?_)))) | ((with_reducible refine is_At ?_); (first | with_reducible refine At_block ?_ | with_reducible refine At_region ?_))))
      have hr1 : e.2.toNat < bs.length := by omega
      have hj1 : j.toNat < (M.getD e.2.toNat []).length := by rw [hMr _ (by omega)]; omega
      refine At_loadGrid (r := e.2.toNat) hF 1 (by exact rfl) rfl hr1 hj1 ?_
      (repeat ((with_reducible refine is_AL ?_); (first | ((with_reducible refine is_bin ?_); ((with_reducible refine is_badd ?_); (refine At_add hF rfl rfl (by omega) ?_))) | ((with_reducible refine is_index ?_); (refine At_indexS1i hF rfl rfl rfl (by omega) (by omega) ?_)))))
      refine At_storeGrid (r := e.2.toNat) (a := (M.getD e.2.toNat []).getD j.toNat default + 1) hF 1 (by exact rfl) (by exact rfl) rfl rfl rfl rfl hr1 hj1 ?_
      simp only [List.set_cons_succ, List.set_cons_zero]
      (repeat (first | ((with_reducible refine is_AL ?_); (with_reducible refine At_nil ?_)) | ((with_reducible refine is_At ?_); (with_reducible refine At_inb_n ?_))))
      refine rnd_n (bump M (e.2, j)) ?_ ⟨by rw [List.foldl_append, hM]; rfl, by rw [bump_len, hMl], ?_, ?_⟩
      · exact List.Sublist.refl _
      · intro r hr
        rw [bump_len] at hr
        exact bump_row M _ i hMr r hr
      · have := bump_le M (e.2, j) xs.length hMb
        intro r k
        have := this r k
        simp only [List.length_append, List.length_singleton]
        omega
    · rintro D xs M hall ⟨hM, -⟩
      simp only [ritC, List.cons_append, List.nil_append]
      (repeat (first | ((with_reducible refine is_AL ?_); (first | ((with_reducible refine is_assign ?_); (refine At_plain hF (by (exact (rfl : _ = some (Value.int _ _)))) ?_)) | ((with_reducible refine is_load ?_); (refine At_load hF 6 rfl rfl (by (exact (rfl : _ = some (Value.slice _ _ _)))) ?_)) | ((with_reducible refine is_store ?_); (refine At_store_6 hF rfl (by (exact (rfl : _ = (Value.slice _ _ _)))) (by (simp [buf_size1]; done)) (by exact rfl) (by exact rfl) (by (exact (rfl : _ = List.toArray (_ :: _)))) ?_)) | with_reducible refine At_nil ?_)) | ((with_reducible refine is_At ?_); (first | with_reducible refine At_seq ?_; intro K hK | with_reducible refine At_region ?_ | with_reducible refine At_ret ?_ | with_reducible refine At_then_n ?_ | with_reducible refine At_inb_n ?_ | with_reducible refine At_go (by assumption) ?_))))
      refine At_retm2 rfl (rv_cell (by decide) rfl 5 rfl rfl) (rv_tmp (by decide)) ?_
      exact At.pick [4, 3] (by decide) rfl (fun w' hw' => ⟨_, rfl, _, by rw [matPost, hff]; exact ⟨bc, bs, M, xs, hall, hM, hbs, rfl, by rw [buf_map]; rfl⟩, hw'⟩)
    · exact fun D e s he hf => hf.elim
end Go.Proofs.Ytcjpghiceebkfaa.P
