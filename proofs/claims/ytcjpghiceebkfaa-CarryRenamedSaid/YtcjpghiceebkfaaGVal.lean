/- carry.Value: walk and contract. -/
import Derived.Test.YtcjpghiceebkfaaGMat
namespace Go.Proofs.Ytcjpghiceebkfaa.P
open Go.RowKit Go.Proofs.YtcjpghiceebkfaaW.PrintWords Go.Proofs.YtcjpghiceebkfaaW.PrintLast Go.Proofs.YtcjpghiceebkfaaW.PrintMore
open XW RegInv
attribute [local irreducible] Addr.add
set_option linter.unusedSimpArgs false
set_option linter.unusedVariables false

theorem E11 : Enters Try.prog 11 := enters Try.func11 (by kernel_rfl) rfl
theorem E31 : Enters Try.prog 31 := enters Try.func31 (by kernel_rfl) rfl
def sqs (l : List Int) : Int := (l.map fun x => x * x).sum
def sqsM (M : List (List Int)) : Int := (M.map sqs).sum
theorem sum_snoc (l : List Int) (x : Int) : (l ++ [x]).sum = l.sum + x := by simp
theorem take_snocD {α : Type} (l : List α) (k : Nat) (d : α) (h : k < l.length) : l.take (k + 1) = l.take k ++ [l.getD k d] := by
  rw [List.take_succ_eq_append_getElem h, List.getD_eq_getElem?_getD, List.getElem?_eq_getElem h]; rfl
theorem sqs_snoc (l : List Int) (k : Nat) (h : k < l.length) : sqs (l.take (k + 1)) = sqs (l.take k) + l.getD k 0 * l.getD k 0 := by
  rw [take_snocD l k 0 h, sqs, List.map_append, List.map_singleton, sum_snoc]; rfl
theorem sqsM_snoc (M : List (List Int)) (k : Nat) (h : k < M.length) : sqsM (M.take (k + 1)) = sqsM (M.take k) + sqs (M.getD k []) := by
  rw [take_snocD M k [] h, sqsM, List.map_append, List.map_singleton, sum_snoc]; rfl
theorem sq_bd {x : Int} (h : 0 ≤ x ∧ x ≤ 2000000) : 0 ≤ x * x ∧ x * x ≤ 4000000000000 := ⟨Int.mul_nonneg h.1 h.1, by
  have := Int.mul_le_mul h.2 h.2 h.1 (by omega : (0 : Int) ≤ 2000000)
  omega⟩
theorem sqs_bd (l : List Int) (h : ∀ x ∈ l, 0 ≤ x ∧ x ≤ 2000000) : 0 ≤ sqs l ∧ sqs l ≤ 4000000000000 * l.length := by
  induction l with
  | nil => simp [sqs]
  | cons x l ih =>
    have h1 := sq_bd (h x (by simp))
    have h2 := ih (fun y hy => h y (by simp [hy]))
    simp only [sqs, List.map_cons, List.sum_cons, List.length_cons] at *
    omega
theorem sqsM_bd (M : List (List Int)) (n : Nat) (hn : n ≤ 20) (hl : ∀ row ∈ M, row.length = n) (h : ∀ row ∈ M, ∀ x ∈ row, 0 ≤ x ∧ x ≤ 2000000) : 0 ≤ sqsM M ∧ sqsM M ≤ 80000000000000 * M.length := by
  induction M with
  | nil => simp [sqsM]
  | cons r M ih =>
    have h1 := sqs_bd r (h r (by simp))
    have h2 := ih (fun y hy => hl y (by simp [hy])) (fun y hy => h y (by simp [hy]))
    have h3 := hl r (by simp)
    simp only [sqsM, List.map_cons, List.sum_cons, List.length_cons] at *
    omega

theorem add_rets {base w : World} {R : List Res} {b4 : Nat} {v x : Int} (hx : 0 ≤ x ∧ x ≤ 2000000) (hv : 0 ≤ v ∧ v ≤ 4000000000000000000) (hw : Mem base w (.obj b4 (.cells #[.int .i64 v] 3) :: R)) :
    Rets Try.prog 31 #[.int .i64 x, .pointer (some ⟨b4, 0, none⟩)] w fun u w' => ∃ R', (u = .tuple #[] ∧ R' = .obj b4 (.cells #[.int .i64 (v + x * x)] 3) :: R) ∧ Mem base w' R' := by
  have hF := wide_wide
  have hs := sq_bd hx
  refine rets_at' (n := _) hw Try.func31 rfl Try.ntmps31 (by simp) ?_
  (repeat (first | ((with_reducible refine is_AL ?_); (first | ((with_reducible refine is_move ?_); (refine At_plain hF (by (exact (rfl : _ = some (Value.int _ _)))) ?_)) | ((with_reducible refine is_bin ?_); (first | ((with_reducible refine is_badd ?_); (refine At_add hF rfl rfl (by omega) ?_)) | ((with_reducible refine is_bmul ?_); (refine At_mul hF rfl rfl (by omega) ?_)))) | ((with_reducible refine is_load ?_); (refine At_load hF 0 rfl rfl (by (exact (rfl : _ = some (Value.int _ _)))) ?_)) | ((with_reducible refine is_store ?_); (refine At_store_0 hF rfl (by (exact (rfl : _ = (Value.int _ _)))) (by (simp [buf_size1]; done)) (by exact rfl) (by exact rfl) (by (exact (rfl : _ = List.toArray (_ :: _)))) ?_)) | with_reducible refine At_nil ?_)) | ((with_reducible refine is_At ?_); (with_reducible refine At_region ?_))))
  refine At_fin0n rfl (fun w' hw' => ⟨_, rfl, _, ⟨rfl, rfl⟩, hw'⟩)

theorem cntM_bd {N : Nat} {xs : List (Int × Int)} (h : xs.length ≤ 2000000) : ∀ row ∈ cntM N xs, ∀ x ∈ row, 0 ≤ x ∧ x ≤ 2000000 := by
  intro row hrow x hx
  simp only [cntM, List.mem_map] at hrow
  obtain ⟨i, _, rfl⟩ := hrow
  obtain ⟨j, _, rfl⟩ := List.mem_map.1 hx
  have := List.count_le_length (l := xs) (a := ((i : Int), (j : Int)))
  omega
theorem getD_mem' {α : Type} {l : List α} {k : Nat} {d : α} (h : k < l.length) : l.getD k d ∈ l := by
  rw [List.getD_eq_getElem?_getD, List.getElem?_eq_getElem h]; exact List.getElem_mem h

set_option maxHeartbeats 1000000 in
theorem value_rets (n : Int) (A : Option Addr) (c : Nat) (m : List S45) (w : World) (hr : Kd.C k45 w A m.length m) (hc : m.length ≤ c) (hm : m.length ≤ 1000000) :
    Rets Try.prog 13 #[.int .i64 n, .slice A m.length c] w fun u w' => (u = match foesF n m with
      | none => .tuple #[.int .i64 0, .int .i64 220]
      | some (es, r) => .tuple #[.int .i64 (sqsM (cntM n.toNat (es.filterMap (nxt es r)))), .int .i64 0]) ∧ Below w.heap.size w w' := by
  have hF := wide_wide
  have hok := fun es r hf => foes_ok n m hm es r hf
  refine rets_at (n := 38) Try.func13 rfl Try.ntmps13 (by simp) ?_
  ((repeat (first | ((with_reducible refine is_AL ?_); (first | ((with_reducible refine is_move ?_); (refine At_plain hF (by (first | exact (rfl : _ = some (Value.int _ _)) | exact (rfl : _ = some (Value.slice _ _ _)))) ?_)) | ((with_reducible refine is_assign ?_); (refine At_plain hF (by (exact (rfl : _ = some (Value.int _ _)))) ?_)) | with_reducible refine At_nil ?_)) | ((with_reducible refine is_At ?_); (first | with_reducible refine At_seq ?_; intro K hK | with_reducible refine At_region ?_ | with_reducible refine At_then_n ?_ | with_reducible refine At_go (by assumption) ?_)))); ((with_reducible refine is_alloc ?_); (refine At_alloc hF (by (exact (rfl : _ = List.toArray (_ :: _)))) ?_; intro b4)); (repeat (first | ((with_reducible refine is_AL ?_); (first | ((with_reducible refine is_move ?_); (refine At_plain hF (by (first | exact (rfl : _ = some (Value.int _ _)) | exact (rfl : _ = some (Value.slice _ _ _)))) ?_)) | ((with_reducible refine is_assign ?_); (refine At_plain hF (by (exact (rfl : _ = some (Value.int _ _)))) ?_)) | with_reducible refine At_nil ?_)) | ((with_reducible refine is_At ?_); (first | with_reducible refine At_seq ?_; intro K hK | with_reducible refine At_region ?_ | with_reducible refine At_then_n ?_ | with_reducible refine At_go (by assumption) ?_)))))
  refine At_callM hF E11 rfl (arg2 (by (first | exact (rfl : _ = (Value.int _ _)) | exact (rfl : _ = (Value.bool _)) | exact (rfl : _ = (Value.pointer _)) | exact (rfl : _ = (Value.slice _ _ _)) | exact (rfl : _ = (Value.map _)) | exact (rfl : _ = (Value.func _ _ _)) | exact (rfl : _ = (Value.tuple _)) | exact (rfl : _ = (Value.agg _)) | exact (rfl : _ = (Value.string _)) | exact (rfl : _ = (Value.nilFunc)) | exact (rfl : _ = (Value.nilIface)))) (by (first | exact (rfl : _ = (Value.int _ _)) | exact (rfl : _ = (Value.bool _)) | exact (rfl : _ = (Value.pointer _)) | exact (rfl : _ = (Value.slice _ _ _)) | exact (rfl : _ = (Value.map _)) | exact (rfl : _ = (Value.func _ _ _)) | exact (rfl : _ = (Value.tuple _)) | exact (rfl : _ = (Value.agg _)) | exact (rfl : _ = (Value.string _)) | exact (rfl : _ = (Value.nilFunc)) | exact (rfl : _ = (Value.nilIface))))) (fun w' hw' => matrix_rets n A c m w' (Kd.C_below hr hw'.below) hc hok) ?_
  intro u Rs hp
  unfold matPost at hp
  cases hff : foesF n m with
  | none =>
    rw [hff] at hp
    obtain ⟨rfl, rfl⟩ := hp
    simp only [List.nil_append]
    (repeat (first | ((with_reducible refine is_AL ?_); (first | ((with_reducible refine is_move ?_); (refine At_plain hF (by (first | exact (rfl : _ = some (Value.int _ _)) | exact (rfl : _ = some (Value.slice _ _ _)) | exact (rfl : _ = some (Value.tuple _)))) ?_)) | ((with_reducible refine is_assign ?_); (refine At_plain hF (by (first | exact (rfl : _ = some (Value.int _ _)) | exact (rfl : _ = some (Value.slice _ _ _)) | exact (rfl : _ = some (Value.func _ _ _)))) ?_)) | ((with_reducible refine is_extract ?_); (refine At_plain hF (by (first | exact (rfl : _ = some (Value.int _ _)) | exact (rfl : _ = some (Value.slice _ _ _)))) ?_)) | ((with_reducible refine is_func ?_); (refine At_func1 hF (by (exact (rfl : _ = (Value.pointer _)))) ?_)) | ((with_reducible refine is_call ?_); (refine At_len hF rfl ?_)) | with_reducible refine At_nil ?_)) | ((with_reducible refine is_At ?_); (first | with_reducible refine At_seq ?_; intro K hK | with_reducible refine At_block ?_ | with_reducible refine At_region ?_ | with_reducible refine At_then_n ?_ | with_reducible refine At_go (by assumption) ?_))))
    refine At_loop (fun st : Nat => [(4, .pointer (some ⟨b4, 0, none⟩)), (5, .int .i64 220), (20, .int .i64 (0 : Nat)), (21, .int .i64 0)]) (fun st => [.obj b4 (.cells #[.int .i64 0] 3)]) (fun _ => True) id 0 ?_ ?_ trivial ?_
    · (repeat (first | exact List.Sublist.refl _ | exact List.Sublist.slnil | refine List.Sublist.cons_cons _ ?_ | refine List.Sublist.cons _ ?_))
    · (repeat (first | exact True.intro | (refine And.intro ?_ ?_; focus (show _ = (_ : Value); first | exact rfl | (refine Eq.trans (b := Value.int IntKind.i64 _) rfl (congrArg (Value.int IntKind.i64) ?_); omega)))))
    intro st _ K hL ρ0
    (repeat (first | ((with_reducible refine is_AL ?_); (first | ((with_reducible refine is_move ?_); (refine At_plain hF (by (exact (rfl : _ = some (Value.int _ _)))) ?_)) | ((with_reducible refine is_bin ?_); (refine At_plain hF (by (exact (rfl : _ = some (Value.bool _)))) ?_)) | ((with_reducible refine is_assign ?_); (refine At_plain hF (by (exact (rfl : _ = some (Value.int _ _)))) ?_)) | ((with_reducible refine is_load ?_); (refine At_load hF 0 rfl rfl (by (exact (rfl : _ = some (Value.int _ _)))) ?_)) | ((with_reducible refine is_store ?_); (refine At_store_0 hF rfl (by (exact (rfl : _ = (Value.int _ _)))) (by (decide)) (by exact rfl) (by exact rfl) (by (exact (rfl : _ = List.toArray (_ :: _)))) ?_)) | with_reducible refine At_nil ?_)) | ((with_reducible refine is_At ?_); (first | with_reducible refine At_seq ?_; intro K hK | with_reducible refine At_region ?_ | with_reducible refine At_ret ?_ | with_reducible refine At_exit ?_ | with_reducible refine At_then_n ?_ | with_reducible refine At_then_e ?_ | with_reducible refine At_inb_e rfl ?_ | with_reducible refine At_go (by assumption) ?_ | ((with_reducible refine is_cond ?_); (refine At_cond_f rfl ?_))))))
    refine At_ret2 rfl (rv_cell (by decide) rfl 0 rfl rfl) (rv_tmp (by decide)) (fun w' hw' => ⟨_, rfl, by rw [hff]; rfl, hw'.below⟩)
  | some p =>
    obtain ⟨es, r⟩ := p
    rw [hff] at hp
    obtain ⟨bc, bs, M, xs, hall, hM, hbs, rfl, rfl⟩ := hp
    obtain ⟨hn2, hn20, hes⟩ := hok es r hff
    obtain ⟨N, rfl⟩ : ∃ N : Nat, n = N := ⟨n.toNat, by omega⟩
    simp only [Int.toNat_natCast] at *
    have hM' : M = cntM N (es.filterMap (nxt es r)) := hM.trans (mat_eq hes hall)
    have hMl : M.length = N := by rw [hM', cntM_len]
    have hMr := cntM_row N (es.filterMap (nxt es r))
    rw [← hM'] at hMr
    have hMb := cntM_bd (N := N) (xs := es.filterMap (nxt es r)) (Nat.le_trans (List.length_filterMap_le _ _) hes.len)
    rw [← hM'] at hMb
    rw [← hM']
    rw [buf_map]
    simp only [List.cons_append, List.nil_append]
    (repeat (first | ((with_reducible refine is_AL ?_); (first | ((with_reducible refine is_move ?_); (refine At_plain hF (by (first | exact (rfl : _ = some (Value.int _ _)) | exact (rfl : _ = some (Value.slice _ _ _)) | exact (rfl : _ = some (Value.tuple _)))) ?_)) | ((with_reducible refine is_assign ?_); (refine At_plain hF (by (first | exact (rfl : _ = some (Value.int _ _)) | exact (rfl : _ = some (Value.slice _ _ _)) | exact (rfl : _ = some (Value.func _ _ _)))) ?_)) | ((with_reducible refine is_extract ?_); (refine At_plain hF (by (first | exact (rfl : _ = some (Value.int _ _)) | exact (rfl : _ = some (Value.slice _ _ _)))) ?_)) | ((with_reducible refine is_func ?_); (refine At_func1 hF (by (exact (rfl : _ = (Value.pointer _)))) ?_)) | ((with_reducible refine is_call ?_); (refine At_len hF rfl ?_)) | with_reducible refine At_nil ?_)) | ((with_reducible refine is_At ?_); (first | with_reducible refine At_seq ?_; intro K hK | with_reducible refine At_block ?_ | with_reducible refine At_region ?_ | with_reducible refine At_then_n ?_ | with_reducible refine At_go (by assumption) ?_))))
    (refine At.pick [2, 0, 1] (by decide) (R' := [_, _, _]) rfl ?_)
    refine At_loop (fun i : Nat => [(4, .pointer (some ⟨b4, 0, none⟩)), (5, .int .i64 0), (7, .func (.func 31) #[] #[.pointer (some ⟨b4, 0, none⟩)]), (19, .slice (some ⟨bc, 0, none⟩) N N), (20, .int .i64 N), (21, .int .i64 i)])
      (fun i => [.obj b4 (.cells #[.int .i64 (sqsM (M.take i))] 3), .obj bc (.cells (buf (sc (gv N)) bs []) 33), .grid 3 (Value.int .i64) bs M]) (fun i => i ≤ N) (fun i => N - i) 0 ?_ ?_ (Nat.zero_le _) ?_
    · (repeat (first | exact List.Sublist.refl _ | exact List.Sublist.slnil | refine List.Sublist.cons_cons _ ?_ | refine List.Sublist.cons _ ?_))
    · (repeat (first | exact True.intro | (refine And.intro ?_ ?_; focus (show _ = (_ : Value); first | exact rfl | (refine Eq.trans (b := Value.int IntKind.i64 _) rfl (congrArg (Value.int IntKind.i64) ?_); omega)))))
    intro i hi K hL ρ0
    try dsimp only
    (repeat (first | ((with_reducible refine is_AL ?_); (first | ((with_reducible refine is_bin ?_); (refine At_plain hF (by (exact (rfl : _ = some (Value.bool _)))) ?_)) | with_reducible refine At_nil ?_)) | ((with_reducible refine is_At ?_); (first | with_reducible refine At_seq ?_; intro K hK | with_reducible refine At_region ?_ | with_reducible refine At_then_n ?_ | with_reducible refine At_go (by assumption) ?_))))
    ((with_reducible refine is_cond ?_); (refine At_cond rfl ?_ ?_ <;> (intro hg; try (simp only [decide_eq_true_eq, decide_eq_false_iff_not, beq_iff_eq, bne_iff_ne, beq_eq_false_iff_ne, bne_eq_false_iff_eq, ne_eq, Bool.not_eq_true', Bool.not_eq_false', Bool.not_true, Bool.not_false, Decidable.not_not] at hg); try (exfalso; omega))))
    · have hlt : i < N := by omega
      have hmem : M.getD i [] ∈ M := getD_mem' (by omega)
      have hrl := hMr _ hmem
      have hrb := hMb _ hmem
      have hsn := sqsM_snoc M i (by omega)
      have hsb := sqsM_bd (M.take i) N (by omega) (fun row h => hMr row (List.mem_of_mem_take h)) (fun row h => hMb row (List.mem_of_mem_take h))
      have hst : (M.take i).length ≤ 20 := by simp; omega
      (repeat (first | ((with_reducible refine is_AL ?_); (first | ((with_reducible refine is_move ?_); (refine At_plain hF (by (first | exact (rfl : _ = some (Value.int _ _)) | exact (rfl : _ = some (Value.slice _ _ _)))) ?_)) | ((with_reducible refine is_assign ?_); (refine At_plain hF (by (exact (rfl : _ = some (Value.slice _ _ _)))) ?_)) | ((with_reducible refine is_call ?_); (refine At_len hF rfl ?_)) | ((with_reducible refine is_load ?_); (refine At_load hF 1 rfl rfl (by (exact buf_getI _ (by omega))) ?_)) | ((with_reducible refine is_index ?_); (refine At_indexS1 hF rfl rfl rfl (by omega) ?_)) | with_reducible refine At_nil ?_)) | ((with_reducible refine is_At ?_); (first | with_reducible refine At_seq ?_; intro K hK | with_reducible refine At_block ?_ | with_reducible refine At_region ?_ | with_reducible refine At_skip ?_ | with_reducible refine At_then_n ?_ | with_reducible refine At_go (by assumption) ?_))))
      refine At_loop (fun j : Nat => [(4, .pointer (some ⟨b4, 0, none⟩)), (5, .int .i64 0), (7, .func (.func 31) #[] #[.pointer (some ⟨b4, 0, none⟩)]), (19, .slice (some ⟨bc, 0, none⟩) N N), (20, .int .i64 N), (21, .int .i64 i), (25, .slice (some ⟨bs.getD i default, 0, none⟩) N N), (26, .int .i64 N), (27, .int .i64 j)])
        (fun j => [.obj b4 (.cells #[.int .i64 (sqsM (M.take i) + sqs ((M.getD i []).take j))] 3), .obj bc (.cells (buf (sc (gv N)) bs []) 33), .grid 3 (Value.int .i64) bs M]) (fun j => j ≤ N) (fun j => N - j) 0 ?_ ?_ (Nat.zero_le _) ?_
      · simp only [List.take_zero, sqs, List.map_nil, List.sum_nil, Int.add_zero]
        (repeat (first | exact List.Sublist.refl _ | exact List.Sublist.slnil | refine List.Sublist.cons_cons _ ?_ | refine List.Sublist.cons _ ?_))
      · (repeat (first | exact True.intro | (refine And.intro ?_ ?_; focus (show _ = (_ : Value); first | exact rfl | (refine Eq.trans (b := Value.int IntKind.i64 _) rfl (congrArg (Value.int IntKind.i64) ?_); omega)))))
      intro j hj K hI ρ1
      try dsimp only
      (repeat (first | ((with_reducible refine is_AL ?_); (first | ((with_reducible refine is_bin ?_); (refine At_plain hF (by (exact (rfl : _ = some (Value.bool _)))) ?_)) | with_reducible refine At_nil ?_)) | ((with_reducible refine is_At ?_); (first | with_reducible refine At_seq ?_; intro K hK | with_reducible refine At_region ?_ | with_reducible refine At_then_n ?_ | with_reducible refine At_go (by assumption) ?_))))
      ((with_reducible refine is_cond ?_); (refine At_cond rfl ?_ ?_ <;> (intro hg; try (simp only [decide_eq_true_eq, decide_eq_false_iff_not, beq_iff_eq, bne_iff_ne, beq_eq_false_iff_ne, bne_eq_false_iff_eq, ne_eq, Bool.not_eq_true', Bool.not_eq_false', Bool.not_true, Bool.not_false, Decidable.not_not] at hg); try (exfalso; omega))))
      · have hjl : j < N := by omega
        have hs2 := sqs_snoc (M.getD i []) j (by omega)
        have hxb := hrb ((M.getD i []).getD j 0) (getD_mem' (by omega))
        have hs2b := sqs_bd ((M.getD i []).take j) (fun x h => hrb x (List.mem_of_mem_take h))
        have hst2 : ((M.getD i []).take j).length ≤ 20 := by simp; omega
        (repeat (first | ((with_reducible refine is_AL ?_); ((with_reducible refine is_index ?_); (refine At_indexS1 hF rfl rfl rfl (by omega) ?_))) | ((with_reducible refine is_At ?_); (first | with_reducible refine At_seq ?_; intro K hK | with_reducible refine At_block ?_ | with_reducible refine At_region ?_ | with_reducible refine At_skip ?_ | with_reducible refine At_then_n ?_ | with_reducible refine At_go (by assumption) ?_))))
        refine At_loadGrid (r := i) hF 2 (by exact rfl) rfl (by omega) (by omega) ?_
        (repeat (first | ((with_reducible refine is_AL ?_); (first | ((with_reducible refine is_move ?_); (refine At_plain hF (by (first | exact (rfl : _ = some (Value.int _ _)) | exact (rfl : _ = some (Value.func _ _ _)))) ?_)) | ((with_reducible refine is_assign ?_); (refine At_plain hF (by (exact (rfl : _ = some (Value.int _ _)))) ?_)) | with_reducible refine At_nil ?_)) | ((with_reducible refine is_At ?_); (first | with_reducible refine At_region ?_ | with_reducible refine At_then_n ?_ | with_reducible refine At_go (by assumption) ?_))))
        refine At_callvG hF E31 rfl (by exact rfl) (arg1 (by (first | exact (rfl : _ = (Value.int _ _)) | exact (rfl : _ = (Value.bool _)) | exact (rfl : _ = (Value.pointer _)) | exact (rfl : _ = (Value.slice _ _ _)) | exact (rfl : _ = (Value.map _)) | exact (rfl : _ = (Value.func _ _ _)) | exact (rfl : _ = (Value.tuple _)) | exact (rfl : _ = (Value.agg _)) | exact (rfl : _ = (Value.string _)) | exact (rfl : _ = (Value.nilFunc)) | exact (rfl : _ = (Value.nilIface))))) (by simp) (fun w' hw' => add_rets (x := (M.getD i []).getD j default) hxb (by omega) hw') ?_
        rintro u R' ⟨rfl, rfl⟩
        (repeat (first | ((with_reducible refine is_AL ?_); (first | ((with_reducible refine is_move ?_); (refine At_plain hF (by (exact (rfl : _ = some (Value.int _ _)))) ?_)) | ((with_reducible refine is_bin ?_); ((with_reducible refine is_badd ?_); (refine At_add hF rfl rfl (by omega) ?_))) | with_reducible refine At_nil ?_)) | ((with_reducible refine is_At ?_); (first | with_reducible refine At_region ?_ | with_reducible refine At_then_n ?_ | with_reducible refine At_inb_n ?_ | with_reducible refine At_go (by assumption) ?_))))
        rw [show sqsM (M.take i) + sqs ((M.getD i []).take j) + (M.getD i []).getD j default * (M.getD i []).getD j default = sqsM (M.take i) + sqs ((M.getD i []).take (j + 1)) by rw [hs2, Int.add_assoc]; rfl]
        refine At.sub ?_ (hI (j + 1) _ (by omega) (by omega) ?_)
        · (repeat (first | exact List.Sublist.refl _ | exact List.Sublist.slnil | refine List.Sublist.cons_cons _ ?_ | refine List.Sublist.cons _ ?_))
        · (repeat (first | exact True.intro | (refine And.intro ?_ ?_; focus (show _ = (_ : Value); first | exact rfl | (refine Eq.trans (b := Value.int IntKind.i64 _) rfl (congrArg (Value.int IntKind.i64) ?_); omega)))))
      · obtain rfl : j = N := by omega
        (repeat (first | ((with_reducible refine is_AL ?_); (first | ((with_reducible refine is_move ?_); (refine At_plain hF (by (exact (rfl : _ = some (Value.int _ _)))) ?_)) | ((with_reducible refine is_bin ?_); ((with_reducible refine is_badd ?_); (refine At_add hF rfl rfl (by omega) ?_))) | with_reducible refine At_nil ?_)) | ((with_reducible refine is_At ?_); (first | with_reducible refine At_region ?_ | with_reducible refine At_exit ?_ | with_reducible refine At_then_n ?_ | with_reducible refine At_then_e ?_ | with_reducible refine At_inb_n ?_ | with_reducible refine At_inb_e rfl ?_ | with_reducible refine At_go (by assumption) ?_))))
        rw [List.take_of_length_le (by omega : (M.getD i []).length ≤ j), ← hsn]
        refine At.sub ?_ (hL (i + 1) _ (by omega) (by omega) ?_)
        · (repeat (first | exact List.Sublist.refl _ | exact List.Sublist.slnil | refine List.Sublist.cons_cons _ ?_ | refine List.Sublist.cons _ ?_))
        · (repeat (first | exact True.intro | (refine And.intro ?_ ?_; focus (show _ = (_ : Value); first | exact rfl | (refine Eq.trans (b := Value.int IntKind.i64 _) rfl (congrArg (Value.int IntKind.i64) ?_); omega)))))
    · obtain rfl : i = N := by omega
      (repeat (first | ((with_reducible refine is_AL ?_); (first | ((with_reducible refine is_move ?_); (refine At_plain hF (by (exact (rfl : _ = some (Value.int _ _)))) ?_)) | ((with_reducible refine is_assign ?_); (refine At_plain hF (by (exact (rfl : _ = some (Value.int _ _)))) ?_)) | ((with_reducible refine is_load ?_); (refine At_load hF 0 rfl rfl (by (exact (rfl : _ = some (Value.int _ _)))) ?_)) | ((with_reducible refine is_store ?_); (refine At_store_0 hF rfl (by (exact (rfl : _ = (Value.int _ _)))) (by (simp [buf_size1]; done)) (by exact rfl) (by exact rfl) (by (exact (rfl : _ = List.toArray (_ :: _)))) ?_)) | with_reducible refine At_nil ?_)) | ((with_reducible refine is_At ?_); (first | with_reducible refine At_seq ?_; intro K hK | with_reducible refine At_region ?_ | with_reducible refine At_ret ?_ | with_reducible refine At_exit ?_ | with_reducible refine At_then_n ?_ | with_reducible refine At_then_e ?_ | with_reducible refine At_inb_e rfl ?_ | with_reducible refine At_go (by assumption) ?_))))
      refine At_ret2 rfl (rv_cell (by decide) rfl 0 rfl rfl) (rv_tmp (by decide)) (fun w' hw' => ⟨_, rfl, ?_, hw'.below⟩)
      rw [hff]
      show _ = Value.tuple #[.int .i64 (sqsM (cntM i (es.filterMap (nxt es r)))), .int .i64 0]
      rw [← hM', List.take_of_length_le (by omega : M.length ≤ i)]
      rfl
def carry_Value.f (a0 : Int) (l1 : List (S45)) : Option (Int × Int) := if l1.length ≤ 1000000 then some (match foesF a0 l1 with
  | none => (0, 220)
  | some (es, r) => (sqsM (cntM a0.toNat (es.filterMap (nxt es r))), 0)) else none
theorem carry_Value.calls (a0 : Int) (A1 : Option Addr) (c1 : Nat) (l1 : List (S45)) (r1 : Int) (r2 : Int) (w : World) (hr1 : Kd.C k45 w A1 l1.length l1) (hc1 : l1.length ≤ c1) (h : carry_Value.f a0 l1 = some (r1, r2)) :
    Calls Try.prog 13 #[.int .i64 a0, .slice A1 l1.length c1] w fun e w' => e = .returned (.tuple #[.int .i64 r1, .int .i64 r2]) ∧ Below w.heap.size w w' := by
  unfold carry_Value.f at h
  split at h
  · rename_i hm
    refine (value_rets a0 A1 c1 l1 w hr1 hc1 hm).mono ?_
    rintro e w' ⟨u, rfl, rfl, hb⟩
    refine ⟨?_, hb⟩
    cases hf : foesF a0 l1 with
    | none => rw [hf] at h; cases h; rfl
    | some p => obtain ⟨es, r⟩ := p; rw [hf] at h; cases h; rfl
  · cases h
end Go.Proofs.Ytcjpghiceebkfaa.P
