/- Loads, plain. -/
import Derived.Test.YtcjpghiceebkfaaP7
import Derived.Test.YtcjpghiceebkfaaNums
namespace Go.Proofs.Ytcjpghiceebkfaa.P
open Go.RowKit Go.Proofs.YtcjpghiceebkfaaW.PrintWords Go.Proofs.YtcjpghiceebkfaaW.PrintLast Go.Proofs.YtcjpghiceebkfaaW.PrintMore
open XW
set_option linter.unusedSimpArgs false
set_option linter.unusedVariables false

def term (M : List (List Int)) (rank : List Int) (t i : Nat) : Int := (M.getD i []).getD t 0 * rank.getD i 0
def colW (M : List (List Int)) (rank : List Int) (i t : Nat) : Int := ((List.range i).map (term M rank t)).sum
theorem colW_succ (M : List (List Int)) (rank : List Int) (i t : Nat) : colW M rank (i + 1) t = colW M rank i t + term M rank t i := by
  rw [colW, List.range_succ, List.map_append, List.sum_append]; simp [colW]
def stL (M : List (List Int)) (rank : List Int) (N i j : Nat) : List Int := (List.range N).map fun t => colW M rank (if t < j then i + 1 else i) t
theorem stL_len (M : List (List Int)) (rank : List Int) (N i j : Nat) : (stL M rank N i j).length = N := by simp [stL]
theorem stL_get (M : List (List Int)) (rank : List Int) (N i j : Nat) (h : j < N) : (stL M rank N i j).getD j 0 = colW M rank i j := by
  rw [List.getD_eq_getElem?_getD, stL, List.getElem?_map, List.getElem?_range h]; simp
theorem stL_set (M : List (List Int)) (rank : List Int) (N i j : Nat) (h : j < N) : (stL M rank N i j).set j (colW M rank (i + 1) j) = stL M rank N i (j + 1) := by
  apply List.ext_getElem
  · simp [stL]
  · intro t h1 h2
    rw [List.getElem_set]
    simp only [stL, List.getElem_map, List.getElem_range]
    by_cases e : j = t
    · subst e; rw [if_pos rfl, if_pos (by omega)]
    · rw [if_neg e]
      by_cases e2 : t < j
      · rw [if_pos e2, if_pos (by omega)]
      · rw [if_neg e2, if_neg (by omega)]
theorem stL_row (M : List (List Int)) (rank : List Int) (N i : Nat) : stL M rank N i N = stL M rank N (i + 1) 0 := by
  apply List.ext_getElem
  · simp [stL]
  · intro t h1 h2
    have : t < N := by simpa [stL] using h1
    simp only [stL, List.getElem_map, List.getElem_range]
    rw [if_pos this, if_neg (by omega)]
theorem stL_zero (M : List (List Int)) (rank : List Int) (N : Nat) : stL M rank N 0 0 = List.replicate N 0 := by
  rw [stL, ← List.length_range (n := N), ← List.map_const']
  simp [colW]
theorem term_bd {M : List (List Int)} {rank : List Int} (hM : ∀ row ∈ M, ∀ x ∈ row, 0 ≤ x ∧ x ≤ 2000000) (hr : ∀ x ∈ rank, 1 ≤ x ∧ x ≤ 1000) (t i : Nat) : 0 ≤ term M rank t i ∧ term M rank t i ≤ 2000000000 := by
  have h1 : 0 ≤ (M.getD i []).getD t 0 ∧ (M.getD i []).getD t 0 ≤ 2000000 := by
    by_cases hi : i < M.length
    · by_cases ht : t < (M.getD i []).length
      · exact hM _ (getD_mem' hi) _ (getD_mem' ht)
      · rw [List.getD_eq_getElem?_getD (i := t), List.getElem?_eq_none (by omega)]; simp
    · rw [List.getD_eq_getElem?_getD (i := i), List.getElem?_eq_none (by omega)]; simp
  have h2 : 0 ≤ rank.getD i 0 ∧ rank.getD i 0 ≤ 1000 := by
    by_cases hi : i < rank.length
    · have := hr _ (getD_mem' (d := 0) hi); omega
    · rw [List.getD_eq_getElem?_getD, List.getElem?_eq_none (by omega)]; simp
  rw [term]
  refine ⟨Int.mul_nonneg h1.1 h2.1, ?_⟩
  have := Int.mul_le_mul h1.2 h2.2 h2.1 (by omega)
  omega
theorem colW_bd {M : List (List Int)} {rank : List Int} (hM : ∀ row ∈ M, ∀ x ∈ row, 0 ≤ x ∧ x ≤ 2000000) (hr : ∀ x ∈ rank, 1 ≤ x ∧ x ≤ 1000) (t : Nat) : ∀ i, 0 ≤ colW M rank i t ∧ colW M rank i t ≤ 2000000000 * i
  | 0 => by simp [colW]
  | i + 1 => by
    have h1 := colW_bd hM hr t i
    have h2 := term_bd hM hr t i
    rw [colW_succ]; omega
theorem sum_ite (N : Nat) (f : Nat → Int) (a : Nat) (ha : a < N) : ((List.range N).map fun i => if i = a then f i else 0).sum = f a := by
  induction N with
  | zero => omega
  | succ N ih =>
    rw [List.range_succ, List.map_append, List.sum_append]
    simp only [List.map_cons, List.map_nil, List.sum_cons, List.sum_nil, Int.add_zero]
    by_cases h : a < N
    · rw [ih h, if_neg (by omega), Int.add_zero]
    · have : a = N := by omega
      subst this
      rw [if_pos rfl]
      have : ((List.range a).map fun i => if i = a then f i else 0).sum = 0 := by
        have e : ((List.range a).map fun i => if i = a then f i else 0) = (List.range a).map fun _ => (0 : Int) := List.map_congr_left fun i hi => if_neg (by have := List.mem_range.1 hi; omega)
        rw [e, List.map_const', List.length_range]
        clear ih h ha e
        induction a with
        | zero => rfl
        | succ a ih => rw [List.replicate_succ, List.sum_cons, ih]; rfl
      omega
theorem sum_add (N : Nat) (f g : Nat → Int) : ((List.range N).map fun i => f i + g i).sum = ((List.range N).map f).sum + ((List.range N).map g).sum := by
  induction N with
  | zero => rfl
  | succ N ih => simp only [List.range_succ, List.map_append, List.sum_append, ih, List.map_cons, List.map_nil, List.sum_cons, List.sum_nil]; omega
theorem col_loads (N : Nat) (rank : List Int) (j : Nat) (hj : j < N) : ∀ xs : List (Int × Int), (∀ x ∈ xs, (0 ≤ x.1 ∧ x.1 < N) ∧ 0 ≤ x.2 ∧ x.2 < N) → colW (cntM N xs) rank N j = loadAt rank xs j := by
  intro xs h
  have e : ∀ ys : List (Int × Int), colW (cntM N ys) rank N j = ((List.range N).map fun i : Nat => (ys.count ((i : Int), (j : Int)) : Int) * rank.getD i 0).sum := by
    intro ys
    rw [colW]
    refine congrArg List.sum (List.map_congr_left fun i hi => ?_)
    rw [term, cntM_get _ _ i (List.mem_range.1 hi), List.getD_eq_getElem?_getD, List.getElem?_map, List.getElem?_range hj]; rfl
  rw [e]
  induction xs with
  | nil =>
    simp only [List.count_nil, loadAt, List.filter_nil, List.map_nil, List.sum_nil]
    have : ((List.range N).map fun i : Nat => ((0 : Nat) : Int) * rank.getD i 0) = (List.range N).map fun _ => (0 : Int) := List.map_congr_left fun i _ => by simp
    rw [this, List.map_const', List.length_range]
    clear this hj e
    induction N with
    | zero => rfl
    | succ a ih => rw [List.replicate_succ, List.sum_cons, ih (fun _ h => by cases h)]; rfl
  | cons x xs ih =>
    have hx := h x (List.mem_cons_self ..)
    have ih := ih fun y hy => h y (List.mem_cons_of_mem _ hy)
    rw [show loadAt rank (x :: xs) j = (if x.2 = (j : Int) then rank.getD x.1.toNat 0 else 0) + loadAt rank xs j from ?_, ← ih]
    · have : (fun i : Nat => (((x :: xs).count ((i : Int), (j : Int)) : Nat) : Int) * rank.getD i 0) = fun i : Nat => (if i = x.1.toNat then (if x.2 = (j : Int) then rank.getD i 0 else 0) else 0) + (xs.count ((i : Int), (j : Int)) : Int) * rank.getD i 0 := by
        funext i
        rw [List.count_cons]
        by_cases h1 : x = ((i : Int), (j : Int))
        · subst h1; simp [Int.add_mul]; omega
        · rw [if_neg (by simpa using h1)]
          by_cases h2 : i = x.1.toNat
          · have h3 : x.2 ≠ (j : Int) := fun hc => h1 (Prod.ext (by simp only; omega) hc)
            rw [if_pos h2, if_neg h3]; simp
          · rw [if_neg h2]; simp
      rw [this, sum_add, sum_ite N (fun i : Nat => if x.2 = (j : Int) then rank.getD i 0 else 0) x.1.toNat (by omega)]
    · rw [loadAt, List.filter_cons]
      by_cases hc : x.2 = (j : Int)
      · rw [if_pos (by simpa using hc), if_pos hc, List.map_cons, List.sum_cons]; rfl
      · rw [if_neg (by simpa using hc), if_neg hc, Int.zero_add]; rfl
end Go.Proofs.Ytcjpghiceebkfaa.P
