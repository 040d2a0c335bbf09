/- Loads, plain. -/
import Derived.Test.YtcjpghiceebkfaaP7
import Derived.Test.YtcjpghiceebkfaaNums
namespace Go.Proofs.Ytcjpghiceebkfaa.P
open Go.RowKit Go.Proofs.YtcjpghiceebkfaaW.PrintWords Go.Proofs.YtcjpghiceebkfaaW.PrintLast Go.Proofs.YtcjpghiceebkfaaW.PrintMore
open XW
set_option linter.unusedSimpArgs false
set_option linter.unusedVariables false

def term (M : List (List Int)) (rank : List Int) (t i : Nat) : Int := (M.getD i []).getD t 0 * rank.getD i 0
def colW (M : List (List Int)) (rank : List Int) (i t : Nat) : Int := ((List.range i).map (term M rank t)).sum
theorem colW_succ (M : List (List Int)) (rank : List Int) (i t : Nat) : colW M rank (i + 1) t = colW M rank i t + term M rank t i := by
  rw [colW, List.range_succ, List.map_append, List.sum_append]; simp [colW]
def stL (M : List (List Int)) (rank : List Int) (N i j : Nat) : List Int := (List.range N).map fun t => colW M rank (if t < j then i + 1 else i) t
theorem stL_len (M : List (List Int)) (rank : List Int) (N i j : Nat) : (stL M rank N i j).length = N := by simp [stL]
theorem stL_get (M : List (List Int)) (rank : List Int) (N i j : Nat) (h : j < N) : (stL M rank N i j).getD j 0 = colW M rank i j := by
  rw [List.getD_eq_getElem?_getD, stL, List.getElem?_map, List.getElem?_range h]; simp
theorem stL_set (M : List (List Int)) (rank : List Int) (N i j : Nat) (h : j < N) : (stL M rank N i j).set j (colW M rank (i + 1) j) = stL M rank N i (j + 1) := by
  apply List.ext_getElem
  · simp [stL]
  · intro t h1 h2
    rw [List.getElem_set]
    simp only [stL, List.getElem_map, List.getElem_range]
    by_cases e : j = t
    · subst e; rw [if_pos rfl, if_pos (by omega)]
    · rw [if_neg e]
      by_cases e2 : t < j
      · rw [if_pos e2, if_pos (by omega)]
      · rw [if_neg e2, if_neg (by omega)]
theorem stL_row (M : List (List Int)) (rank : List Int) (N i : Nat) : stL M rank N i N = stL M rank N (i + 1) 0 := by
  apply List.ext_getElem
  · simp [stL]
  · intro t h1 h2
    have : t < N := by simpa [stL] using h1
    simp only [stL, List.getElem_map, List.getElem_range]
    rw [if_pos this, if_neg (by omega)]
theorem stL_zero (M : List (List Int)) (rank : List Int) (N : Nat) : stL M rank N 0 0 = List.replicate N 0 := by
  rw [stL, ← List.length_range (n := N), ← List.map_const']
  simp [colW]
theorem term_bd {M : List (List Int)} {rank : List Int} (hM : ∀ row ∈ M, ∀ x ∈ row, 0 ≤ x ∧ x ≤ 2000000) (hr : ∀ x ∈ rank, 1 ≤ x ∧ x ≤ 1000) (t i : Nat) : 0 ≤ term M rank t i ∧ term M rank t i ≤ 2000000000 := by
  have h1 : 0 ≤ (M.getD i []).getD t 0 ∧ (M.getD i []).getD t 0 ≤ 2000000 := by
    by_cases hi : i < M.length
    · by_cases ht : t < (M.getD i []).length
      · exact hM _ (getD_mem' hi) _ (getD_mem' ht)
      · rw [List.getD_eq_getElem?_getD (i := t), List.getElem?_eq_none (by omega)]; simp
    · rw [List.getD_eq_getElem?_getD (i := i), List.getElem?_eq_none (by omega)]; simp
  have h2 : 0 ≤ rank.getD i 0 ∧ rank.getD i 0 ≤ 1000 := by
    by_cases hi : i < rank.length
    · have := hr _ (getD_mem' (d := 0) hi); omega
    · rw [List.getD_eq_getElem?_getD, List.getElem?_eq_none (by omega)]; simp
  rw [term]
  refine ⟨Int.mul_nonneg h1.1 h2.1, ?_⟩
  have := Int.mul_le_mul h1.2 h2.2 h2.1 (by omega)
  omega
theorem colW_bd {M : List (List Int)} {rank : List Int} (hM : ∀ row ∈ M, ∀ x ∈ row, 0 ≤ x ∧ x ≤ 2000000) (hr : ∀ x ∈ rank, 1 ≤ x ∧ x ≤ 1000) (t : Nat) : ∀ i, 0 ≤ colW M rank i t ∧ colW M rank i t ≤ 2000000000 * i
  | 0 => by simp [colW]
  | i + 1 => by
    have h1 := colW_bd hM hr t i
    have h2 := term_bd hM hr t i
    rw [colW_succ]; omega
theorem loads_l1 (N : Nat) (hN : N ≤ 20) (M : List (List Int)) (rank : List Int) (hMl : M.length = N) (hrow : ∀ row ∈ M, row.length = N) (hM : ∀ row ∈ M, ∀ x ∈ row, 0 ≤ x ∧ x ≤ 2000000) (hrl : rank.length = N) (hr : ∀ x ∈ rank, 1 ≤ x ∧ x ≤ 1000) :
    ∀ (d i k : Nat), N - i ≤ d → d * 30 + 1 ≤ k → i ≤ N → fastiref22_Loads.l1 k N rank M (stL M rank N i 0) i = some (stL M rank N N 0, 0) := by
  intro d
  induction d with
  | zero =>
    intro i k hd hk hi
    obtain ⟨k, rfl⟩ : ∃ k', k = k' + 1 := ⟨k - 1, by omega⟩
    have : i = N := by omega
    subst this
    rw [fastiref22_Loads.l1, if_neg (by omega)]
  | succ d ih =>
    intro i k hd hk hi
    obtain ⟨k, rfl⟩ : ∃ k', k = k' + 1 := ⟨k - 1, by omega⟩
    rw [fastiref22_Loads.l1]
    by_cases h : i < N
    · rw [if_pos (by omega)]
      have hrl2 := hrow _ (getD_mem' (l := M) (k := i) (d := []) (by omega))
      have inner : ∀ (d2 j k2 : Nat), N - j ≤ d2 → d2 + d * 30 + 2 ≤ k2 → j ≤ N → fastiref22_Loads.l2 k2 N rank M (stL M rank N i j) i j = some (stL M rank N N 0, 0) := by
        intro d2
        induction d2 with
        | zero =>
          intro j k2 hd2 hk2 hj
          obtain ⟨k2, rfl⟩ : ∃ k', k2 = k' + 1 := ⟨k2 - 1, by omega⟩
          have : j = N := by omega
          subst this
          rw [fastiref22_Loads.l2, if_neg (by omega), w64 (by omega), stL_row]
          exact ih (i + 1) k2 (by omega) (by omega) h
        | succ d2 ih2 =>
          intro j k2 hd2 hk2 hj
          obtain ⟨k2, rfl⟩ : ∃ k', k2 = k' + 1 := ⟨k2 - 1, by omega⟩
          by_cases hlt : j < N
          · rw [fastiref22_Loads.l2, if_pos (by omega), if_pos (by omega), if_pos (by rw [stL_len]; omega), if_pos (by omega), if_pos (by omega), rd_L3, Int.toNat_natCast, if_pos (by omega), if_pos (by omega)]
            have e1 : rd (stL M rank N i j) (j : Int) = colW M rank i j := by rw [rd, Int.toNat_natCast, stL_get _ _ _ _ _ hlt]
            have e2 : rd (M.getD i []) (j : Int) * rd rank (i : Int) = term M rank j i := by rw [rd, rd, Int.toNat_natCast, Int.toNat_natCast, term]
            have b1 := term_bd hM hr j i
            have b2 := colW_bd hM hr j i
            rw [e1, e2, w64 (x := term M rank j i) (by omega), w64 (x := colW M rank i j + term M rank j i) (by omega), ← colW_succ, Int.toNat_natCast, stL_set _ _ _ _ _ hlt, w64 (by omega)]
            exact ih2 (j + 1) k2 (by omega) (by omega) hlt
          · have : j = N := by omega
            subst this
            rw [fastiref22_Loads.l2, if_neg (by omega), w64 (by omega), stL_row]
            exact ih (i + 1) k2 (by omega) (by omega) h
      exact inner N 0 k (by omega) (by omega) (by omega)
    · have : i = N := by omega
      subst this
      rw [if_neg (by omega)]
theorem loads_l0 (N : Nat) (hN : N ≤ 20) (M : List (List Int)) (rank : List Int) (hMl : M.length = N) (hrow : ∀ row ∈ M, row.length = N) (hM : ∀ row ∈ M, ∀ x ∈ row, 0 ≤ x ∧ x ≤ 2000000) (hrl : rank.length = N) :
    ∀ (d i k : Nat), N - i ≤ d → d + 700 ≤ k → i ≤ N → fastiref22_Loads.l0 k N rank M i = some (if (rank.drop i).any badR = true then ([], 220) else if rank.any badR = true then ([], 220) else (stL M rank N N 0, 0)) ∨ (rank.take i).any badR = true := by
  intro d
  induction d with
  | zero =>
    intro i k hd hk hi
    obtain ⟨k, rfl⟩ : ∃ k', k = k' + 1 := ⟨k - 1, by omega⟩
    have : i = N := by omega
    subst this
    by_cases hb : rank.any badR = true
    · right; rw [List.take_of_length_le (by omega)]; exact hb
    left
    have hall : ∀ x ∈ rank, 1 ≤ x ∧ x ≤ 1000 := by
      intro x hx
      have : badR x = false := by
        cases hc : badR x with
        | false => rfl
        | true => exact absurd (List.any_eq_true.2 ⟨x, hx, hc⟩) hb
      simp [badR] at this; omega
    rw [fastiref22_Loads.l0, if_neg (by omega), if_pos (by omega), if_pos (by omega), List.drop_of_length_le (by omega), if_neg (by simp), if_neg hb, Int.toNat_natCast, ← stL_zero M rank]
    have := loads_l1 i hN M rank hMl hrow hM hrl hall i 0 k (by omega) (by omega) (by omega)
    exact this
  | succ d ih =>
    intro i k hd hk hi
    obtain ⟨k, rfl⟩ : ∃ k', k = k' + 1 := ⟨k - 1, by omega⟩
    by_cases h : i < N
    · have hx : rank.drop i = rank.getD i 0 :: rank.drop (i + 1) := by
        rw [List.drop_eq_getElem_cons (by omega : i < rank.length), List.getD_eq_getElem?_getD, List.getElem?_eq_getElem (by omega)]; rfl
      have ht : rank.take (i + 1) = rank.take i ++ [rank.getD i 0] := take_snocD rank i 0 (by omega)
      have e1 : rd rank (i : Int) = rank.getD i 0 := by rw [rd, Int.toNat_natCast]
      by_cases hb : badR (rank.getD i 0) = true
      · left
        rw [hx, List.any_cons, hb, Bool.true_or, if_pos rfl, fastiref22_Loads.l0, if_pos (by omega), if_pos (by omega), if_pos (by omega), e1]
        simp only [badR, Bool.or_eq_true, decide_eq_true_eq] at hb
        by_cases hb1 : rank.getD i 0 < 1
        · rw [if_pos hb1]
        · rw [if_neg hb1, if_pos (by omega)]
      · have hb' : badR (rank.getD i 0) = false := by simpa using hb
        have hg : 1 ≤ rank.getD i 0 ∧ rank.getD i 0 ≤ 1000 := by simp [badR] at hb' ⊢; omega
        rcases ih (i + 1) k (by omega) (by omega) h with h1 | h1
        · left
          rw [hx, List.any_cons, hb', Bool.false_or, fastiref22_Loads.l0, if_pos (by omega), if_pos (by omega), if_pos (by omega), e1, if_neg (by omega), if_neg (by omega), w64 (by omega)]
          exact h1
        · right
          rw [ht, List.any_append, List.any_cons, hb'] at h1
          simpa using h1
    · exact ih i (k + 1) (by omega) (by omega) hi

theorem sum_ite (N : Nat) (f : Nat → Int) (a : Nat) (ha : a < N) : ((List.range N).map fun i => if i = a then f i else 0).sum = f a := by
  induction N with
  | zero => omega
  | succ N ih =>
    rw [List.range_succ, List.map_append, List.sum_append]
    simp only [List.map_cons, List.map_nil, List.sum_cons, List.sum_nil, Int.add_zero]
    by_cases h : a < N
    · rw [ih h, if_neg (by omega), Int.add_zero]
    · have : a = N := by omega
      subst this
      rw [if_pos rfl]
      have : ((List.range a).map fun i => if i = a then f i else 0).sum = 0 := by
        have e : ((List.range a).map fun i => if i = a then f i else 0) = (List.range a).map fun _ => (0 : Int) := List.map_congr_left fun i hi => if_neg (by have := List.mem_range.1 hi; omega)
        rw [e, List.map_const', List.length_range]
        clear ih h ha e
        induction a with
        | zero => rfl
        | succ a ih => rw [List.replicate_succ, List.sum_cons, ih]; rfl
      omega
theorem sum_add (N : Nat) (f g : Nat → Int) : ((List.range N).map fun i => f i + g i).sum = ((List.range N).map f).sum + ((List.range N).map g).sum := by
  induction N with
  | zero => rfl
  | succ N ih => simp only [List.range_succ, List.map_append, List.sum_append, ih, List.map_cons, List.map_nil, List.sum_cons, List.sum_nil]; omega
theorem col_loads (N : Nat) (rank : List Int) (j : Nat) (hj : j < N) : ∀ xs : List (Int × Int), (∀ x ∈ xs, (0 ≤ x.1 ∧ x.1 < N) ∧ 0 ≤ x.2 ∧ x.2 < N) → colW (cntM N xs) rank N j = loadAt rank xs j := by
  intro xs h
  have e : ∀ ys : List (Int × Int), colW (cntM N ys) rank N j = ((List.range N).map fun i : Nat => (ys.count ((i : Int), (j : Int)) : Int) * rank.getD i 0).sum := by
    intro ys
    rw [colW]
    refine congrArg List.sum (List.map_congr_left fun i hi => ?_)
    rw [term, cntM_get _ _ i (List.mem_range.1 hi), List.getD_eq_getElem?_getD, List.getElem?_map, List.getElem?_range hj]; rfl
  rw [e]
  induction xs with
  | nil =>
    simp only [List.count_nil, loadAt, List.filter_nil, List.map_nil, List.sum_nil]
    have : ((List.range N).map fun i : Nat => ((0 : Nat) : Int) * rank.getD i 0) = (List.range N).map fun _ => (0 : Int) := List.map_congr_left fun i _ => by simp
    rw [this, List.map_const', List.length_range]
    clear this hj e
    induction N with
    | zero => rfl
    | succ a ih => rw [List.replicate_succ, List.sum_cons, ih (fun _ h => by cases h)]; rfl
  | cons x xs ih =>
    have hx := h x (List.mem_cons_self ..)
    have ih := ih fun y hy => h y (List.mem_cons_of_mem _ hy)
    rw [show loadAt rank (x :: xs) j = (if x.2 = (j : Int) then rank.getD x.1.toNat 0 else 0) + loadAt rank xs j from ?_, ← ih]
    · have : (fun i : Nat => (((x :: xs).count ((i : Int), (j : Int)) : Nat) : Int) * rank.getD i 0) = fun i : Nat => (if i = x.1.toNat then (if x.2 = (j : Int) then rank.getD i 0 else 0) else 0) + (xs.count ((i : Int), (j : Int)) : Int) * rank.getD i 0 := by
        funext i
        rw [List.count_cons]
        by_cases h1 : x = ((i : Int), (j : Int))
        · subst h1; simp [Int.add_mul]; omega
        · rw [if_neg (by simpa using h1)]
          by_cases h2 : i = x.1.toNat
          · have h3 : x.2 ≠ (j : Int) := fun hc => h1 (Prod.ext (by simp only; omega) hc)
            rw [if_pos h2, if_neg h3]; simp
          · rw [if_neg h2]; simp
      rw [this, sum_add, sum_ite N (fun i : Nat => if x.2 = (j : Int) then rank.getD i 0 else 0) x.1.toNat (by omega)]
    · rw [loadAt, List.filter_cons]
      by_cases hc : x.2 = (j : Int)
      · rw [if_pos (by simpa using hc), if_pos hc, List.map_cons, List.sum_cons]; rfl
      · rw [if_neg (by simpa using hc), if_neg hc, Int.zero_add]; rfl
theorem stL_loads (N : Nat) (rank : List Int) (xs : List (Int × Int)) (h : ∀ x ∈ xs, (0 ≤ x.1 ∧ x.1 < N) ∧ 0 ≤ x.2 ∧ x.2 < N) : stL (cntM N xs) rank N N 0 = loadsL N rank xs := by
  rw [stL, loadsL]
  refine List.map_congr_left fun j hj => ?_
  rw [if_neg (by omega)]
  exact col_loads N rank j (List.mem_range.1 hj) xs h
theorem loads_same (n : Int) (m : List S45) (rank : List Int) (hm : m.length ≤ 1280) (k : Nat) (hk : 800 ≤ k) : ∃ p, carry_Loads.f n m rank = some p ∧ fastiref22_Loads.f k n m rank = some p ∧ p.1.length ≤ 20 := by
  rw [carry_Loads.f, if_pos (by omega), fastiref22_Loads.f, ref_f n m hm, Option.bind_some, matF]
  cases hf : foesF n m with
  | none => exact ⟨_, rfl, by simp, by simp⟩
  | some p =>
    obtain ⟨es, r⟩ := p
    obtain ⟨h1, h2, h3⟩ := foes_ok n m (by omega) es r hf
    obtain ⟨N, rfl⟩ : ∃ N : Nat, n = N := ⟨n.toNat, by omega⟩
    simp only [Int.toNat_natCast, if_true]
    by_cases hl : (rank.length : Int) = N
    · rw [if_pos hl]
      have hb := cntM_bd (N := N) (xs := es.filterMap (nxt es r)) (Nat.le_trans (List.length_filterMap_le _ _) h3.len)
      rcases loads_l0 N (by omega) _ rank (cntM_len _ _) (cntM_row N (es.filterMap (nxt es r))) hb (by omega) N 0 k (by omega) (by omega) (by omega) with h | h
      · rw [show ((0 : Nat) : Int) = 0 from rfl, List.drop_zero] at h
        rw [h]
        by_cases hbad : rank.any badR = true
        · rw [if_pos (Or.inr hbad), if_pos hbad]; exact ⟨_, rfl, rfl, by simp⟩
        · rw [if_neg (by simp [hl, hbad]), if_neg hbad, if_neg hbad, stL_loads]
          · exact ⟨_, rfl, rfl, by simp only [loadsL_len]; omega⟩
          · intro x hx
            obtain ⟨e, he, hx⟩ := List.mem_filterMap.1 hx
            exact nxt_rng h3 he hx
      · simp at h
    · rw [if_neg hl, if_pos (Or.inl hl)]; exact ⟨_, rfl, rfl, by simp⟩
theorem least_same (n : Int) (k : Nat) (hk : 2 ≤ k) : ∃ p, carry_Least.f k n = some p ∧ fastiref22_Least.f k n = some p := by
  obtain ⟨k, rfl⟩ : ∃ k', k = k' + 1 := ⟨k - 1, by omega⟩
  rw [carry_Least.f, fastiref22_Least.f]
  by_cases h : n < 2
  · rw [if_pos h, if_pos h]; exact ⟨_, rfl, rfl⟩
  · rw [if_neg h, if_neg h, carry_Least.j0, fastiref22_Least.j0]
    by_cases h2 : decide (n > 20) = true
    · rw [if_pos h2]; exact ⟨_, rfl, rfl⟩
    · rw [if_neg h2]
      by_cases h3 : Int.tmod n 2 = 1
      · rw [if_pos h3]; exact ⟨_, rfl, rfl⟩
      · rw [if_neg h3]; exact ⟨_, rfl, rfl⟩
end Go.Proofs.Ytcjpghiceebkfaa.P
