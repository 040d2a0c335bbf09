/- Counting: the matrix by its pairs; what foes' entries are. Plain. -/
import Derived.Test.YtcjpghiceebkfaaMatW
namespace Go.Proofs.Ytcjpghiceebkfaa.P
open XW
set_option linter.unusedSimpArgs false
set_option linter.unusedVariables false

/-- the matrix of counts -/
def cntM (N : Nat) (xs : List (Int × Int)) : List (List Int) := (List.range N).map fun (i : Nat) => (List.range N).map fun (j : Nat) => (xs.count ((i : Int), (j : Int)) : Int)
theorem cntM_len (N : Nat) (xs : List (Int × Int)) : (cntM N xs).length = N := by simp [cntM]
theorem cntM_get (N : Nat) (xs : List (Int × Int)) (i : Nat) (hi : i < N) : (cntM N xs).getD i [] = (List.range N).map fun (j : Nat) => (xs.count ((i : Int), (j : Int)) : Int) := by
  simp [cntM, List.getD_eq_getElem?_getD, hi]
theorem cntM_row (N : Nat) (xs : List (Int × Int)) : ∀ row ∈ cntM N xs, row.length = N := by
  intro row h
  simp only [cntM, List.mem_map] at h
  obtain ⟨i, _, rfl⟩ := h
  simp
theorem cntM_perm (N : Nat) {xs ys : List (Int × Int)} (h : xs.Perm ys) : cntM N xs = cntM N ys := by
  simp only [cntM]
  congr 1
  funext i
  congr 1
  funext j
  rw [h.count_eq]
theorem cntM_nil (N : Nat) : cntM N [] = M0 N := by
  simp [cntM, M0, List.map_const']
theorem bump_cnt (N : Nat) (xs : List (Int × Int)) (x : Int × Int) (h1 : 0 ≤ x.1 ∧ x.1 < N) (h2 : 0 ≤ x.2 ∧ x.2 < N) : bump (cntM N xs) x = cntM N (xs ++ [x]) := by
  obtain ⟨a, ha⟩ : ∃ a : Nat, x.1 = a := ⟨x.1.toNat, by omega⟩
  obtain ⟨b, hb⟩ : ∃ b : Nat, x.2 = b := ⟨x.2.toNat, by omega⟩
  have hx : x = ((a : Int), (b : Int)) := by rw [← ha, ← hb]
  subst hx
  have ha' : a < N := by simp only at h1; omega
  have hb' : b < N := by simp only at h2; omega
  simp only [bump, Int.toNat_natCast]
  rw [cntM_get N xs a ha']
  apply List.ext_getElem?
  intro i
  simp only [List.getElem?_set, cntM, List.length_map, List.length_range, List.getElem?_map, List.getElem?_range]
  by_cases hi : i < N
  · simp only [List.getElem?_range hi, Option.map_some]
    by_cases e : a = i
    · subst e
      simp only [if_true, hi]
      congr 1
      apply List.ext_getElem?
      intro j
      simp only [List.getElem?_set, List.length_map, List.length_range, List.getElem?_map]
      by_cases hj : j < N
      · simp only [List.getElem?_range hj, Option.map_some]
        by_cases e2 : b = j
        · subst e2
          simp only [if_true, hj]
          simp [List.getD_eq_getElem?_getD, hj, List.count_append, List.count_cons]
        · simp only [e2, if_false]
          congr 1
          have e3 : ¬ ((b : Int) = (j : Int)) := by omega
          simp [List.count_append, List.count_cons, e3]
      · have : ¬ b = j := by omega
        have hn : (List.range N)[j]? = none := List.getElem?_eq_none (by simp; omega)
        simp only [this, if_false, hn, Option.map_none]
    · simp only [e, if_false]
      congr 1
      apply List.map_congr_left
      intro j _
      have e3 : ¬ ((a : Int) = (i : Int)) := by omega
      simp [List.count_append, List.count_cons, e3]
  · have : ¬ a = i := by omega
    have hn : (List.range N)[i]? = none := List.getElem?_eq_none (by simp; omega)
    simp only [this, if_false, hn, Option.map_none]
theorem foldl_cnt (N : Nat) : ∀ (xs ys : List (Int × Int)), (∀ x ∈ xs, (0 ≤ x.1 ∧ x.1 < N) ∧ 0 ≤ x.2 ∧ x.2 < N) → xs.foldl bump (cntM N ys) = cntM N (ys ++ xs)
  | [], ys, _ => by simp
  | x :: xs, ys, h => by
    rw [List.foldl_cons, bump_cnt N ys x (h x (by simp)).1 (h x (by simp)).2, foldl_cnt N xs _ (fun y hy => h y (by simp [hy])), List.append_assoc]
    rfl
theorem foldl_M0 (N : Nat) (xs : List (Int × Int)) (h : ∀ x ∈ xs, (0 ≤ x.1 ∧ x.1 < N) ∧ 0 ≤ x.2 ∧ x.2 < N) : xs.foldl bump (M0 N) = cntM N xs := by
  rw [← cntM_nil, foldl_cnt N xs [] h]; rfl

/-! ### foes -/
theorem mput_mem {κ β : Type} [DecidableEq κ] {es : List (κ × β)} {k : κ} {v : β} {p : κ × β} (h : p ∈ mput es k v) : p = (k, v) ∨ p ∈ es := by
  induction es with
  | nil => simp [mput] at h; exact .inl h
  | cons q es ih =>
    obtain ⟨k', v'⟩ := q
    simp only [mput] at h
    split at h
    · rename_i e
      rcases List.mem_cons.1 h with h | h
      · left; rw [h, e]
      · right; exact List.mem_cons_of_mem _ h
    · rcases List.mem_cons.1 h with h | h
      · right; rw [h]; exact List.mem_cons_self ..
      · rcases ih h with h | h
        · exact .inl h
        · right; exact List.mem_cons_of_mem _ h
theorem mput_len {κ β : Type} [DecidableEq κ] (es : List (κ × β)) (k : κ) (v : β) : (mput es k v).length ≤ es.length + 1 := by
  induction es with
  | nil => simp [mput]
  | cons q es ih =>
    obtain ⟨k', v'⟩ := q
    simp only [mput]
    split
    · simp
    · simp; omega
theorem mget_mem {κ β : Type} [DecidableEq κ] {es : List (κ × β)} {k : κ} {v : β} (h : mget es k = some v) : (k, v) ∈ es := by
  induction es with
  | nil => simp [mget] at h
  | cons q es ih =>
    obtain ⟨k', v'⟩ := q
    simp only [mget] at h
    split at h
    · rename_i e; cases h; rw [e]; exact List.mem_cons_self ..
    · exact List.mem_cons_of_mem _ (ih h)
theorem fold_ok (n : Int) : ∀ (m : List S45) (es : Ent) (r : Int), (∀ e ∈ es, 0 ≤ e.1.1 ∧ e.1.1 < n ∧ 0 ≤ e.1.2 ∧ e.1.2 ≤ 63 ∧ 0 ≤ e.2 ∧ e.2 < n) → ∀ es' r', m.foldl (foeStep n) (some (es, r)) = some (es', r') →
    (∀ e ∈ es', 0 ≤ e.1.1 ∧ e.1.1 < n ∧ 0 ≤ e.1.2 ∧ e.1.2 ≤ 63 ∧ 0 ≤ e.2 ∧ e.2 < n) ∧ es'.length ≤ es.length + 2 * m.length
  | [], es, r, h, es', r', he => by cases he; exact ⟨h, by omega⟩
  | x :: m, es, r, h, es', r', he => by
    rw [List.foldl_cons] at he
    simp only [foeStep, Option.bind_some] at he
    by_cases hb : bad n x
    · rw [if_pos hb, fold_none] at he; cases he
    · rw [if_neg hb] at he
      split at he
      · rw [fold_none] at he; cases he
      · split at he
        · rw [fold_none] at he; cases he
        · have hb' : ¬ (x.f0 < 0 ∨ x.f0 > 63 ∨ min x.f1 x.f2 < 0 ∨ max x.f1 x.f2 ≥ n ∨ min x.f1 x.f2 = max x.f1 x.f2) := hb
          have := fold_ok n m _ _ (fun e he' => by
            rcases mput_mem he' with rfl | he'
            · simp only; omega
            · rcases mput_mem he' with rfl | he'
              · simp only; omega
              · exact h e he') es' r' he
          refine ⟨this.1, Nat.le_trans this.2 ?_⟩
          have h1 := mput_len es (x.f1, x.f0) x.f2
          have h2 := mput_len (mput es (x.f1, x.f0) x.f2) (x.f2, x.f0) x.f1
          simp only [List.length_cons]; omega
theorem foes_ok (n : Int) (m : List S45) (hm : m.length ≤ 1000000) (es : Ent) (r : Int) (h : foesF n m = some (es, r)) : 2 ≤ n ∧ n ≤ 20 ∧ EntOk n es r := by
  unfold foesF at h
  split at h
  · cases h
  · rename_i hn
    have := fold_ok n m [] 0 (fun e h => by cases h) es r h
    refine ⟨by omega, by omega, this.1, fun k v hg => ?_, by have := this.2; simp at this; omega⟩
    have := this.1 _ (mget_mem hg)
    exact ⟨this.2.2.2.2.1, this.2.2.2.2.2⟩
theorem nxt_rng {n : Int} {es : Ent} {r : Int} (h : EntOk n es r) {e : (Int × Int) × Int} (he : e ∈ es) {x : Int × Int} (hx : nxt es r e = some x) : (0 ≤ x.1 ∧ x.1 < n) ∧ 0 ≤ x.2 ∧ x.2 < n := by
  obtain ⟨j, hj, rfl⟩ := Option.map_eq_some_iff.1 hx
  have := h.key e he
  exact ⟨⟨this.2.2.2.2.1, this.2.2.2.2.2⟩, h.get _ _ hj⟩
theorem mat_eq {n : Nat} {es : Ent} {r : Int} (h : EntOk n es r) {xs : List (Int × Int)} (ha : carried_all es r xs) : xs.foldl bump (M0 n) = cntM n (es.filterMap (nxt es r)) := by
  obtain ⟨es', hp, rfl⟩ := ha
  rw [foldl_M0]
  · exact cntM_perm n (hp.filterMap _)
  · intro x hx
    obtain ⟨e, he, hex⟩ := List.mem_filterMap.1 hx
    exact nxt_rng h (hp.subset he) hex
end Go.Proofs.Ytcjpghiceebkfaa.P
