/- Plain laws of the printed parts. -/
import Derived.Test.YtcjpghiceebkfaaP5
import Derived.Test.YtcjpghiceebkfaaPerm
namespace Go.Proofs.Ytcjpghiceebkfaa.P
open Go.RowKit Go.Proofs.YtcjpghiceebkfaaW.PrintWords Go.Proofs.YtcjpghiceebkfaaW.PrintLast Go.Proofs.YtcjpghiceebkfaaW.PrintMore
open XW
set_option linter.unusedSimpArgs false
set_option linter.unusedVariables false

theorem leO_le {α : Type} {f : Nat → Option α} (h : ∀ k, LeO (f k) (f (k + 1))) {k k' : Nat} (hk : k ≤ k') : LeO (f k) (f k') := by
  induction hk with
  | refl => exact LeO.refl _
  | step _ ih => exact fun r hr => h _ _ (ih _ hr)
theorem sane_at : fastilaw22_sane.f 20 = some true := by decide +kernel
theorem sane_ge {k : Nat} (hk : 20 ≤ k) : fastilaw22_sane.f k = some true := leO_le (f := fun k => fastilaw22_sane.f k) fastilaw22_sane.mono hk _ sane_at
theorem same_l0 (l : List Int) (hl : l.length ≤ 1000000) : ∀ (d i k : Nat), l.length - i ≤ d → d + 1 ≤ k → i ≤ l.length → fastiref22_Same.l0 k l l i = some true := by
  intro d
  induction d with
  | zero =>
    intro i k hd hk hi
    obtain ⟨k, rfl⟩ : ∃ k', k = k' + 1 := ⟨k - 1, by omega⟩
    rw [fastiref22_Same.l0, if_neg (by omega)]
  | succ d ih =>
    intro i k hd hk hi
    obtain ⟨k, rfl⟩ : ∃ k', k = k' + 1 := ⟨k - 1, by omega⟩
    rw [fastiref22_Same.l0]
    by_cases h : i < l.length
    · rw [if_pos (by omega), if_pos (by omega), if_pos (by omega), if_pos rfl, w64 (by omega)]
      exact ih (i + 1) k (by omega) (by omega) h
    · rw [if_neg (by omega)]
theorem same_self (l : List Int) (hl : l.length ≤ 1000000) (k : Nat) (hk : l.length + 1 ≤ k) : fastiref22_Same.f k l l = some true := by
  rw [fastiref22_Same.f, if_pos rfl]
  exact same_l0 l hl l.length 0 k (by omega) hk (by omega)
theorem sameAll_l0 (M : List (List Int)) (n : Nat) (hM : M.length ≤ 1000000) (hn : n ≤ 1000000) (hr : ∀ row ∈ M, row.length ≤ n) : ∀ (d i k : Nat), M.length - i ≤ d → d + n + 2 ≤ k → i ≤ M.length → fastiref22_SameAll.l0 k M M i = some true := by
  intro d
  induction d with
  | zero =>
    intro i k hd hk hi
    obtain ⟨k, rfl⟩ : ∃ k', k = k' + 1 := ⟨k - 1, by omega⟩
    rw [fastiref22_SameAll.l0, if_neg (by omega)]
  | succ d ih =>
    intro i k hd hk hi
    obtain ⟨k, rfl⟩ : ∃ k', k = k' + 1 := ⟨k - 1, by omega⟩
    rw [fastiref22_SameAll.l0]
    by_cases h : i < M.length
    · have hrow : (rd_L3 M i).length ≤ n := by rw [rd_L3, Int.toNat_natCast]; exact hr _ (getD_mem' h)
      rw [if_pos (by omega), if_pos (by omega), if_pos (by omega), same_self _ (by omega) k (by omega), Option.bind_some, if_pos rfl, w64 (by omega)]
      exact ih (i + 1) k (by omega) (by omega) h
    · rw [if_neg (by omega)]
theorem sameAll_self (M : List (List Int)) (n : Nat) (hM : M.length ≤ 1000000) (hn : n ≤ 1000000) (hr : ∀ row ∈ M, row.length ≤ n) (k : Nat) (hk : M.length + n + 2 ≤ k) : fastiref22_SameAll.f k M M = some true := by
  rw [fastiref22_SameAll.f, if_pos rfl]
  exact sameAll_l0 M n hM hn hr M.length 0 k (by omega) hk (by omega)

/-- the program's matrix, with its answer -/
def matF (n : Int) (m : List S45) : List (List Int) × Int := match foesF n m with
  | none => ([], 220)
  | some (es, r) => (cntM n.toNat (es.filterMap (nxt es r)), 0)
theorem mat_f (n : Int) (m : List S45) (hm : m.length ≤ 1280) : carry_Matrix.f n m = some (matF n m) := by
  rw [carry_Matrix.f, if_pos (by omega), matF]
  cases foesF n m <;> rfl
theorem ref_f (n : Int) (m : List S45) (hm : m.length ≤ 1280) : fastiref22_Matrix.f n m = some (matF n m) := by
  rw [fastiref22_Matrix.f, if_pos (by omega), matF]
  have hr : rightB n m = (foesF n m).isSome := by rw [rightB, decide_eq_true hm]; rfl
  cases hf : foesF n m with
  | none => rw [hr, hf]; rfl
  | some p =>
    obtain ⟨es, r⟩ := p
    have hn : 2 ≤ n := (foes_ok n m (by omega) es r hf).1
    obtain ⟨N, rfl⟩ : ∃ N : Nat, n = N := ⟨n.toNat, by omega⟩
    rw [hr, hf]
    simp only [Option.isSome_some, if_true]
    rw [Int.toNat_natCast, mat_same hf]
theorem matF_shape (n : Int) (m : List S45) (hm : m.length ≤ 1280) : (matF n m).1.length ≤ 20 ∧ (∀ row ∈ (matF n m).1, row.length = (matF n m).1.length) ∧ ∀ row ∈ (matF n m).1, ∀ x ∈ row, 0 ≤ x ∧ x ≤ 2000000 := by
  rw [matF]
  cases hf : foesF n m with
  | none => refine ⟨by simp, fun row h => (by cases h), fun row h => (by cases h)⟩
  | some p =>
    obtain ⟨es, r⟩ := p
    obtain ⟨h1, h2, h3⟩ := foes_ok n m (by omega) es r hf
    dsimp only
    refine ⟨by rw [cntM_len]; omega, fun row h => by rw [cntM_row _ _ row h, cntM_len], cntM_bd (Nat.le_trans (List.length_filterMap_le _ _) h3.len)⟩
theorem val_f (n : Int) (m : List S45) (hm : m.length ≤ 1280) : carry_Value.f n m = some (sqsM (matF n m).1, (matF n m).2) := by
  rw [carry_Value.f, if_pos (by omega), matF]
  cases hf : foesF n m with
  | none => rfl
  | some p => rfl
theorem refVal_l (M : List (List Int)) (n : Nat) (hn : n ≤ 20) (hM : M.length ≤ 20) (hr : ∀ row ∈ M, row.length = n) (hb : ∀ row ∈ M, ∀ x ∈ row, 0 ≤ x ∧ x ≤ 2000000) (e : Int) :
    ∀ (d i k : Nat), M.length - i ≤ d → d * 30 + 1 ≤ k → i ≤ M.length → fastiref22_Value.l0 k M e (sqsM (M.take i)) i = some (sqsM M, e) := by
  intro d
  induction d with
  | zero =>
    intro i k hd hk hi
    obtain ⟨k, rfl⟩ : ∃ k', k = k' + 1 := ⟨k - 1, by omega⟩
    have : i = M.length := by omega
    subst this
    rw [fastiref22_Value.l0, if_neg (by omega), List.take_length]
  | succ d ih =>
    intro i k hd hk hi
    obtain ⟨k, rfl⟩ : ∃ k', k = k' + 1 := ⟨k - 1, by omega⟩
    rw [fastiref22_Value.l0]
    by_cases h : i < M.length
    · rw [if_pos (by omega)]
      have hmem : M.getD i [] ∈ M := getD_mem' h
      have hrl := hr _ hmem
      have hrb := hb _ hmem
      have hsn := sqsM_snoc M i h
      have hsb := sqsM_bd (M.take i) n (by omega) (fun row h => hr row (List.mem_of_mem_take h)) (fun row h => hb row (List.mem_of_mem_take h))
      have hst : (M.take i).length ≤ 20 := by simp; omega
      have inner : ∀ (d2 j k2 : Nat), n - j ≤ d2 → d2 + d * 30 + 2 ≤ k2 → j ≤ n → fastiref22_Value.l1 k2 M e (sqsM (M.take i) + sqs ((M.getD i []).take j)) i j = some (sqsM M, e) := by
        intro d2
        induction d2 with
        | zero =>
          intro j k2 hd2 hk2 hj
          obtain ⟨k2, rfl⟩ : ∃ k', k2 = k' + 1 := ⟨k2 - 1, by omega⟩
          rw [fastiref22_Value.l1, if_pos (by omega), if_pos (by omega), rd_L3, Int.toNat_natCast, if_neg (by omega), List.take_of_length_le (by omega : (M.getD i []).length ≤ j), ← hsn, w64 (by omega)]
          exact ih (i + 1) k2 (by omega) (by omega) h
        | succ d2 ih2 =>
          intro j k2 hd2 hk2 hj
          obtain ⟨k2, rfl⟩ : ∃ k', k2 = k' + 1 := ⟨k2 - 1, by omega⟩
          rw [fastiref22_Value.l1, if_pos (by omega), if_pos (by omega), rd_L3, Int.toNat_natCast]
          by_cases hlt : j < n
          · have hs2 := sqs_snoc (M.getD i []) j (by omega)
            have hxb := hrb ((M.getD i []).getD j 0) (getD_mem' (by omega))
            have hs2b := sqs_bd ((M.getD i []).take j) (fun x h => hrb x (List.mem_of_mem_take h))
            have hst2 : ((M.getD i []).take j).length ≤ 20 := by simp; omega
            have hsq := sq_bd hxb
            have hrd : rd (M.getD i []) (j : Int) = (M.getD i []).getD j 0 := by rw [rd, Int.toNat_natCast]
            rw [if_pos (by omega), if_pos (by omega), hrd, w64 (x := (M.getD i []).getD j 0 * (M.getD i []).getD j 0) (by omega), w64 (by omega), w64 (by omega), Int.add_assoc, ← hs2]
            exact ih2 (j + 1) k2 (by omega) (by omega) hlt
          · have : j = n := by omega
            subst this
            rw [if_neg (by omega), List.take_of_length_le (by omega : (M.getD i []).length ≤ j), ← hsn, w64 (by omega)]
            exact ih (i + 1) k2 (by omega) (by omega) h
      have := inner n 0 k (by omega) (by omega) (by omega)
      rw [List.take_zero] at this
      simpa [sqs] using this
    · have : i = M.length := by omega
      subst this
      rw [if_neg (by omega), List.take_length]
theorem refVal_f (n : Int) (m : List S45) (hm : m.length ≤ 1280) (k : Nat) (hk : 700 ≤ k) : fastiref22_Value.f k n m = some (sqsM (matF n m).1, (matF n m).2) := by
  obtain ⟨h1, h2, h3⟩ := matF_shape n m hm
  rw [fastiref22_Value.f, ref_f n m hm, Option.bind_some]
  have := refVal_l (matF n m).1 (matF n m).1.length h1 h1 h2 h3 (matF n m).2 (matF n m).1.length 0 k (by omega) (by omega) (by omega)
  simpa [sqsM] using this
end Go.Proofs.Ytcjpghiceebkfaa.P
