/- Plain laws of the printed parts. -/
import Derived.Test.YtcjpghiceebkfaaP5
import Derived.Test.YtcjpghiceebkfaaPerm
namespace Go.Proofs.Ytcjpghiceebkfaa.P
open Go.RowKit Go.Proofs.YtcjpghiceebkfaaW.PrintWords Go.Proofs.YtcjpghiceebkfaaW.PrintLast Go.Proofs.YtcjpghiceebkfaaW.PrintMore
open XW
set_option linter.unusedSimpArgs false
set_option linter.unusedVariables false

theorem leO_le {α : Type} {f : Nat → Option α} (h : ∀ k, LeO (f k) (f (k + 1))) {k k' : Nat} (hk : k ≤ k') : LeO (f k) (f k') := by
  induction hk with
  | refl => exact LeO.refl _
  | step _ ih => exact fun r hr => h _ _ (ih _ hr)
theorem sane_at : fastilaw22_sane.f 20 = some true := by decide +kernel
theorem sane_ge {k : Nat} (hk : 20 ≤ k) : fastilaw22_sane.f k = some true := leO_le (f := fun k => fastilaw22_sane.f k) fastilaw22_sane.mono hk _ sane_at
theorem same_l0 (l : List Int) (hl : l.length ≤ 1000000) : ∀ (d i k : Nat), l.length - i ≤ d → d + 1 ≤ k → i ≤ l.length → fastiref22_Same.l0 k l l i = some true := by
  intro d
  induction d with
  | zero =>
    intro i k hd hk hi
    obtain ⟨k, rfl⟩ : ∃ k', k = k' + 1 := ⟨k - 1, by omega⟩
    rw [fastiref22_Same.l0, if_neg (by omega)]
  | succ d ih =>
    intro i k hd hk hi
    obtain ⟨k, rfl⟩ : ∃ k', k = k' + 1 := ⟨k - 1, by omega⟩
    rw [fastiref22_Same.l0]
    by_cases h : i < l.length
    · rw [if_pos (by omega), if_pos (by omega), if_pos (by omega), if_pos rfl, w64 (by omega)]
      exact ih (i + 1) k (by omega) (by omega) h
    · rw [if_neg (by omega)]
theorem same_self (l : List Int) (hl : l.length ≤ 1000000) (k : Nat) (hk : l.length + 1 ≤ k) : fastiref22_Same.f k l l = some true := by
  rw [fastiref22_Same.f, if_pos rfl]
  exact same_l0 l hl l.length 0 k (by omega) hk (by omega)
theorem sameAll_l0 (M : List (List Int)) (n : Nat) (hM : M.length ≤ 1000000) (hn : n ≤ 1000000) (hr : ∀ row ∈ M, row.length ≤ n) : ∀ (d i k : Nat), M.length - i ≤ d → d + n + 2 ≤ k → i ≤ M.length → fastiref22_SameAll.l0 k M M i = some true := by
  intro d
  induction d with
  | zero =>
    intro i k hd hk hi
    obtain ⟨k, rfl⟩ : ∃ k', k = k' + 1 := ⟨k - 1, by omega⟩
    rw [fastiref22_SameAll.l0, if_neg (by omega)]
  | succ d ih =>
    intro i k hd hk hi
    obtain ⟨k, rfl⟩ : ∃ k', k = k' + 1 := ⟨k - 1, by omega⟩
    rw [fastiref22_SameAll.l0]
    by_cases h : i < M.length
    · have hrow : (rd_L3 M i).length ≤ n := by rw [rd_L3, Int.toNat_natCast]; exact hr _ (getD_mem' h)
      rw [if_pos (by omega), if_pos (by omega), if_pos (by omega), same_self _ (by omega) k (by omega), Option.bind_some, if_pos rfl, w64 (by omega)]
      exact ih (i + 1) k (by omega) (by omega) h
    · rw [if_neg (by omega)]
theorem sameAll_self (M : List (List Int)) (n : Nat) (hM : M.length ≤ 1000000) (hn : n ≤ 1000000) (hr : ∀ row ∈ M, row.length ≤ n) (k : Nat) (hk : M.length + n + 2 ≤ k) : fastiref22_SameAll.f k M M = some true := by
  rw [fastiref22_SameAll.f, if_pos rfl]
  exact sameAll_l0 M n hM hn hr M.length 0 k (by omega) hk (by omega)

/-- the program's matrix, with its answer -/
def matF (n : Int) (m : List S45) : List (List Int) × Int := match foesF n m with
  | none => ([], 220)
  | some (es, r) => (cntM n.toNat (es.filterMap (nxt es r)), 0)
theorem mat_f (n : Int) (m : List S45) (hm : m.length ≤ 1280) : carry_Matrix.f n m = some (matF n m) := by
  rw [carry_Matrix.f, if_pos (by omega), matF]
  cases foesF n m <;> rfl
end Go.Proofs.Ytcjpghiceebkfaa.P
