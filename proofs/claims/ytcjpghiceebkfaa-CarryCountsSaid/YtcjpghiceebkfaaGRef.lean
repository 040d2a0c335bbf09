/- fastiref22.Matrix: the walk. -/
import Derived.Test.YtcjpghiceebkfaaRefW
import Derived.Test.YtcjpghiceebkfaaRightP
namespace Go.Proofs.Ytcjpghiceebkfaa.P
open Go.RowKit Go.Proofs.YtcjpghiceebkfaaW.PrintWords Go.Proofs.YtcjpghiceebkfaaW.PrintLast Go.Proofs.YtcjpghiceebkfaaW.PrintMore
open XW RegInv
attribute [local irreducible] Addr.add
set_option linter.unusedSimpArgs false
set_option linter.unusedVariables false

def Vals (N : Nat) (M : List (List Int)) : Prop := ∀ row ∈ M, ∀ x ∈ row, -1 ≤ x ∧ x < N
theorem Vals.set {N : Nat} {M : List (List Int)} (h : Vals N M) {r j : Nat} {v : Int} (hv : 0 ≤ v ∧ v < N) : Vals N (M.set r ((M.getD r []).set j v)) := fun row hm x hx => by
  rcases List.mem_or_eq_of_mem_set hm with hm | rfl
  · exact h _ hm x hx
  · rcases List.mem_or_eq_of_mem_set hx with hx | rfl
    · rw [List.getD_eq_getElem?_getD] at hx
      cases hr : M[r]? with
      | none => rw [hr] at hx; simp at hx
      | some row => rw [hr] at hx; exact h row (List.mem_of_getElem? hr) x hx
    · omega
theorem foes_vals (R N : Nat) (m : List S45) (hf : ∀ x ∈ m, (0 ≤ x.f1 ∧ x.f1 < N) ∧ 0 ≤ x.f2 ∧ x.f2 < N) : ∀ M, Vals N M → Vals N (m.foldl setFoe M) := by
  induction m with
  | nil => intro M h; exact h
  | cons x m ih =>
    intro M h
    have hx := hf x (by simp)
    rw [List.foldl_cons]
    refine ih (fun y hy => hf y (by simp [hy])) _ ?_
    exact (h.set hx.2).set hx.1
def pairF (F : List (List Int)) (R r t : Nat) : Option (Int × Int) :=
  if 0 ≤ (F.getD r []).getD t default ∧ 0 ≤ (F.getD ((r + 1) % R) []).getD t default then some ((F.getD r []).getD t default, (F.getD ((r + 1) % R) []).getD t default) else none
def rowP (F : List (List Int)) (R N r : Nat) : List (Int × Int) := (List.range N).filterMap (pairF F R r)
def PQ (F : List (List Int)) (R N r t : Nat) : List (Int × Int) := (List.range r).flatMap (rowP F R N) ++ (List.range t).filterMap (pairF F R r)
theorem PQ_t (F : List (List Int)) (R N r t : Nat) : PQ F R N r (t + 1) = PQ F R N r t ++ (pairF F R r t).toList := by
  rw [PQ, PQ, List.range_succ, List.filterMap_append, List.append_assoc]
  cases h : pairF F R r t <;> simp [List.filterMap_cons, h]
theorem PQ_r (F : List (List Int)) (R N r : Nat) : PQ F R N (r + 1) 0 = PQ F R N r N := by
  rw [PQ, PQ, List.range_succ, List.flatMap_append]; simp [rowP]
theorem PQ_len (F : List (List Int)) (R N r t : Nat) (hN : N ≤ 20) (ht : t ≤ N) : (PQ F R N r t).length ≤ r * 20 + 20 := by
  have h1 : ∀ r, ((List.range r).flatMap (rowP F R N)).length ≤ r * 20 := by
    intro r
    induction r with
    | zero => simp
    | succ r ih =>
      rw [List.range_succ, List.flatMap_append, List.length_append]
      have : (rowP F R N r).length ≤ N := by have := List.length_filterMap_le (pairF F R r) (List.range N); rw [List.length_range] at this; exact this
      simp only [List.flatMap_cons, List.flatMap_nil, List.append_nil]
      omega
  have h2 := List.length_filterMap_le (pairF F R r) (List.range t)
  rw [List.length_range] at h2
  have := h1 r
  rw [PQ, List.length_append]
  omega
def pairsF (F : List (List Int)) (R N : Nat) : List (Int × Int) := (List.range R).flatMap (rowP F R N)
theorem PQ_all (F : List (List Int)) (R N : Nat) : PQ F R N R 0 = pairsF F R N := by simp [PQ, pairsF]
end Go.Proofs.Ytcjpghiceebkfaa.P
