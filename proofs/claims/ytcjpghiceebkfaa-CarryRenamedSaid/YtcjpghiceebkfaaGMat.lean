/- carry.Matrix: the contract. -/
import Derived.Test.YtcjpghiceebkfaaCnt
import Derived.Test.YtcjpghiceebkfaaConv
namespace Go.Proofs.Ytcjpghiceebkfaa.P
open Go.RowKit Go.Proofs.YtcjpghiceebkfaaW.PrintWords Go.Proofs.YtcjpghiceebkfaaW.PrintLast Go.Proofs.YtcjpghiceebkfaaW.PrintMore
open XW RegInv
set_option linter.unusedSimpArgs false
set_option linter.unusedVariables false

def carry_Matrix.f (a0 : Int) (l1 : List (S45)) : Option ((List (List Int)) × Int) := if l1.length ≤ 1000000 then (match foesF a0 l1 with
  | none => some ([], 220)
  | some (es, r) => some (cntM a0.toNat (es.filterMap (nxt es r)), 0)) else none
theorem carry_Matrix.calls (a0 : Int) (A1 : Option Addr) (c1 : Nat) (l1 : List (S45)) (r1 : List (List Int)) (r2 : Int) (w : World) (hr1 : Kd.C k45 w A1 l1.length l1) (hc1 : l1.length ≤ c1) (h : carry_Matrix.f a0 l1 = some (r1, r2)) :
    Calls Try.prog 11 #[.int .i64 a0, .slice A1 l1.length c1] w fun e w' => ∃ v0_ : Value, e = .returned (.tuple #[v0_, .int .i64 r2]) ∧ Kd.S (Kd.slice 3 (Kd.int .i64)) 33 w' w.heap.size (fun _ => True) v0_ r1 ∧ Below w.heap.size w w' := by
  unfold carry_Matrix.f at h
  split at h
  · rename_i hm
    refine (matrix_rets a0 A1 c1 l1 w hr1 hc1 (fun es r hf => foes_ok a0 l1 hm es r hf)).mono ?_
    rintro e w' ⟨u, rfl, Rs, hp, hmem⟩
    unfold matPost at hp
    cases hf : foesF a0 l1 with
    | none =>
      rw [hf] at hp h
      obtain ⟨rfl, rfl⟩ := hp
      simp only [Option.some.injEq, Prod.mk.injEq] at h
      obtain ⟨rfl, rfl⟩ := h
      exact ⟨_, rfl, Kd.S_nil _ _ _ _ _, hmem.below⟩
    | some p =>
      obtain ⟨es, r⟩ := p
      rw [hf] at hp h
      obtain ⟨bc, bs, M, xs, hall, hM, hbs, rfl, rfl⟩ := hp
      simp only [Option.some.injEq, Prod.mk.injEq] at h
      obtain ⟨rfl, rfl⟩ := h
      obtain ⟨hn2, hn20, hok⟩ := foes_ok a0 l1 hm es r hf
      obtain ⟨N, rfl⟩ : ∃ N : Nat, a0 = N := ⟨a0.toNat, by omega⟩
      simp only [Int.toNat_natCast] at *
      have hM' : M = cntM N (es.filterMap (nxt es r)) := hM.trans (mat_eq hok hall)
      refine ⟨_, rfl, ?_, hmem.below⟩
      rw [buf_map] at hmem
      rw [← hM']
      have := S_of_mem (n := N) (R := []) hmem (by omega) (by omega) (by rw [hM']; exact cntM_row N _)
      rw [hbs] at this
      exact this
  · cases h
end Go.Proofs.Ytcjpghiceebkfaa.P
