/- fastiref22.Foes and Matrix: the contracts. -/
import Derived.Test.YtcjpghiceebkfaaGRef
namespace Go.Proofs.Ytcjpghiceebkfaa.P
open Go.RowKit Go.Proofs.YtcjpghiceebkfaaW.PrintWords Go.Proofs.YtcjpghiceebkfaaW.PrintLast Go.Proofs.YtcjpghiceebkfaaW.PrintMore
open XW RegInv
set_option linter.unusedSimpArgs false
set_option linter.unusedVariables false

/-! ### contracts -/
theorem not_bad {n : Int} : ∀ (m : List S45) (s : Option (Ent × Int)), (m.foldl (foeStep n) s).isSome → ∀ x ∈ m, ¬ bad n x
  | [], _, _, x, h => by cases h
  | y :: m, s, hs, x, h => by
    rw [List.foldl_cons] at hs
    rcases List.mem_cons.1 h with rfl | h
    · intro hb
      cases s with
      | none => rw [show foeStep n none x = none from rfl, fold_none] at hs; cases hs
      | some s =>
        have : foeStep n (some s) x = none := by simp only [foeStep, Option.bind_some]; rw [if_pos hb]
        rw [this, fold_none] at hs; cases hs
    · exact not_bad m _ hs x h
theorem fine_of {n : Int} {m : List S45} (h : rightB n m = true) : Fine n.toNat m ∧ 2 ≤ n := by
  simp only [rightB, Bool.and_eq_true, decide_eq_true_eq] at h
  obtain ⟨_, h⟩ := h
  unfold foesF at h
  split at h
  · cases h
  · rename_i hn
    have hb := not_bad m _ h
    refine ⟨⟨by omega, by omega, fun x hx => ?_⟩, by omega⟩
    have := hb x hx
    unfold bad at this
    omega
end Go.Proofs.Ytcjpghiceebkfaa.P
