/- Ways that leave a block, brought together. -/
import Derived.Test.YtmilnlcegcdolaaXB
namespace XW
open Go Go.RowKit RegInv
set_option linter.unusedSimpArgs false
set_option linter.unusedVariables false
set_option linter.unusedSectionVars false
universe u
section
variable {F : Fence} {P : Program} {n : Nat} {Q : Post} {ρ : Nat → Value} {ds : List Deferred} {base : World} {R : List Res}
/-- the frame told anew by what is still wanted of it -/
theorem AL.fr {ops : Array Oper} {l : List Oper} (L : List (Nat × Value)) (hL : AllAt ρ L) (h : ∀ ρ0, AL F P n Q ops l (ovr ρ0 L) ds base R) : AL F P n Q ops l ρ ds base R := by
  have := h ρ
  rwa [ovr_eq ρ L hL] at this
/-- a remainder, of whatever kind -/
theorem At_remK (hF : Wide F) {dst : Option Tmp} {t t' ty : TypeId} {x y : Operand} {pos : String} {af : Array Edge} {rest : List Oper} {ops : Array Oper} {k : IntKind} {a b : Int} (hx : xv n ρ x = .int k a) (hy : xv n ρ y = .int k b) (hr : 0 ≤ a ∧ 0 < b) (h : AL F P n Q ops rest (updO ρ dst (.int k (a % b))) ds base R) :
    AL F P n Q ops (⟨dst, .binOp .rem t x y t', ty, pos, af, none⟩ :: rest) ρ ds base R :=
  At_plain hF (v := .int k (a % b)) (by simp only [plain, hx, hy, bin, intBin, if_true]; rw [if_neg (by omega), Int.tmod_eq_emod_of_nonneg hr.1]) h
end
end XW
