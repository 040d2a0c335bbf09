/- Bytes of strings, and conversions between whole numbers. -/
import Derived.Test.YtmilnlcegcdolaaXB
namespace XW
open Go Go.RowKit RegInv
set_option linter.unusedSimpArgs false
set_option linter.unusedVariables false
set_option linter.unusedSectionVars false
section
variable {F : Fence} {P : Program} {n : Nat} {Q : Post} {ρ : Nat → Value} {ds : List Deferred} {w base : World} {R : List Res} {ops : Array Oper}
theorem At_conv (hF : Wide F) {dst : Option Tmp} {t t' ty : TypeId} {x : Operand} {pos : String} {af : Array Edge} {rest : List Oper} {a : Int} {k k' : IntKind} (ht : P.underlying t = some (.int k)) (ht' : P.underlying t' = some (.int k')) (hx : xv n ρ x = .int k a) (h : AL F P n Q ops rest (updO ρ dst (.int k' (k'.wrap a))) ds base R) :
    AL F P n Q ops (⟨dst, .convert t t' x, ty, pos, af, none⟩ :: rest) ρ ds base R := ⟨fun w hw => by
  refine XL_gives hF rfl (by simp) (.inl ?_) (h.use w hw)
  simp [execOp, convert, hx, underlying, program, ht, ht', Conv.intToInt, Sem.run_bind, Sem.run, Result.andThen, Sem.run_pure]⟩
end
end XW
