import Derived.Test.YtecgklfcblpkdaaXB
import Derived.Laws.Small
/- Bytes of strings, and conversions between whole numbers. -/
namespace XW
open Go Go.RowKit RegInv
set_option linter.unusedSimpArgs false
set_option linter.unusedVariables false
set_option linter.unusedSectionVars false
section
variable {F : Fence} {P : Program} {n : Nat} {Q : Post} {ρ : Nat → Value} {ds : List Deferred} {w base : World} {R : List Res} {ops : Array Oper}
theorem At_indexStr (hF : Wide F) {dst : Option Tmp} {t ty : TypeId} {x y : Operand} {pos : String} {af : Array Edge} {rest : List Oper} {s : ByteArray} {i : Nat} {kk : IntKind} {b : UInt8} (ht : P.underlying t = some .string) (hx : xv n ρ x = .string s) (hy : xv n ρ y = .int kk (i : Int)) (hb : s[i]? = some b) (h : AL F P n Q ops rest (updO ρ dst (.int .u8 (b.toNat : Int))) ds base R) :
    AL F P n Q ops (⟨dst, .index t x y, ty, pos, af, none⟩ :: rest) ρ ds base R := ⟨fun w hw => by
  refine XL_gives hF rfl (by simp) (.inl ?_) (h.use w hw)
  have h0 : (if (0 : Int) ≤ (i : Int) then s[(i : Int).toNat]? else none) = some b := by rw [if_pos (by omega), Int.toNat_natCast]; exact hb
  simp [execOp, Instr.index, hx, hy, asIntOf, underlying, program, ht, h0, Sem.run_bind, Sem.run, Result.andThen, Sem.run_pure, hb]⟩
theorem At_conv (hF : Wide F) {dst : Option Tmp} {t t' ty : TypeId} {x : Operand} {pos : String} {af : Array Edge} {rest : List Oper} {a : Int} {k k' : IntKind} (ht : P.underlying t = some (.int k)) (ht' : P.underlying t' = some (.int k')) (hx : xv n ρ x = .int k a) (h : AL F P n Q ops rest (updO ρ dst (.int k' (k'.wrap a))) ds base R) :
    AL F P n Q ops (⟨dst, .convert t t' x, ty, pos, af, none⟩ :: rest) ρ ds base R := ⟨fun w hw => by
  refine XL_gives hF rfl (by simp) (.inl ?_) (h.use w hw)
  simp [execOp, convert, hx, underlying, program, ht, ht', Conv.intToInt, Sem.run_bind, Sem.run, Result.andThen, Sem.run_pure]⟩
end
end XW

/- A guard whose own operation was passed over. -/
namespace XW
open Go Go.RowKit
section
variable {F : Fence} {P : Program} {n : Nat} {Q : Post} {ρ : Nat → Value} {ds : List Deferred} {base : World} {R : List Res} {ops : Array Oper}
end
end XW
