/- Bits of unsigned numbers of 32 bits. -/
import Derived.Test.YthddaojdlfifeaaXB
namespace XW
open Go Go.RowKit RegInv
set_option linter.unusedSimpArgs false
set_option linter.unusedVariables false
set_option linter.unusedSectionVars false

theorem wrap_u32 {x : Nat} (h : x < 4294967296) : IntKind.u32.wrap (x : Int) = x := by
  have h1 : ((x : Int) % (2 ^ IntKind.u32.bits : Int)) = x := Int.emod_eq_of_lt (by omega) (by show (x : Int) < 4294967296; omega)
  simp only [IntKind.wrap, h1]
  rfl
section
variable {F : Fence} {P : Program} {n : Nat} {Q : Post} {ρ : Nat → Value} {ds : List Deferred} {w base : World} {R : List Res} {ops : Array Oper}
theorem At_and (hF : Wide F) {dst : Option Tmp} {t t' ty : TypeId} {x y : Operand} {pos : String} {af : Array Edge} {rest : List Oper} {a b : Nat} (hx : xv n ρ x = .int .u32 (a : Int)) (hy : xv n ρ y = .int .u32 (b : Int)) (ha : a < 4294967296) (hb : b < 4294967296) (h : AL F P n Q ops rest (updO ρ dst (.int .u32 ((a &&& b : Nat) : Int))) ds base R) :
    AL F P n Q ops (⟨dst, .binOp .and t x y t', ty, pos, af, none⟩ :: rest) ρ ds base R := ⟨fun w hw => by
  refine XL_gives hF rfl (by simp) (.inl ?_) (h.use w hw)
  have e : IntKind.u32.wrap ((BitVec.ofInt 32 (a : Int) &&& BitVec.ofInt 32 (b : Int)).toNat : Int) = ((a &&& b : Nat) : Int) := by
    have h1 : (BitVec.ofInt 32 (a : Int) &&& BitVec.ofInt 32 (b : Int)).toNat = a &&& b := by
      rw [BitVec.toNat_and, BitVec.ofInt_natCast, BitVec.ofInt_natCast, BitVec.toNat_ofNat, BitVec.toNat_ofNat, Nat.mod_eq_of_lt ha, Nat.mod_eq_of_lt hb]
    rw [h1]; exact wrap_u32 (Nat.lt_of_le_of_lt Nat.and_le_left ha)
  simp [execOp, hx, hy, eqGuard, binOp, Op.intBits, Sem.run_bind, Result.andThen, Sem.run_pure, IntKind.bits]
  exact e⟩
theorem At_shr (hF : Wide F) {dst : Option Tmp} {t t' ty : TypeId} {x y : Operand} {pos : String} {af : Array Edge} {rest : List Oper} {a b : Nat} {yk : IntKind} (hx : xv n ρ x = .int .u32 (a : Int)) (hy : xv n ρ y = .int yk (b : Int)) (hb : b < 32) (h : AL F P n Q ops rest (updO ρ dst (.int .u32 ((a / 2 ^ b : Nat) : Int))) ds base R) :
    AL F P n Q ops (⟨dst, .binOp .shr t x y t', ty, pos, af, none⟩ :: rest) ρ ds base R := ⟨fun w hw => by
  refine XL_gives hF rfl (by simp) (.inl ?_) (h.use w hw)
  have e : (a : Int).fdiv (2 ^ b) = ((a / 2 ^ b : Nat) : Int) := by
    rw [show (2 : Int) ^ b = ((2 ^ b : Nat) : Int) by push_cast; rfl, Int.fdiv_eq_ediv_of_nonneg _ (Int.natCast_nonneg _)]; rfl
  have hm : min b 32 = b := by omega
  simp [execOp, hx, hy, eqGuard, binOp, Op.shift, Sem.run_bind, Result.andThen, Sem.run_pure, IntKind.bits, hm, e]⟩
end
end XW
