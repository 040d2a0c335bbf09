/- A guard whose own operation was passed over. -/
import Derived.Test.YtmilnlcegcdolaaXB
import Derived.Laws.Small
namespace XW
open Go Go.RowKit
section
variable {F : Fence} {P : Program} {n : Nat} {Q : Post} {ρ : Nat → Value} {ds : List Deferred} {base : World} {R : List Res} {ops : Array Oper}
theorem At_guard_u (hF : Wide F) {dst : Option Tmp} {op : Op} {ty : TypeId} {pos : String} {af : Array Edge} {rest : List Oper} {g t : Nat} {want : Bool} (ho : (ops[g]?).bind (·.dst) = some t) (ht : t < n) (hv : ρ t = undef)
    (h1 : AL F P n Q ops rest (updO ρ dst undef) ds base R) : AL F P n Q ops (⟨dst, op, ty, pos, af, some (g, want)⟩ :: rest) ρ ds base R := ⟨fun w hw => by
  obtain ⟨og, hog, hd⟩ := Option.bind_eq_some_iff.1 ho
  show wpListIn ..
  unfold wpListIn
  have hw' : Region.wanted (⟨dst, op, ty, pos, af, some (g, want)⟩ : Oper) (yielded ops (fr n ρ ds).tmps) = false := by
    simp only [Region.wanted, yielded, hog, Option.bind_some, hd, fr_get ht, hv, undef]
    rfl
  rw [hw', if_neg (by simp), put_fr]
  exact ⟨fun f _ => hF.fn f, h1.use w hw⟩⟩
theorem run_eqB {t : TypeId} (hu : P.underlying t = some .bool) (x y : Operand) (a b : Bool) (w : World) : (do eqGuard .eql t x y (.bool a) (.bool b); binOp .eql t (.bool a) (.bool b) : Sem Value).run P w = .ok (.bool (a == b)) w := by
  have e1 : eqGuard .eql t x y (.bool a) (.bool b) = pure () := rfl
  have e2 : binOp .eql t (.bool a) (.bool b) = (do pure (.bool (← Op.equal t (.bool a) (.bool b)))) := rfl
  rw [e1, e2, Sem.run_bind, Sem.run_pure]
  show (Sem.run P _ w) = _
  rw [Sem.run_bind, run_equal_bool w t a b hu]
  rfl
theorem At_eqB (hF : Wide F) {dst : Option Tmp} {t ty yt : TypeId} {x y : Operand} {pos : String} {af : Array Edge} {rest : List Oper} {a b : Bool} (hu : P.underlying t = some .bool) (hx : xv n ρ x = .bool a) (hy : xv n ρ y = .bool b) (h : AL F P n Q ops rest (updO ρ dst (.bool (a == b))) ds base R) :
    AL F P n Q ops (⟨dst, .binOp .eql t x y yt, ty, pos, af, none⟩ :: rest) ρ ds base R := ⟨fun w hw => XL_gives hF rfl (by simp) (.inl (by
  have := run_eqB hu x y a b w
  simp only [execOp, hx, hy]
  rw [Sem.run_bind, this]; rfl)) (h.use w hw)⟩
end
end XW
