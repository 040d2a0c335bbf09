/- A guard whose own operation was passed over. -/
import Derived.Test.YtmilnlcegcdolaaXB
import Derived.Laws.Small
namespace XW
open Go Go.RowKit
section
variable {F : Fence} {P : Program} {n : Nat} {Q : Post} {ρ : Nat → Value} {ds : List Deferred} {base : World} {R : List Res} {ops : Array Oper}
theorem At_guard_u (hF : Wide F) {dst : Option Tmp} {op : Op} {ty : TypeId} {pos : String} {af : Array Edge} {rest : List Oper} {g t : Nat} {want : Bool} (ho : (ops[g]?).bind (·.dst) = some t) (ht : t < n) (hv : ρ t = undef)
    (h1 : AL F P n Q ops rest (updO ρ dst undef) ds base R) : AL F P n Q ops (⟨dst, op, ty, pos, af, some (g, want)⟩ :: rest) ρ ds base R := ⟨fun w hw => by
  obtain ⟨og, hog, hd⟩ := Option.bind_eq_some_iff.1 ho
  show wpListIn ..
  unfold wpListIn
  have hw' : Region.wanted (⟨dst, op, ty, pos, af, some (g, want)⟩ : Oper) (yielded ops (fr n ρ ds).tmps) = false := by
    simp only [Region.wanted, yielded, hog, Option.bind_some, hd, fr_get ht, hv, undef]
    rfl
  rw [hw', if_neg (by simp), put_fr]
  exact ⟨fun f _ => hF.fn f, h1.use w hw⟩⟩
end
end XW
