/- Ways that leave a block, brought together. -/
import Derived.Test.YtmilnlcegcdolaaXB
namespace XW
open Go Go.RowKit RegInv
set_option linter.unusedSimpArgs false
set_option linter.unusedVariables false
set_option linter.unusedSectionVars false
universe u
section
variable {F : Fence} {P : Program} {n : Nat} {Q : Post} {ρ : Nat → Value} {ds : List Deferred} {base : World} {R : List Res}
/-- the ways through a piece, brought together -/
theorem At_mergeU {K : (Nat → Value) → List Deferred → World → Prop} {c : Code} {σ : Type u} (L : σ → List (Nat × Value)) (R' : σ → List Res) (φ : σ → Prop) (h : ∀ K' : (Nat → Value) → List Deferred → World → Prop, (∀ s ρ', φ s → AllAt ρ' (L s) → At base (R' s) (K' ρ' ds)) → At base R (X F P n (Then K' Q) c ρ ds)) (hb : ∀ s ρ0, φ s → At base (R' s) (K (ovr ρ0 (L s)) ds)) :
    At base R (X F P n (Then K Q) c ρ ds) := fun w hw => by
  refine X_mono (h (fun ρ' ds' w' => ∃ s, φ s ∧ AllAt ρ' (L s) ∧ ds' = ds ∧ Mem base w' (R' s)) (fun s ρ' hs hl w' hw' => ⟨s, hs, hl, rfl, hw'⟩) w hw) ?_
  intro e ρ' ds' w' hq
  cases e with
  | normal =>
    obtain ⟨s, hs, hl, rfl, hw'⟩ := hq
    have := hb s ρ' hs w' hw'
    rw [ovr_eq ρ' _ hl] at this
    exact this
  | _ => exact hq
/-- a remainder, of whatever kind -/
theorem At_remK (hF : Wide F) {dst : Option Tmp} {t t' ty : TypeId} {x y : Operand} {pos : String} {af : Array Edge} {rest : List Oper} {ops : Array Oper} {k : IntKind} {a b : Int} (hx : xv n ρ x = .int k a) (hy : xv n ρ y = .int k b) (hr : 0 ≤ a ∧ 0 < b) (h : AL F P n Q ops rest (updO ρ dst (.int k (a % b))) ds base R) :
    AL F P n Q ops (⟨dst, .binOp .rem t x y t', ty, pos, af, none⟩ :: rest) ρ ds base R :=
  At_plain hF (v := .int k (a % b)) (by simp only [plain, hx, hy, bin, intBin, if_true]; rw [if_neg (by omega), Int.tmod_eq_emod_of_nonneg hr.1]) h
end
end XW
