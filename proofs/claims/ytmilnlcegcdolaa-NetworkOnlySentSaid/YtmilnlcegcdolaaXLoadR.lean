/- An element of several cells, read out of a row of the call's own. -/
import Derived.Test.YtmilnlcegcdolaaXStruct
import Derived.Test.YtmilnlcegcdolaaXCallF
namespace XW
open Go Go.RowKit
set_option linter.unusedSimpArgs false
set_option linter.unusedVariables false
set_option linter.unusedSectionVars false
section
variable {F : Fence} {P : Program} {n : Nat} {Q : Post} {ρ : Nat → Value} {ds : List Deferred} {w base : World} {R R' : List Res} {ops : Array Oper} {Φ : World → Prop}
theorem row_cell {α : Type} {e sz c : Nat} {enc : α → List Value} {b : Nat} {l : List α} {w : World} (h : RowOk e sz enc (some b) c l w) (d : α) {k : Nat} (hk : k < l.length) : ∀ j u, (enc (l.getD k d))[j]? = some u → w.cell? ⟨b, k * sz + j, none⟩ = some u := by
  obtain ⟨h1, _, _, junk, hb, _⟩ := h
  intro j u hu
  have := get_flat h1 d l k hk (j := j) (v := u) hu
  refine cell_of hb ?_
  rw [buf, List.getElem?_toArray, List.getElem?_append_left (List.getElem?_eq_some_iff.1 this).1]
  exact this
theorem At_loadRow (hF : Wide F) {dst : Option Tmp} {t ty : TypeId} {x : Operand} {pos : String} {af : Array Edge} {rest : List Oper} {α : Type} {e sz c b k : Nat} {enc : α → List Value} {l : List α} [T : TAgg P t] (i : Nat) (hx : xv n ρ x = .pointer (some ⟨b, k * sz, none⟩)) (hi : R[i]? = some (.row e sz enc (some b) c l)) (d : α) (hk : k < l.length) (hs : T.size = sz) {v : Value} (hv : .agg (enc (l.getD k d)).toArray = v)
    (h : AL F P n Q ops rest (updO ρ dst v) ds base R) : AL F P n Q ops (⟨dst, .load t x, ty, pos, af, none⟩ :: rest) ρ ds base R := ⟨fun w hw => by
  subst hv
  obtain ⟨d', i', hu, hd, hi', hsz⟩ := T.h
  have hok := hw.ok _ (List.mem_of_getElem? hi)
  have hl : (enc (l.getD k d)).length = T.size := by rw [hs]; exact hok.1 _
  exact XL_load hF hx (loads_agg (cs := enc (l.getD k d)) hu hd hi' (by omega) (fun j u hj => by
    rw [add_plain]
    exact row_cell hok d hk j u hj)) (h.use w hw)⟩
end
end XW
