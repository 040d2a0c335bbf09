/- Links cut and mended, plainly. -/
import Derived.Test.YtmilnlcegcdolaaNetQ
import Derived.Test.YtmilnlcegcdolaaCutsW
namespace Go.Proofs.Ytmilnlcegcdolaa.P
open Go.RowKit Go.Proofs.YtmilnlcegcdolaaW.PrintWords
open XW RegInv
set_option linter.unusedSimpArgs false
set_option linter.unusedVariables false

theorem allL_sorted : allL.Pairwise befL := by decide +kernel
theorem allL_okL : ∀ x ∈ allL, okL x := by decide +kernel
section
variable {a : List (Int × Int)} {l : Int × Int} {on : Bool}
theorem mem_cutsL {x : Int × Int} : x ∈ cutsL a l on ↔ x ∈ allL ∧ keepL a l on x = true := List.mem_filter
theorem okA_of {b : List (Int × Int)} (h1 : b.Pairwise befL) (h2 : ∀ x ∈ b, okL x) : ∀ i, i < b.length → okA b i := by
  intro i hi
  refine ⟨h2 _ (getD_mem' hi), fun h0 => ?_⟩
  have := List.pairwise_iff_getElem.1 h1 (i - 1) i (by omega) hi (by omega)
  rwa [List.getD_eq_getElem?_getD, List.getD_eq_getElem?_getD, List.getElem?_eq_getElem hi, List.getElem?_eq_getElem (show i - 1 < b.length by omega)]
theorem okN_cuts {q : List PKT} (h : okN q a) : okN q (cutsL a l on) :=
  ⟨h.1, h.2.1, okA_of (allL_sorted.sublist List.filter_sublist) (fun x hx => allL_okL x (mem_cutsL.1 hx).1)⟩
theorem cut_no {q : List PKT} {x y : Int} (h : okN q a) (hl : ¬ okL (btw x y)) (on : Bool) : cutF q a x y on = (([], []), 1) := by
  unfold cutF
  rw [if_neg (fun h2 => h2 h), if_pos hl]
end
end Go.Proofs.Ytmilnlcegcdolaa.P
