/- Nets, plainly: what the moves give where they are right. -/
import Derived.Test.YtmilnlcegcdolaaLawK
namespace Go.Proofs.Ytmilnlcegcdolaa.P
open Go.RowKit Go.Proofs.YtmilnlcegcdolaaW.PrintWords
open XW RegInv
set_option linter.unusedSimpArgs false
set_option linter.unusedVariables false

section
variable {q : List PKT} {a : List (Int × Int)} {p : PKT} {k : Nat}
theorem atE_ok (h : okN q a) (hk : k < q.length) : atE q a (k : Int) = 0 := by
  unfold atE
  rw [if_neg (fun h2 => h2 h), if_neg (by omega)]
def dlvQ (q : List PKT) (a : List (Int × Int)) (k : Nat) : PKT := if btw (q.getD k zP).f (q.getD k zP).t ∈ a then zP else q.getD k zP
theorem del_ok (h : okN q a) (hk : k < q.length) : delF q a (k : Int) = (dlvQ q a k, (q.eraseIdx k, a), 0) := by
  unfold delF
  rw [if_neg (by rw [atE_ok h hk]; simp), Int.toNat_natCast]; rfl
theorem cut_ok (h : okN q a) {x y : Int} (hl : okL (btw x y)) (on : Bool) : cutF q a x y on = ((q, cutsL a (btw x y) on), 0) := by
  unfold cutF
  rw [if_neg (fun h2 => h2 h), if_neg (fun h2 => h2 hl)]
end
end Go.Proofs.Ytmilnlcegcdolaa.P
