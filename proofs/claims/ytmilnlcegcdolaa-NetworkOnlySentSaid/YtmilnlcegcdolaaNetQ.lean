/- Nets, plainly: what the moves give where they are right. -/
import Derived.Test.YtmilnlcegcdolaaLawK
namespace Go.Proofs.Ytmilnlcegcdolaa.P
open Go.RowKit Go.Proofs.YtmilnlcegcdolaaW.PrintWords
open XW RegInv
set_option linter.unusedSimpArgs false
set_option linter.unusedVariables false

section
variable {q : List PKT} {a : List (Int × Int)} {p : PKT} {k : Nat}
theorem okN_erase (h : okN q a) (k : Nat) : okN (q.eraseIdx k) a := by
  have := List.length_eraseIdx_le q k
  exact ⟨Nat.le_trans this h.1, fun p hp => h.2.1 p (List.eraseIdx_subset hp), h.2.2⟩
theorem okN_snoc (h : okN q a) (hp : okP p) (hl : q.length < 4096) : okN (q ++ [p]) a := by
  refine ⟨by simp; omega, fun x hx => ?_, h.2.2⟩
  rcases List.mem_append.1 hx with hx | hx
  · exact h.2.1 x hx
  · rw [List.mem_singleton.1 hx]; exact hp
theorem atE_ok (h : okN q a) (hk : k < q.length) : atE q a (k : Int) = 0 := by
  unfold atE
  rw [if_neg (fun h2 => h2 h), if_neg (by omega)]
def dlvQ (q : List PKT) (a : List (Int × Int)) (k : Nat) : PKT := if btw (q.getD k zP).f (q.getD k zP).t ∈ a then zP else q.getD k zP
theorem del_ok (h : okN q a) (hk : k < q.length) : delF q a (k : Int) = (dlvQ q a k, (q.eraseIdx k, a), 0) := by
  unfold delF
  rw [if_neg (by rw [atE_ok h hk]; simp), Int.toNat_natCast]; rfl
theorem los_ok (h : okN q a) (hk : k < q.length) : losF q a (k : Int) = ((q.eraseIdx k, a), 0) := by
  unfold losF
  rw [if_neg (by rw [atE_ok h hk]; simp), Int.toNat_natCast]
theorem snd_ok (h : okN q a) (hp : okP p) (hl : q.length < 4096) : sendF q a p = ((q ++ [p], a), 0) := by
  unfold sendF
  rw [if_neg (by simp [h, hp]), if_neg (by omega)]
theorem cut_ok (h : okN q a) {x y : Int} (hl : okL (btw x y)) (on : Bool) : cutF q a x y on = ((q, cutsL a (btw x y) on), 0) := by
  unfold cutF
  rw [if_neg (fun h2 => h2 h), if_neg (fun h2 => h2 hl)]
end
end Go.Proofs.Ytmilnlcegcdolaa.P
