/- Plain laws of the printed parts. -/
import Derived.Test.YtecgklfcblpkdaaP1
import Derived.Test.YtecgklfcblpkdaaP2
import Derived.Test.YtecgklfcblpkdaaP3
import Derived.Test.YtecgklfcblpkdaaP5
import Derived.Test.YtecgklfcblpkdaaP6
import Derived.Test.YtecgklfcblpkdaaP7
import Derived.Test.YtecgklfcblpkdaaP8
import Derived.Test.YtecgklfcblpkdaaP9
import Derived.Test.YtecgklfcblpkdaaVioP
namespace Go.Proofs.Ytecgklfcblpkdaa.P
open Go.RowKit Go.Proofs.YtecgklfcblpkdaaW.PrintWords Go.Proofs.YtecgklfcblpkdaaW.PrintLast Go.Proofs.YtecgklfcblpkdaaW.PrintMore
open XW
set_option linter.unusedSimpArgs false
set_option linter.unusedVariables false

/-- from some number of rounds on -/
def Ev {α : Type} (f : Nat → Option α) (v : α) : Prop := ∃ K, ∀ k, K ≤ k → f k = some v
theorem ev_of {α : Type} {f : Nat → Option α} (h : ∀ k, LeO (f k) (f (k + 1))) {v : α} (hv : ∃ k, f k = some v) : Ev f v := by
  obtain ⟨K, hK⟩ := hv
  exact ⟨K, fun k hk => leO_le h hk _ hK⟩
theorem few_l0 (p : List (List Int)) : ∀ (d : Nat) (x5 : Int) (i : Nat), 100 - i ≤ d → ∃ b, fastiref21_Few.l0 (d + 1) p x5 i = some b := by
  intro d
  have hend : ∀ (k : Nat) (x5 : Int) (i : Nat), ¬ (i < p.length ∧ i < 100) → ∃ b, fastiref21_Few.l0 (k + 1) p x5 i = some b := by
    intro k x5 i h
    rw [fastiref21_Few.l0]
    by_cases h1 : i < p.length
    · rw [if_pos (by omega), if_neg (by omega)]; split <;> exact ⟨_, rfl⟩
    · rw [if_neg (by omega)]; split <;> exact ⟨_, rfl⟩
  induction d with
  | zero => intro x5 i hd; exact hend 0 x5 i (by omega)
  | succ d ih =>
    intro x5 i hd
    by_cases h : i < p.length ∧ i < 100
    · rw [fastiref21_Few.l0, if_pos (by omega), if_pos (by omega), if_pos (by omega), w64 (x := (i : Int) + 1) (by omega)]
      exact ih _ (i + 1) (by omega)
    · exact hend _ x5 i h
theorem few_ev (m : List S44) (p : List (List Int)) : ∃ b, Ev (fun k => fastiref21_Few.f k m p) b := by
  obtain ⟨b, hb⟩ := few_l0 p 100 (m.length : Int) 0 (by omega)
  exact ⟨b, ev_of (fun k => fastiref21_Few.mono _ _ k) ⟨101, hb⟩⟩
theorem ints_l0 (l : List Int) (hl : l.length ≤ 9223372036854775807) : ∀ (d i : Nat), l.length - i ≤ d → i ≤ l.length → fastiref21_SameInts.l0 (d + 1) l l i = some true := by
  intro d
  induction d with
  | zero => intro i hd hi; rw [fastiref21_SameInts.l0, if_neg (by omega)]
  | succ d ih =>
    intro i hd hi
    rw [fastiref21_SameInts.l0]
    by_cases h : i < l.length
    · rw [if_pos (by omega), if_pos (by omega), if_pos (by omega), if_pos rfl, w64 (by omega)]; exact ih (i + 1) (by omega) h
    · rw [if_neg (by omega)]
theorem ints_ev (l : List Int) (hl : l.length ≤ 9223372036854775807) : Ev (fun k => fastiref21_SameInts.f k l l) true :=
  ev_of (fun k => fastiref21_SameInts.mono _ _ k) ⟨l.length + 1, by show fastiref21_SameInts.f _ l l = _; rw [fastiref21_SameInts.f, if_pos rfl]; exact ints_l0 l hl l.length 0 (by omega) (by omega)⟩
/-! ### breaks -/
/-! ### the reference's patterns -/
end Go.Proofs.Ytecgklfcblpkdaa.P
