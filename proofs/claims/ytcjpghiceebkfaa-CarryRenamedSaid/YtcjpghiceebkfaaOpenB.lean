/- Opening an argument that is a slice of bools. -/
import Derived.Test.YtcjpghiceebkfaaOpen
namespace Go.Proofs.Ytcjpghiceebkfaa.P
open Go.ChangeShapes Go.WideShapes Go.ChangeAt Go.RowKit Go.Proofs.YtcjpghiceebkfaaW.PrintWords
set_option linter.unusedSimpArgs false
set_option linter.unusedVariables false
theorem open_bools {H : Type} {enc : TypeId × Value → H} {W : World} {base : Nat} {spare : Nat → Bool} {held : Bool} {a : Option Addr} {len cap : Nat} {d : DataW H} {ps : List MemPlace}
    (h : DataW.Trod enc Try.prog W base spare held 41 (.slice a len cap) d ps) : ∃ l : List Bool, l.length = len ∧ len ≤ cap ∧ cap ≤ maxLen ∧ Kd.C Kd.bool W a len l := by
  obtain ⟨fuel, hf⟩ := h
  rcases DataW.trod_slice Try.underlying41 hf with ⟨hcs, _⟩ | ⟨x, l, c, elems, rest, n, _, hcs, _, hb, hl, hm, hlen, hel, _, _⟩
  · simp [Value.cells] at hcs
    obtain ⟨rfl, rfl, rfl⟩ := hcs
    exact ⟨[], rfl, Nat.le_refl _, by decide, rfl, by omega, fun h => by omega⟩
  · simp [Value.cells] at hcs
    obtain ⟨rfl, rfl, rfl⟩ := hcs
    have hc2 : Try.prog.cellsOf 4 = 1 := by kernel_rfl
    rw [hc2] at hel
    have hex : ∀ i, i < len → ∃ p : Bool, W.cell? (x.add i) = some (.bool p) := by
      intro i hi
      have h1 := hel i hi
      rw [List.getElem?_eq_getElem (by omega)] at h1
      obtain ⟨cs, hcs, ht⟩ := Option.bind_eq_some_iff.1 h1
      obtain ⟨hcl, hcg⟩ := cells_get hcs
      obtain ⟨b, rfl, _⟩ := DataW.trod_bool Try.underlying4 ht
      have := hcg 0 _ rfl
      rw [add_add_, Nat.mul_one, Nat.add_zero] at this
      exact ⟨b, this⟩
    have hf : ∃ f : Nat → Bool, ∀ i, i < len → W.cell? (x.add i) = some (.bool (f i)) :=
      ⟨fun i => if h : i < len then Classical.choose (hex i h) else false, fun i hi => by simp only [dif_pos hi]; exact Classical.choose_spec (hex i hi)⟩
    obtain ⟨f, hf⟩ := hf
    refine ⟨(List.range len).map f, by simp, hl, hm, by simp, Nat.le_trans hl (Nat.le_trans hm (by decide)), fun _ => ⟨x, rfl, fun j p hj => ?_⟩⟩
    have hjl : j < len := by have := (List.getElem?_eq_some_iff.1 hj).1; simpa using this
    have hp : f j = p := by
      rw [List.getElem?_map, List.getElem?_range hjl] at hj
      simpa using hj
    subst hp
    refine ⟨[.bool (f j)], rfl, rfl, fun i u hu => ?_⟩
    cases i with
    | zero =>
      cases hu
      have := hf j hjl
      rw [show Kd.bool.sz = 1 from rfl, Nat.mul_one, Nat.add_zero]
      exact this
    | succ i => simp at hu
end Go.Proofs.Ytcjpghiceebkfaa.P
