/- Opening an argument that is a slice of meetings. -/
import Derived.Test.YtcjpghiceebkfaaP0
import Derived.Test.YtcjpghiceebkfaaXA
import Derived.WalkKit
import Derived.ProofKit
import Derived.OpenShut
import Derived.ChangeOld
import Derived.Deep.Strs
namespace Go.Proofs.Ytcjpghiceebkfaa.P
open Go.ChangeShapes Go.WideShapes Go.ChangeAt Go.RowKit Go.Proofs.YtcjpghiceebkfaaW.PrintWords
set_option linter.unusedSimpArgs false
set_option linter.unusedVariables false
theorem cells_get {w : World} {base : Nat} {a : Addr} {n : Nat} {cs : List Value} (h : w.cells? base a n = some cs) : cs.length = n ∧ ∀ i u, cs[i]? = some u → w.cell? (a.add i) = some u := by
  unfold World.cells? at h
  split at h
  · have hl := mapM_some_length h
    simp only [List.length_range] at hl
    refine ⟨by omega, fun i u hu => ?_⟩
    have hi : i < n := by have := (List.getElem?_eq_some_iff.1 hu).1; omega
    have := mapM_some_get h i i (by simp [hi])
    rw [hu] at this
    exact this
  · cases h
theorem add_add_ (a : Addr) (i j : Nat) : (a.add i).add j = a.add (i + j) := by
  unfold Addr.add
  by_cases hj : j = 0
  · subst hj; simp
  · by_cases hi : i = 0
    · subst hi; simp [hj]
    · rw [if_neg hj, if_neg hi, if_neg (by omega)]; simp [Nat.add_assoc]
theorem len3 {cs : List Value} (h : cs.length = 3) : ∃ u v t, cs = [u, v, t] := by
  match cs, h with
  | [u, v, t], _ => exact ⟨u, v, t, rfl⟩
theorem open_meets {H : Type} {enc : TypeId × Value → H} {W : World} {base : Nat} {spare : Nat → Bool} {held : Bool} {a : Option Addr} {len cap : Nat} {d : DataW H} {ps : List MemPlace}
    (h : DataW.Trod enc Try.prog W base spare held 22 (.slice a len cap) d ps) : ∃ l : List S45, l.length = len ∧ len ≤ cap ∧ cap ≤ maxLen ∧ Kd.C k45 W a len l := by
  obtain ⟨fuel, hf⟩ := h
  rcases DataW.trod_slice Try.underlying22 hf with ⟨hcs, _⟩ | ⟨x, l, c, elems, rest, n, _, hcs, _, hb, hl, hm, hlen, hel, _, _⟩
  · simp [Value.cells] at hcs
    obtain ⟨rfl, rfl, rfl⟩ := hcs
    exact ⟨[], rfl, Nat.le_refl _, by decide, rfl, by omega, fun h => by omega⟩
  · simp [Value.cells] at hcs
    obtain ⟨rfl, rfl, rfl⟩ := hcs
    have hc2 : Try.prog.cellsOf 45 = 3 := by kernel_rfl
    rw [hc2] at hel
    have hex : ∀ i, i < len → ∃ p : S45, ∀ j u, ([.int .i64 p.f0, .int .i64 p.f1, .int .i64 p.f2] : List Value)[j]? = some u → W.cell? (x.add (i * 3 + j)) = some u := by
      intro i hi
      have h1 := hel i hi
      rw [List.getElem?_eq_getElem (by omega)] at h1
      obtain ⟨cs, hcs, ht⟩ := Option.bind_eq_some_iff.1 h1
      obtain ⟨y0, y1, y2, n', _, hl2, h3, h4, h5⟩ := Go.Deep.trod_struct3 Try.underlying45 ht
      obtain ⟨hcl, hcg⟩ := cells_get hcs
      rw [hc2] at hl2
      obtain ⟨u, v, t, rfl⟩ := len3 hl2
      have hc1 : Try.prog.cellsOf 3 = 1 := by kernel_rfl
      simp only [hc1] at h3 h4 h5
      obtain ⟨m0, e0, _, _⟩ := DataW.trod_int Try.underlying3 h3
      obtain ⟨m1, e1, _, _⟩ := DataW.trod_int Try.underlying3 h4
      obtain ⟨m2, e2, _, _⟩ := DataW.trod_int Try.underlying3 h5
      simp at e0 e1 e2
      subst e0 e1 e2
      refine ⟨⟨m0, m1, m2⟩, fun j u hu => ?_⟩
      rw [← add_add_]
      exact hcg j u hu
    have hf : ∃ f : Nat → S45, ∀ i, i < len → ∀ j u, ([.int .i64 (f i).f0, .int .i64 (f i).f1, .int .i64 (f i).f2] : List Value)[j]? = some u → W.cell? (x.add (i * 3 + j)) = some u :=
      ⟨fun i => if h : i < len then Classical.choose (hex i h) else z45, fun i hi => by simp only [dif_pos hi]; exact Classical.choose_spec (hex i hi)⟩
    obtain ⟨f, hf⟩ := hf
    refine ⟨(List.range len).map f, by simp, hl, hm, by simp, Nat.le_trans hl (Nat.le_trans hm (by decide)), fun _ => ⟨x, rfl, fun j p hj => ?_⟩⟩
    have hjl : j < len := by have := (List.getElem?_eq_some_iff.1 hj).1; simpa using this
    have hp : f j = p := by
      rw [List.getElem?_map, List.getElem?_range hjl] at hj
      simpa using hj
    subst hp
    exact ⟨[.int .i64 (f j).f0, .int .i64 (f j).f1, .int .i64 (f j).f2], rfl, k45_mk W (f j), fun i u hu => hf j hjl i u hu⟩
end Go.Proofs.Ytcjpghiceebkfaa.P
