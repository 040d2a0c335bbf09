/- Opening an argument that is a slice of points. -/
import Derived.Test.YtbbffpgnjdejiaaP0
import Derived.Test.YtbbffpgnjdejiaaXMem
import Derived.WalkKit
import Derived.ProofKit
import Derived.OpenShut
import Derived.ChangeOld
namespace Go.Proofs.Ytbbffpgnjdejiaa.P
open Go.ChangeShapes Go.WideShapes Go.ChangeAt Go.RowKit Go.Proofs.YtbbffpgnjdejiaaW.PrintWords
set_option linter.unusedSimpArgs false
set_option linter.unusedVariables false

theorem cells_get {w : World} {base : Nat} {a : Addr} {n : Nat} {cs : List Value} (h : w.cells? base a n = some cs) : cs.length = n ∧ ∀ i u, cs[i]? = some u → w.cell? (a.add i) = some u := by
  unfold World.cells? at h
  split at h
  · have hl := mapM_some_length h
    simp only [List.length_range] at hl
    refine ⟨by omega, fun i u hu => ?_⟩
    have hi : i < n := by have := (List.getElem?_eq_some_iff.1 hu).1; omega
    have := mapM_some_get h i i (by simp [hi])
    rw [hu] at this
    exact this
  · cases h

def ptOf : List Value → S38
  | [.int _ x, .int _ y] => ⟨x, y⟩
  | _ => z38

theorem open_points {H : Type} {enc : TypeId × Value → H} {W : World} {base : Nat} {spare : Nat → Bool} {held : Bool} {a : Option Addr} {len cap : Nat} {d : DataW H} {ps : List MemPlace}
    (h : DataW.Trod enc Try.prog W base spare held 30 (.slice a len cap) d ps) : ∃ l : List S38, l.length = len ∧ len ≤ cap ∧ cap ≤ maxLen ∧ Kd.C k38 W a len l := by
  obtain ⟨fuel, hf⟩ := h
  rcases DataW.trod_slice Try.underlying30 hf with ⟨hcs, _⟩ | ⟨x, l, c, elems, rest, n, _, hcs, _, hb, hl, hm, hlen, hel, _, _⟩
  · simp [Value.cells] at hcs
    obtain ⟨rfl, rfl, rfl⟩ := hcs
    exact ⟨[], rfl, Nat.le_refl _, by decide, rfl, by omega, fun h => by omega⟩
  · simp [Value.cells] at hcs
    obtain ⟨rfl, rfl, rfl⟩ := hcs
    have hc2 : Try.prog.cellsOf 38 = 2 := by kernel_rfl
    rw [hc2] at hel
    have hex : ∀ i, i < len → ∃ p : S38, W.cell? (x.add (i * 2)) = some (.int .i64 p.f0) ∧ W.cell? (x.add (i * 2 + 1)) = some (.int .i64 p.f1) := by
      intro i hi
      have h1 := hel i hi
      rw [List.getElem?_eq_getElem (by omega)] at h1
      obtain ⟨cs, hcs, ht⟩ := Option.bind_eq_some_iff.1 h1
      obtain ⟨y0, y1, n', _, hl2, h3, h4⟩ := trod_struct2 Try.underlying38 ht
      obtain ⟨hcl, hcg⟩ := cells_get hcs
      rw [hc2] at hl2
      obtain ⟨u, v, rfl⟩ : ∃ u v, cs = [u, v] := by
        match cs, hl2 with
        | [u, v], _ => exact ⟨u, v, rfl⟩
      have hc1 : Try.prog.cellsOf 3 = 1 := by kernel_rfl
      simp only [hc1] at h3 h4
      obtain ⟨m0, e0, _, _⟩ := DataW.trod_int Try.underlying3 h3
      obtain ⟨m1, e1, _, _⟩ := DataW.trod_int Try.underlying3 h4
      simp at e0 e1
      subst e0 e1
      refine ⟨⟨m0, m1⟩, ?_, ?_⟩
      · have := hcg 0 _ rfl
        rwa [show (x.add (i * 2)).add 0 = x.add (i * 2) from rfl] at this
      · have := hcg 1 _ rfl
        have e : (x.add (i * 2)).add 1 = x.add (i * 2 + 1) := by
          unfold Addr.add
          by_cases hz : i * 2 = 0
          · simp [hz]
          · simp [hz, Nat.add_assoc]
        rwa [e] at this
    have hf : ∃ f : Nat → S38, ∀ i, i < len → W.cell? (x.add (i * 2)) = some (.int .i64 (f i).f0) ∧ W.cell? (x.add (i * 2 + 1)) = some (.int .i64 (f i).f1) :=
      ⟨fun i => if h : i < len then Classical.choose (hex i h) else z38, fun i hi => by simp only [dif_pos hi]; exact Classical.choose_spec (hex i hi)⟩
    obtain ⟨f, hf⟩ := hf
    refine ⟨(List.range len).map f, by simp, hl, hm, by simp, Nat.le_trans hl (Nat.le_trans hm (by decide)), fun _ => ⟨x, rfl, fun j p hj => ?_⟩⟩
    have hjl : j < len := by have := (List.getElem?_eq_some_iff.1 hj).1; simpa using this
    have hp : f j = p := by
      rw [List.getElem?_map, List.getElem?_range hjl] at hj
      simpa using hj
    subst hp
    obtain ⟨h1, h2⟩ := hf j hjl
    refine ⟨[.int .i64 (f j).f0, .int .i64 (f j).f1], rfl, k38_mk W (f j), fun i u hu => ?_⟩
    match i, hu with
    | 0, hu => cases hu; exact h1
    | 1, hu => cases hu; exact h2
    | i + 2, hu => simp at hu
end Go.Proofs.Ytbbffpgnjdejiaa.P
