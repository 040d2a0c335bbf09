/- Opening arguments that are nets, packets, slices of packets, of bytes, of moves. -/
import Derived.Test.YtmilnlcegcdolaaNetP
import Derived.WalkKit
import Derived.ProofKit
import Derived.OpenShut
import Derived.ChangeOld
import Derived.Test.YtmilnlcegcdolaaWSized
namespace Go.Proofs.Ytmilnlcegcdolaa.P
open Go.ChangeShapes Go.WideShapes Go.ChangeAt Go.RowKit Go.Proofs.YtmilnlcegcdolaaW.PrintWords
set_option linter.unusedSimpArgs false
set_option linter.unusedVariables false

theorem cells_get {w : World} {base : Nat} {a : Addr} {n : Nat} {cs : List Value} (h : w.cells? base a n = some cs) : cs.length = n ∧ ∀ i u, cs[i]? = some u → w.cell? (a.add i) = some u := by
  unfold World.cells? at h
  split at h
  · have hl := mapM_some_length h
    simp only [List.length_range] at hl
    refine ⟨by omega, fun i u hu => ?_⟩
    have hi : i < n := by have := (List.getElem?_eq_some_iff.1 hu).1; omega
    have := mapM_some_get h i i (by simp [hi])
    rw [hu] at this
    exact this
  · cases h
theorem add_add_ (a : Addr) (i j : Nat) : (a.add i).add j = a.add (i + j) := by
  unfold Addr.add
  by_cases hj : j = 0
  · subst hj; simp
  · by_cases hi : i = 0
    · subst hi; simp [hj]
    · rw [if_neg hj, if_neg hi, if_neg (by omega)]; simp [Nat.add_assoc]
section
variable {H : Type} {enc : TypeId × Value → H} {W : World} {base : Nat} {spare : Nat → Bool} {held : Bool} {fuel : Nat} {cs : List Value} {x : DataW H × List MemPlace}
/-- a slice, by its elements -/
theorem open_sl {α : Type} (z : α) (K : Kd α) {t e : TypeId} (ht : Try.prog.underlying t = some (.slice e)) (hsz : Try.prog.cellsOf e = K.sz) (hel : ∀ n cs y, DataW.trod enc Try.prog W base spare held n e cs = some y → ∃ a : α, K.K W a cs)
    (hf : DataW.trod enc Try.prog W base spare held fuel t cs = some x) : ∃ a c, ∃ l : List α, cs = [.slice a l.length c] ∧ l.length ≤ c ∧ c ≤ maxLen ∧ Kd.C K W a l.length l := by
  rcases DataW.trod_slice ht hf with ⟨hcs, _⟩ | ⟨x, len, cap, elems, rest, n, _, hcs, _, hb, hl, hm, hlen, hel2, _, _⟩
  · exact ⟨none, 0, [], hcs, Nat.le_refl _, by decide, rfl, by simp, fun h => absurd h (by simp)⟩
  · rw [hsz] at hel2
    have hex : ∀ i, i < len → ∃ p : α, ∃ cs, cs.length = K.sz ∧ K.K W p cs ∧ ∀ j u, cs[j]? = some u → W.cell? (x.add (i * K.sz + j)) = some u := by
      intro i hi
      have h1 := hel2 i hi
      rw [List.getElem?_eq_getElem (by omega)] at h1
      obtain ⟨cs, hcs, ht⟩ := Option.bind_eq_some_iff.1 h1
      obtain ⟨hcl, hcg⟩ := cells_get hcs
      obtain ⟨p, hp⟩ := hel _ _ _ ht
      refine ⟨p, cs, hcl, hp, fun j u hu => ?_⟩
      rw [← add_add_]
      exact hcg j u hu
    have hf : ∃ f : Nat → α, ∀ i, i < len → ∃ cs, cs.length = K.sz ∧ K.K W (f i) cs ∧ ∀ j u, cs[j]? = some u → W.cell? (x.add (i * K.sz + j)) = some u :=
      ⟨fun i => if h : i < len then Classical.choose (hex i h) else z, fun i hi => by simp only [dif_pos hi]; exact Classical.choose_spec (hex i hi)⟩
    obtain ⟨f, hf⟩ := hf
    have hlen2 : ((List.range len).map f).length = len := by simp
    refine ⟨some x, cap, (List.range len).map f, by rw [hlen2]; exact hcs, by rw [hlen2]; exact hl, hm, ?_⟩
    rw [hlen2]
    refine ⟨hlen2, Nat.le_trans hl (Nat.le_trans hm (by decide)), fun _ => ⟨x, rfl, fun j p hj => ?_⟩⟩
    have hjl : j < len := by have := (List.getElem?_eq_some_iff.1 hj).1; simpa using this
    have hp : f j = p := by
      rw [List.getElem?_map, List.getElem?_range hjl] at hj
      simpa using hj
    subst hp
    exact hf j hjl
end
section
variable {H : Type} {enc : TypeId × Value → H} {W : World} {base : Nat} {spare : Nat → Bool} {held : Bool} {d : DataW H} {ps : List MemPlace}
end
end Go.Proofs.Ytmilnlcegcdolaa.P
