import Derived.Test.YtecgklfcblpkdaaP0
import Derived.WalkKit
import Derived.ProofKit
import Derived.OpenShut
import Derived.ChangeOld
import Derived.Deep.Strs
import Derived.Deep.Matrix
import Derived.Test.YtecgklfcblpkdaaXB
import Derived.Test.YtecgklfcblpkdaaWSized
/- Opening an argument that is a slice of meetings. -/
namespace Go.Proofs.Ytecgklfcblpkdaa.P
open Go.ChangeShapes Go.WideShapes Go.ChangeAt Go.RowKit Go.Proofs.YtecgklfcblpkdaaW.PrintWords
set_option linter.unusedSimpArgs false
set_option linter.unusedVariables false
theorem cells_get {w : World} {base : Nat} {a : Addr} {n : Nat} {cs : List Value} (h : w.cells? base a n = some cs) : cs.length = n ∧ ∀ i u, cs[i]? = some u → w.cell? (a.add i) = some u := by
  unfold World.cells? at h
  split at h
  · have hl := mapM_some_length h
    simp only [List.length_range] at hl
    refine ⟨by omega, fun i u hu => ?_⟩
    have hi : i < n := by have := (List.getElem?_eq_some_iff.1 hu).1; omega
    have := mapM_some_get h i i (by simp [hi])
    rw [hu] at this
    exact this
  · cases h
theorem add_add_ (a : Addr) (i j : Nat) : (a.add i).add j = a.add (i + j) := by
  unfold Addr.add
  by_cases hj : j = 0
  · subst hj; simp
  · by_cases hi : i = 0
    · subst hi; simp [hj]
    · rw [if_neg hj, if_neg hi, if_neg (by omega)]; simp [Nat.add_assoc]
end Go.Proofs.Ytecgklfcblpkdaa.P

/- Opening an argument that is a plan: two small numbers, two slices of small numbers, a slice of bools. -/
namespace Go.Proofs.Ytecgklfcblpkdaa.P
open Go.ChangeShapes Go.WideShapes Go.ChangeAt Go.RowKit Go.Proofs.YtecgklfcblpkdaaW.PrintWords
set_option linter.unusedSimpArgs false
set_option linter.unusedVariables false
theorem open_bools {H : Type} {enc : TypeId × Value → H} {W : World} {base : Nat} {spare : Nat → Bool} {held : Bool} {fuel : Nat} {cs : List Value} {x : DataW H × List MemPlace}
    (hf : DataW.trod enc Try.prog W base spare held fuel 48 cs = some x) : ∃ a c, ∃ l : List Bool, cs = [.slice a l.length c] ∧ l.length ≤ c ∧ Kd.C Kd.bool W a l.length l := by
  rcases DataW.trod_slice Try.underlying48 hf with ⟨hcs, _⟩ | ⟨x, len, cap, elems, rest, n, _, hcs, _, hb, hl, hm, hlen, hel, _, _⟩
  · exact ⟨none, 0, [], hcs, Nat.le_refl _, rfl, by simp, fun h => absurd h (by simp)⟩
  · have hc2 : Try.prog.cellsOf 4 = 1 := by kernel_rfl
    rw [hc2] at hel
    have hex : ∀ i, i < len → ∃ p : Bool, W.cell? (x.add i) = some (.bool p) := by
      intro i hi
      have h1 := hel i hi
      rw [List.getElem?_eq_getElem (by omega)] at h1
      obtain ⟨cs, hcs, ht⟩ := Option.bind_eq_some_iff.1 h1
      obtain ⟨hcl, hcg⟩ := cells_get hcs
      obtain ⟨b, rfl, _⟩ := DataW.trod_bool Try.underlying4 ht
      have := hcg 0 _ rfl
      rw [add_add_, Nat.mul_one, Nat.add_zero] at this
      exact ⟨b, this⟩
    have hf : ∃ f : Nat → Bool, ∀ i, i < len → W.cell? (x.add i) = some (.bool (f i)) :=
      ⟨fun i => if h : i < len then Classical.choose (hex i h) else false, fun i hi => by simp only [dif_pos hi]; exact Classical.choose_spec (hex i hi)⟩
    obtain ⟨f, hf⟩ := hf
    have hlen2 : ((List.range len).map f).length = len := by simp
    refine ⟨some x, cap, (List.range len).map f, by rw [hlen2]; exact hcs, by rw [hlen2]; exact hl, ?_⟩
    rw [hlen2]
    refine ⟨hlen2, Nat.le_trans hl (Nat.le_trans hm (by decide)), fun _ => ⟨x, rfl, fun j p hj => ?_⟩⟩
    have hjl : j < len := by have := (List.getElem?_eq_some_iff.1 hj).1; simpa using this
    have hp : f j = p := by
      rw [List.getElem?_map, List.getElem?_range hjl] at hj
      simpa using hj
    subst hp
    refine ⟨[.bool (f j)], rfl, rfl, fun i u hu => ?_⟩
    cases i with
    | zero =>
      cases hu
      have := hf j hjl
      rw [show Kd.bool.sz = 1 from rfl, Nat.mul_one, Nat.add_zero]
      exact this
    | succ i => simp at hu
theorem open_u8s {H : Type} {enc : TypeId × Value → H} {W : World} {base : Nat} {spare : Nat → Bool} {held : Bool} {fuel : Nat} {cs : List Value} {x : DataW H × List MemPlace}
    (hf : DataW.trod enc Try.prog W base spare held fuel 41 cs = some x) : ∃ a c, ∃ l : List Int, cs = [.slice a l.length c] ∧ l.length ≤ c ∧ Kd.C (Kd.int .u8) W a l.length l ∧ ∀ n ∈ l, 0 ≤ n ∧ n ≤ 255 := by
  rcases open_ints Try.underlying41 Try.underlying5 (by kernel_rfl) hf with ⟨hcs, _⟩ | ⟨x, len, c, zs, hcs, _, hl, hm, hz, _, hcell, hwz⟩
  · exact ⟨none, 0, [], hcs, Nat.le_refl _, ⟨rfl, by simp, fun h => absurd h (by simp)⟩, by simp⟩
  · have hlz : len ≤ zs.length := by rw [hz]; split <;> omega
    have hlen : (zs.take len).length = len := by rw [List.length_take]; omega
    refine ⟨some x, c, zs.take len, by rw [hlen]; exact hcs, by rw [hlen]; exact hl, ?_, fun n hn => ?_⟩
    · rw [hlen]
      refine ⟨hlen, Nat.le_trans hl (Nat.le_trans hm (by decide)), fun _ => ⟨x, rfl, fun j p hj => ?_⟩⟩
      have hjl : j < len := by have := (List.getElem?_eq_some_iff.1 hj).1; omega
      have hp : zs.getD j 0 = p := by
        rw [List.getElem?_take, if_pos hjl] at hj
        rw [List.getD_eq_getElem?_getD, hj]; rfl
      subst hp
      refine ⟨[.int .u8 (zs.getD j 0)], rfl, rfl, fun i u hu => ?_⟩
      cases i with
      | zero =>
        cases hu
        have := hcell j (by omega)
        rw [show (Kd.int IntKind.u8).sz = 1 from rfl, Nat.mul_one, Nat.add_zero]
        exact this
      | succ i => simp at hu
    · have := hwz n (List.mem_of_mem_take hn)
      simp only [Lit.wf, Bool.and_eq_true, decide_eq_true_eq] at this
      exact this
theorem open_plan {H : Type} {enc : TypeId × Value → H} {W : World} {base : Nat} {spare : Nat → Bool} {held : Bool} {cs : Array Value} {d : DataW H} {ps : List MemPlace} (hsz : cs.size = Try.prog.cellsOf 50)
    (h : DataW.Trod enc Try.prog W base spare held 50 (.agg cs) d ps) : ∃ (n k : Int) (A1 : Option Addr) (c1 : Nat) (l1 : List Int) (A2 : Option Addr) (c2 : Nat) (l2 : List Int) (A3 : Option Addr) (c3 : Nat) (l3 : List Bool),
      cs = #[.int .u8 n, .int .u8 k, .slice A1 l1.length c1, .slice A2 l2.length c2, .slice A3 l3.length c3] ∧ (0 ≤ n ∧ n ≤ 255) ∧ (0 ≤ k ∧ k ≤ 255) ∧ (l1.length ≤ c1 ∧ Kd.C (Kd.int .u8) W A1 l1.length l1 ∧ ∀ n ∈ l1, 0 ≤ n ∧ n ≤ 255) ∧
      (l2.length ≤ c2 ∧ Kd.C (Kd.int .u8) W A2 l2.length l2 ∧ ∀ n ∈ l2, 0 ≤ n ∧ n ≤ 255) ∧ l3.length ≤ c3 ∧ Kd.C Kd.bool W A3 l3.length l3 := by
  obtain ⟨fuel, hf⟩ := h
  have hc5 : Try.prog.cellsOf 50 = 5 := by kernel_rfl
  rw [hc5] at hsz
  obtain ⟨l, rfl⟩ : ∃ l : List Value, cs = l.toArray := ⟨cs.toList, by simp⟩
  match l, hsz with
  | [u0, u1, u2, u3, u4], _ =>
    have hcells : (Value.agg #[u0, u1, u2, u3, u4]).cells.toList = [u0, u1, u2, u3, u4] := rfl
    rw [hcells] at hf
    obtain ⟨xs, n, _, _, hl, hlen, hh⟩ := DataW.trod_struct Try.underlying50 hf
    match xs, hlen with
    | [y0, y1, y2, y3, y4], _ =>
      have e5 : Try.prog.cellsOf 5 = 1 := by kernel_rfl
      have e41 : Try.prog.cellsOf 41 = 1 := by kernel_rfl
      have e48 : Try.prog.cellsOf 48 = 1 := by kernel_rfl
      have h0 : DataW.trod enc Try.prog W base spare held n 5 (([u0, u1, u2, u3, u4].drop 0).take (Try.prog.cellsOf 5)) = some y0 := hh 0 _ rfl
      have h1 : DataW.trod enc Try.prog W base spare held n 5 (([u0, u1, u2, u3, u4].drop 1).take (Try.prog.cellsOf 5)) = some y1 := hh 1 _ rfl
      have h2 : DataW.trod enc Try.prog W base spare held n 41 (([u0, u1, u2, u3, u4].drop 2).take (Try.prog.cellsOf 41)) = some y2 := hh 2 _ rfl
      have h3 : DataW.trod enc Try.prog W base spare held n 41 (([u0, u1, u2, u3, u4].drop 3).take (Try.prog.cellsOf 41)) = some y3 := hh 3 _ rfl
      have h4 : DataW.trod enc Try.prog W base spare held n 48 (([u0, u1, u2, u3, u4].drop 4).take (Try.prog.cellsOf 48)) = some y4 := hh 4 _ rfl
      rw [e5] at h0 h1
      rw [e41] at h2 h3
      rw [e48] at h4
      obtain ⟨m0, e0, _, w0⟩ := DataW.trod_int Try.underlying5 h0
      obtain ⟨m1, e1, _, w1⟩ := DataW.trod_int Try.underlying5 h1
      obtain ⟨A1, c1, l1, e2, g2, k2, w2⟩ := open_u8s h2
      obtain ⟨A2, c2, l2, e3, g3, k3, w3⟩ := open_u8s h3
      obtain ⟨A3, c3, l3, e4, g4, k4⟩ := open_bools h4
      obtain rfl : u0 = _ := (List.cons.inj (show [u0] = _ from e0)).1
      obtain rfl : u1 = _ := (List.cons.inj (show [u1] = _ from e1)).1
      obtain rfl : u2 = _ := (List.cons.inj (show [u2] = _ from e2)).1
      obtain rfl : u3 = _ := (List.cons.inj (show [u3] = _ from e3)).1
      obtain rfl : u4 = _ := (List.cons.inj (show [u4] = _ from e4)).1
      simp only [Lit.wf, Bool.and_eq_true, decide_eq_true_eq] at w0 w1
      exact ⟨m0, m1, A1, c1, l1, A2, c2, l2, A3, c3, l3, rfl, w0, w1, ⟨g2, k2, w2⟩, ⟨g3, k3, w3⟩, g4, k4⟩
end Go.Proofs.Ytecgklfcblpkdaa.P
