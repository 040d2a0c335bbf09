/- Opening an argument that is a slice of meetings. -/
import Derived.Test.YtecgklfcblpkdaaP0
import Derived.WalkKit
import Derived.ProofKit
import Derived.OpenShut
import Derived.ChangeOld
import Derived.Deep.Strs
import Derived.Deep.Matrix
import Derived.Test.YtecgklfcblpkdaaXB
namespace Go.Proofs.Ytecgklfcblpkdaa.P
open Go.ChangeShapes Go.WideShapes Go.ChangeAt Go.RowKit Go.Proofs.YtecgklfcblpkdaaW.PrintWords
set_option linter.unusedSimpArgs false
set_option linter.unusedVariables false

theorem weightsAll_mem {H : Type} {P : Program} {e : TypeId} {d : DataW H} : ∀ {l : List (DataW H)}, d ∈ l → ∀ x ∈ d.weights P e, x ∈ DataW.weightsAll P e l
  | d' :: l, h, x, hx => by
    unfold DataW.weightsAll
    rcases List.mem_cons.1 h with rfl | h
    · exact List.mem_append.2 (.inl hx)
    · exact List.mem_append.2 (.inr (weightsAll_mem h x hx))
/-- an argument of lists of numbers; how long a list of them can be -/
theorem open_LLw {H : Type} {enc : TypeId × Value → H} {W : World} {base : Nat} {held : Bool} {a : Option Addr} {len cap : Nat} {d : DataW H} {ps : List MemPlace}
    (h : DataW.Trod enc Try.prog W base (fun _ => true) held 23 (.slice a len cap) d ps) : ∃ l : List (List Int), l.length = len ∧ len ≤ cap ∧ cap ≤ maxLen ∧ Kd.C (Kd.slice 3 (Kd.int .i64)) W a len l ∧ (∀ r ∈ l, ∀ x ∈ r, -9223372036854775808 ≤ x ∧ x ≤ 9223372036854775807) ∧ ((∀ x ∈ d.weights Try.prog 23, x ≤ reachBytes) → ∀ r ∈ l, r.length ≤ 17592186044415) := by
  obtain ⟨fuel, hf⟩ := h
  have hc3 : Try.prog.cellsOf 3 = 1 := by kernel_rfl
  have hc29 : Try.prog.cellsOf 29 = 1 := by kernel_rfl
  have hb3 : Try.prog.bytesOf 3 = 8 := by kernel_rfl
  rcases Go.Deep.open_int_rows Try.underlying23 Try.underlying29 Try.underlying3 hc29 hc3 hf with ⟨hcs, _⟩ | ⟨x, l, c, A, L, C, Z, hcs, _, hl, hm, hx, hr⟩
  · simp [Value.cells] at hcs
    obtain ⟨rfl, rfl, rfl⟩ := hcs
    exact ⟨[], rfl, Nat.le_refl _, by decide, ⟨rfl, by decide, fun h => absurd h (by decide)⟩, (fun r hr => by cases hr), fun _ r hr => by cases hr⟩
  · simp [Value.cells] at hcs
    obtain ⟨rfl, rfl, rfl⟩ := hcs
    simp only [Prod.mk.injEq] at hx
    refine ⟨(List.range len).map fun r => (Z r).take (L r), by simp, hl, hm, ⟨by simp, Nat.le_trans hl (Nat.le_trans hm (by decide)), fun _ => ⟨x, rfl, fun j p hj => ?_⟩⟩, (fun r hrm y hy => ?_), fun hw r hrm => ?_⟩
    · have hjl : j < len := by have := (List.getElem?_eq_some_iff.1 hj).1; simpa using this
      have hp : (Z j).take (L j) = p := by
        rw [List.getElem?_map, List.getElem?_range hjl] at hj
        simpa using hj
      subst hp
      obtain ⟨e1, r1, r2, r3, r4, r5, r6⟩ := hr j (by omega)
      have hlen : ((Z j).take (L j)).length = L j := by rw [List.length_take]; omega
      have r2' : C j ≤ 9223372036854775807 := r2
      refine ⟨[.slice (A j) (L j) (C j)], rfl, ⟨A j, C j, by rw [hlen], by rw [hlen]; exact r1, ⟨rfl, by rw [hlen]; omega, fun hne => ?_⟩⟩, fun i u hu => ?_⟩
      · rw [hlen] at hne
        cases hA : A j with
        | none => have := r5 hA; omega
        | some a' =>
          obtain ⟨_, h7⟩ := r6 a' hA
          refine ⟨a', rfl, fun i q hq => ?_⟩
          have hi := (List.getElem?_eq_some_iff.1 hq).1
          rw [hlen] at hi
          rw [List.getElem?_take, if_pos hi] at hq
          refine ⟨[.int .i64 q], rfl, rfl, fun s u hs => ?_⟩
          cases s with
          | zero =>
            cases hs
            have := h7 i (by omega)
            rw [List.getD_eq_getElem?_getD, hq] at this
            rw [show (Kd.int IntKind.i64).sz = 1 from rfl, Nat.mul_one, Nat.add_zero]
            exact this
          | succ s => simp at hs
      · cases i with
        | zero =>
          cases hu
          rw [show (Kd.slice 3 (Kd.int IntKind.i64)).sz = 1 from rfl, Nat.mul_one, Nat.add_zero]
          exact e1
        | succ i => simp at hu
    · obtain ⟨j, hj, rfl⟩ := List.mem_map.1 hrm
      have hjl : j < len := List.mem_range.1 hj
      have := (hr j (by omega)).2.2.2.2.1 y (List.mem_of_mem_take hy)
      simp only [Lit.wf, Bool.and_eq_true, decide_eq_true_eq] at this
      exact this
    · obtain ⟨j, hj, rfl⟩ := List.mem_map.1 hrm
      have hjl : j < len := List.mem_range.1 hj
      obtain ⟨e1, r1, r2, r3, r4, r5, r6⟩ := hr j (by omega)
      have hlen : ((Z j).take (L j)).length = L j := by rw [List.length_take]; omega
      rw [hlen]
      cases hA : A j with
      | none => have := r5 hA; omega
      | some a' =>
        have hmem : (Go.Deep.intRow (H := H) .i64 (A j) (L j) (Z j)) ∈ (List.range len).map fun r => Go.Deep.intRow (H := H) .i64 (A r) (L r) (Z r) := List.mem_map.2 ⟨j, List.mem_range.2 hjl, rfl⟩
        have h8 : (L j + (C j - L j)) * 8 ≤ reachBytes := by
          refine hw _ ?_
          rw [hx.1, DataW.weights, Try.underlying23]
          refine List.mem_cons.2 (.inr (List.mem_append.2 (.inl (weightsAll_mem hmem _ ?_))))
          rw [hA, Go.Deep.intRow, DataW.weights, Try.underlying29]
          refine List.mem_cons.2 (.inl ?_)
          rw [hb3]
          simp [lits]
          omega
        have : reachBytes = 140737488351232 := rfl
        omega
theorem open_LL {H : Type} {enc : TypeId × Value → H} {W : World} {base : Nat} {held : Bool} {a : Option Addr} {len cap : Nat} {d : DataW H} {ps : List MemPlace}
    (h : DataW.Trod enc Try.prog W base (fun _ => true) held 23 (.slice a len cap) d ps) : ∃ l : List (List Int), l.length = len ∧ len ≤ cap ∧ cap ≤ maxLen ∧ Kd.C (Kd.slice 3 (Kd.int .i64)) W a len l := by
  obtain ⟨l, h1, h2, h3, h4, _, _⟩ := open_LLw h
  exact ⟨l, h1, h2, h3, h4⟩
end Go.Proofs.Ytecgklfcblpkdaa.P
