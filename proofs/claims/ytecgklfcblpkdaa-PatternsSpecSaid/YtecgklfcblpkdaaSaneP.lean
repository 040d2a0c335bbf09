/- Own memory, as callees read it. -/
import Derived.Test.YtecgklfcblpkdaaGVio
namespace Go.Proofs.Ytecgklfcblpkdaa.P
open Go.RowKit Go.Proofs.YtecgklfcblpkdaaW.PrintWords Go.Proofs.YtecgklfcblpkdaaW.PrintLast Go.Proofs.YtecgklfcblpkdaaW.PrintMore
open XW
set_option linter.unusedSimpArgs false
set_option linter.unusedVariables false
theorem reps44 (w : World) (base : Nat) (ok : Nat → Prop) : ∀ xs : List S44, Reps (k44.M w base ok) 3 xs (xs.flatMap enc44) := by
  intro xs
  refine ⟨by rw [len_flat (enc := enc44) (sz := 3) (fun _ => rfl)], fun j p hj => ?_⟩
  have : ((xs.flatMap enc44).drop (j * 3)).take 3 = enc44 p := by
    induction xs generalizing j with
    | nil => simp at hj
    | cons x xs ih =>
      cases j with
      | zero => simp at hj; subst hj; rfl
      | succ j =>
        have := ih j (by simpa using hj)
        rw [List.flatMap_cons, show (j + 1) * 3 = (enc44 x).length + j * 3 by rw [show (enc44 x).length = 3 from rfl]; omega, ← List.drop_drop, List.drop_left]
        exact this
  rw [this]
  exact k44_mkM w base ok p
theorem C44_nil (w : World) : Kd.C k44 w none ([] : List S44).length [] := ⟨rfl, by decide, fun h => absurd h (by decide)⟩
theorem C44_obj {base w : World} {R : List Res} {b i : Nat} (l : List S44) (hw : Mem base w R) (hi : R[i]? = some (.obj b (.cells (buf enc44 l []) 44 (0, 0)))) (hl : l.length ≤ 1000) : Kd.C k44 w (some ⟨b, 0, none⟩) l.length l := by
  have h0 : RowOk 44 3 enc44 (some b) l.length l w := ⟨fun _ => rfl, Nat.le_refl _, Nat.le_trans hl (by decide), [], hw.at_ i hi, by simp⟩
  have h2 := ownsRow_of (B := 0) h0 (fun k _ => Nat.zero_le _)
  have h3 : Kd.R k44 44 w 0 (fun _ => True) (rowV (some b) l.length l.length) l := ⟨fun _ _ => trivial, _, h2, reps44 _ _ _ _⟩
  exact (Kd.R_reads' h3).2.2
theorem CI_obj {base w : World} {R : List Res} {b i : Nat} (l : List Int) (hw : Mem base w R) (hi : R[i]? = some (.obj b (.cells (buf (sc (Value.int .i64)) l []) 3 (0, 0)))) (hl : l.length ≤ 1000) : Kd.C (Kd.int .i64) w (some ⟨b, 0, none⟩) l.length l := by
  have h0 : RowOk 3 1 (sc (Value.int .i64)) (some b) l.length l w := ⟨sc_len _, Nat.le_refl _, Nat.le_trans hl (by decide), [], hw.at_ i hi, by simp⟩
  have h2 := ownsRow_of (B := 0) h0 (fun k _ => Nat.zero_le _)
  rw [flat_int] at h2
  exact (Kd.R_reads' (Kd.R_of_own h2 (fun _ _ => trivial))).2.2
theorem CI_row {base w : World} {R : List Res} {A : Option Nat} {c i : Nat} {l : List Int} (hw : Mem base w R) (hi : R[i]? = some (.row 3 1 (sc (Value.int .i64)) A c l)) : Kd.C (Kd.int .i64) w (A.map fun b => ⟨b, 0, none⟩) l.length l ∧ l.length ≤ c := by
  have h0 : RowOk 3 1 (sc (Value.int .i64)) A c l w := hw.ok _ (List.mem_of_getElem? hi)
  have h2 := ownsRow_of (B := 0) h0 (fun k _ => Nat.zero_le _)
  rw [flat_int] at h2
  exact ⟨(Kd.R_reads' (Kd.R_of_own h2 (fun _ _ => trivial))).2.2, h0.2.1⟩
/-- rows laid out by hand -/
theorem CL_obj {base w : World} {R : List Res} {b i : Nat} (bl : List (Nat × List Int)) (hw : Mem base w R) (hi : R[i]? = some (.obj b (.cells (buf (sc fun p : Nat × List Int => Value.slice (some ⟨p.1, 0, none⟩) p.2.length p.2.length) bl []) 29 (0, 0))))
    (hin : ∀ p ∈ bl, Kd.C (Kd.int .i64) w (some ⟨p.1, 0, none⟩) p.2.length p.2) (hl : bl.length ≤ 1000) : Kd.C (Kd.slice 3 (Kd.int .i64)) w (some ⟨b, 0, none⟩) bl.length (bl.map (·.2)) := by
  have h0 := hw.at_ i hi
  refine ⟨by simp, Nat.le_trans hl (by decide), fun _ => ⟨_, rfl, fun j p hj => ?_⟩⟩
  rw [List.getElem?_map] at hj
  obtain ⟨q, hq, rfl⟩ := Option.map_eq_some_iff.1 hj
  obtain ⟨hjl, hq'⟩ := List.getElem?_eq_some_iff.1 hq
  have hc := buf_get1 (junk := []) (l := bl) (fun p : Nat × List Int => Value.slice (some ⟨p.1, 0, none⟩) p.2.length p.2.length) (0, []) hjl
  have hqd : bl.getD j (0, []) = q := by rw [List.getD_eq_getElem?_getD, hq]; rfl
  rw [hqd] at hc
  refine ⟨[.slice (some ⟨q.1, 0, none⟩) q.2.length q.2.length], rfl, ⟨_, _, rfl, Nat.le_refl _, hin q (List.mem_of_getElem? hq)⟩, fun s u hs => ?_⟩
  cases s with
  | zero =>
    cases hs
    rw [show (Kd.slice 3 (Kd.int IntKind.i64)).sz = 1 from rfl, Nat.mul_one, Nat.add_zero, XW.add_plain, Nat.zero_add]
    exact cell_of h0 hc
  | succ s => simp at hs
end Go.Proofs.Ytecgklfcblpkdaa.P
