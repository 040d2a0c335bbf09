import Derived.Test.YtecgklfcblpkdaaGVio
import Derived.Test.YtecgklfcblpkdaaP2
import Derived.Test.YtecgklfcblpkdaaXStruct
/- Own memory, as callees read it. -/
namespace Go.Proofs.Ytecgklfcblpkdaa.P
open Go.RowKit Go.Proofs.YtecgklfcblpkdaaW.PrintWords Go.Proofs.YtecgklfcblpkdaaW.PrintLast Go.Proofs.YtecgklfcblpkdaaW.PrintMore
open XW
set_option linter.unusedSimpArgs false
set_option linter.unusedVariables false
theorem reps44 (w : World) (base : Nat) (ok : Nat → Prop) : ∀ xs : List S44, Reps (k44.M w base ok) 3 xs (xs.flatMap enc44) := by
  intro xs
  refine ⟨by rw [len_flat (enc := enc44) (sz := 3) (fun _ => rfl)], fun j p hj => ?_⟩
  have : ((xs.flatMap enc44).drop (j * 3)).take 3 = enc44 p := by
    induction xs generalizing j with
    | nil => simp at hj
    | cons x xs ih =>
      cases j with
      | zero => simp at hj; subst hj; rfl
      | succ j =>
        have := ih j (by simpa using hj)
        rw [List.flatMap_cons, show (j + 1) * 3 = (enc44 x).length + j * 3 by rw [show (enc44 x).length = 3 from rfl]; omega, ← List.drop_drop, List.drop_left]
        exact this
  rw [this]
  exact k44_mkM w base ok p
theorem C44_nil (w : World) : Kd.C k44 w none ([] : List S44).length [] := ⟨rfl, by decide, fun h => absurd h (by decide)⟩
theorem C44_obj {base w : World} {R : List Res} {b i : Nat} (l : List S44) (hw : Mem base w R) (hi : R[i]? = some (.obj b (.cells (buf enc44 l []) 44 (0, 0)))) (hl : l.length ≤ 1000) : Kd.C k44 w (some ⟨b, 0, none⟩) l.length l := by
  have h0 : RowOk 44 3 enc44 (some b) l.length l w := ⟨fun _ => rfl, Nat.le_refl _, Nat.le_trans hl (by decide), [], hw.at_ i hi, by simp⟩
  have h2 := ownsRow_of (B := 0) h0 (fun k _ => Nat.zero_le _)
  have h3 : Kd.R k44 44 w 0 (fun _ => True) (rowV (some b) l.length l.length) l := ⟨fun _ _ => trivial, _, h2, reps44 _ _ _ _⟩
  exact (Kd.R_reads' h3).2.2
theorem CI_obj {base w : World} {R : List Res} {b i : Nat} (l : List Int) (hw : Mem base w R) (hi : R[i]? = some (.obj b (.cells (buf (sc (Value.int .i64)) l []) 3 (0, 0)))) (hl : l.length ≤ 1000) : Kd.C (Kd.int .i64) w (some ⟨b, 0, none⟩) l.length l := by
  have h0 : RowOk 3 1 (sc (Value.int .i64)) (some b) l.length l w := ⟨sc_len _, Nat.le_refl _, Nat.le_trans hl (by decide), [], hw.at_ i hi, by simp⟩
  have h2 := ownsRow_of (B := 0) h0 (fun k _ => Nat.zero_le _)
  rw [flat_int] at h2
  exact (Kd.R_reads' (Kd.R_of_own h2 (fun _ _ => trivial))).2.2
theorem CI_row {base w : World} {R : List Res} {A : Option Nat} {c i : Nat} {l : List Int} (hw : Mem base w R) (hi : R[i]? = some (.row 3 1 (sc (Value.int .i64)) A c l)) : Kd.C (Kd.int .i64) w (A.map fun b => ⟨b, 0, none⟩) l.length l ∧ l.length ≤ c := by
  have h0 : RowOk 3 1 (sc (Value.int .i64)) A c l w := hw.ok _ (List.mem_of_getElem? hi)
  have h2 := ownsRow_of (B := 0) h0 (fun k _ => Nat.zero_le _)
  rw [flat_int] at h2
  exact ⟨(Kd.R_reads' (Kd.R_of_own h2 (fun _ _ => trivial))).2.2, h0.2.1⟩
/-- rows laid out by hand -/
theorem CL_obj {base w : World} {R : List Res} {b i : Nat} (bl : List (Nat × List Int)) (hw : Mem base w R) (hi : R[i]? = some (.obj b (.cells (buf (sc fun p : Nat × List Int => Value.slice (some ⟨p.1, 0, none⟩) p.2.length p.2.length) bl []) 29 (0, 0))))
    (hin : ∀ p ∈ bl, Kd.C (Kd.int .i64) w (some ⟨p.1, 0, none⟩) p.2.length p.2) (hl : bl.length ≤ 1000) : Kd.C (Kd.slice 3 (Kd.int .i64)) w (some ⟨b, 0, none⟩) bl.length (bl.map (·.2)) := by
  have h0 := hw.at_ i hi
  refine ⟨by simp, Nat.le_trans hl (by decide), fun _ => ⟨_, rfl, fun j p hj => ?_⟩⟩
  rw [List.getElem?_map] at hj
  obtain ⟨q, hq, rfl⟩ := Option.map_eq_some_iff.1 hj
  obtain ⟨hjl, hq'⟩ := List.getElem?_eq_some_iff.1 hq
  have hc := buf_get1 (junk := []) (l := bl) (fun p : Nat × List Int => Value.slice (some ⟨p.1, 0, none⟩) p.2.length p.2.length) (0, []) hjl
  have hqd : bl.getD j (0, []) = q := by rw [List.getD_eq_getElem?_getD, hq]; rfl
  rw [hqd] at hc
  refine ⟨[.slice (some ⟨q.1, 0, none⟩) q.2.length q.2.length], rfl, ⟨_, _, rfl, Nat.le_refl _, hin q (List.mem_of_getElem? hq)⟩, fun s u hs => ?_⟩
  cases s with
  | zero =>
    cases hs
    rw [show (Kd.slice 3 (Kd.int IntKind.i64)).sz = 1 from rfl, Nat.mul_one, Nat.add_zero, XW.add_plain, Nat.zero_add]
    exact cell_of h0 hc
  | succ s => simp at hs
end Go.Proofs.Ytecgklfcblpkdaa.P

/- The sanity examples: the walk. -/
namespace Go.Proofs.Ytecgklfcblpkdaa.P
open Go.RowKit Go.Proofs.YtecgklfcblpkdaaW.PrintWords Go.Proofs.YtecgklfcblpkdaaW.PrintLast Go.Proofs.YtecgklfcblpkdaaW.PrintMore
open XW
attribute [local irreducible] Addr.add
set_option linter.unusedSimpArgs false
set_option linter.unusedVariables false

theorem E12 : Enters Try.prog 12 := enters Try.func12 (by kernel_rfl) rfl
theorem E14 : Enters Try.prog 14 := enters Try.func14 (by kernel_rfl) rfl
theorem E16 : Enters Try.prog 16 := enters Try.func16 (by kernel_rfl) rfl
theorem E17 : Enters Try.prog 17 := enters Try.func17 (by kernel_rfl) rfl
theorem E18 : Enters Try.prog 18 := enters Try.func18 (by kernel_rfl) rfl
theorem E20 : Enters Try.prog 20 := enters Try.func20 (by kernel_rfl) rfl
instance tb44 : TB Try.prog 44 := ⟨[(0, 1), (1, 1), (2, 1)], by
  obtain ⟨i, h1, h2, _⟩ := inf3
  exact ⟨_, Try.underlying44, fun W => by simp [Go.sizeOf, typeInfo, program, h1, h2, Sem.run_bind, Sem.run, Result.andThen]⟩⟩
abbrev KL := Kd.slice 3 (Kd.int .i64)
abbrev KI := Kd.int .i64
def lsl (p : Nat × List Int) : Value := .slice (some ⟨p.1, 0, none⟩) p.2.length p.2.length
theorem of_lit {w : World} {n : Int} {A : Option Addr} {c : Nat} {m : List S44} (hC : Kd.C k44 w A m.length m) (hc : m.length ≤ c) (hm : m.length ≤ 1000) (p : List (List Int)) (e : Int) (h : ofF n m = (p, e)) :
    Rets Try.prog 12 #[.int .i64 n, .slice A m.length c] w fun u w' => (∃ A' c', u = .tuple #[.slice A' p.length c', .int .i64 e] ∧ p.length ≤ c' ∧ Kd.C KL w' A' p.length p) ∧ Below w.heap.size w w' := by
  refine (patterns_Of.calls n A c m p e w hC hc (by rw [patterns_Of.f, h])).mono ?_
  rintro _ w' ⟨v, rfl, hS, hb⟩
  obtain ⟨A', c', rfl, hl, hC'⟩ := Kd.S_reads hS
  exact ⟨_, rfl, ⟨A', c', rfl, hl, hC'⟩, hb⟩
theorem br_lit {w : World} {A : Option Addr} {c : Nat} {p : List (List Int)} (hC : Kd.C KL w A p.length p) (hc : p.length ≤ c) (b : List Int) (e : Int) (k : Nat) (h : patterns_Breaks.f k p = some (b, e)) :
    Rets Try.prog 14 #[.slice A p.length c] w fun u w' => (∃ A' c', u = .tuple #[.slice A' b.length c', .int .i64 e] ∧ b.length ≤ c' ∧ Kd.C KI w' A' b.length b) ∧ Below w.heap.size w w' := by
  refine (patterns_Breaks.calls k A c p b e w hC hc h).mono ?_
  rintro _ w' ⟨v, rfl, hS, hb⟩
  obtain ⟨A', c', rfl, hl, hC'⟩ := Kd.R_reads hS
  exact ⟨_, rfl, ⟨A', c', rfl, hl, hC'⟩, hb⟩
theorem vio_lit {w : World} {A : Option Addr} {c : Nat} {p : List (List Int)} (hC : Kd.C KL w A p.length p) (hc : p.length ≤ c) (b : List Int) (ok : Bool) (e : Int) (h : vioF p = (b, ok, e)) :
    Rets Try.prog 20 #[.slice A p.length c] w fun u w' => (∃ A' c', u = .tuple #[.slice A' b.length c', .bool ok, .int .i64 e] ∧ b.length ≤ c' ∧ Kd.C KI w' A' b.length b) ∧ Below w.heap.size w w' := by
  refine (patterns_Violates.calls A c p b ok e w hC hc (by rw [patterns_Violates.f, h])).mono ?_
  rintro _ w' ⟨v, rfl, hS, hb⟩
  obtain ⟨A', c', rfl, hl, hC'⟩ := Kd.R_reads hS
  exact ⟨_, rfl, ⟨A', c', rfl, hl, hC'⟩, hb⟩
theorem same_lit {w : World} {A A' : Option Addr} {c c' : Nat} {p q : List (List Int)} (hC : Kd.C KL w A p.length p) (hc : p.length ≤ c) (hC' : Kd.C KL w A' q.length q) (hc' : q.length ≤ c') (k : Nat) (h : fastiref21_Same.f k p q = some true) :
    Rets Try.prog 16 #[.slice A p.length c, .slice A' q.length c'] w fun u w' => (u = .bool true) ∧ Below w.heap.size w w' := (fastiref21_Same.calls k A c p A' c' q true w hC hc hC' hc' h).mono (by rintro _ w' ⟨rfl, hb⟩; exact ⟨_, rfl, rfl, hb.below⟩)
theorem ints_lit {w : World} {A A' : Option Addr} {c c' : Nat} {p q : List Int} (hC : Kd.C KI w A p.length p) (hc : p.length ≤ c) (hC' : Kd.C KI w A' q.length q) (hc' : q.length ≤ c') (k : Nat) (h : fastiref21_SameInts.f k p q = some true) :
    Rets Try.prog 17 #[.slice A p.length c, .slice A' q.length c'] w fun u w' => (u = .bool true) ∧ Below w.heap.size w w' := (fastiref21_SameInts.calls k A c p A' c' q true w hC hc hC' hc' h).mono (by rintro _ w' ⟨rfl, hb⟩; exact ⟨_, rfl, rfl, hb.below⟩)
theorem least_lit {w : World} {n k : Int} (f : Nat) (r e : Int) (h : patterns_Least.f f n k = some (r, e)) :
    Rets Try.prog 18 #[.int .i64 n, .int .i64 k] w fun u w' => (u = .tuple #[.int .i64 r, .int .i64 e]) ∧ Below w.heap.size w w' := (patterns_Least.calls f n k r e w h).mono (by rintro _ w' ⟨rfl, hb⟩; exact ⟨_, rfl, rfl, hb.below⟩)
theorem int_cells (x : Int) : (Value.int .i64 x).cells = #[Value.int .i64 x] := rfl
theorem lsl_cells (x : Nat × List Int) : (lsl x).cells = #[lsl x] := rfl
set_option maxHeartbeats 8000000 in
theorem sane_rets (w0 : World) : Rets Try.prog 10 #[] w0 fun u w' => u = .bool true ∧ Below w0.heap.size w0 w' := by
  have hF := wide_wide
  refine rets_at (n := 195) Try.func10 rfl Try.ntmps10 (by simp) ?_
  (repeat (first | ((with_reducible refine is_AL ?_); (first | ((with_reducible refine is_assign ?_); (refine At_plain hF (by (exact (rfl : _ = some (Value.bool _)))) ?_)) | with_reducible refine At_nil ?_)) | ((with_reducible refine is_At ?_); (first | with_reducible refine At_seq ?_; intro K hK | with_reducible refine At_region ?_ | with_reducible refine At_then_n ?_ | with_reducible refine At_go (by assumption) ?_))))
  refine At_buildS hF (cs := #[.int .i64 2, .int .i64 1, .int .i64 0]) (by exact rfl) (by exact rfl) ?_
  (skip; ((with_reducible refine is_bslice ?_); (refine At_sliceA_1 hF (by decide) rfl rfl ?_; intro b)); skip)
  refine At_callK hF E12 rfl (arg2 (by (first | exact (rfl : _ = (Value.int _ _)) | exact (rfl : _ = (Value.bool _)) | exact (rfl : _ = (Value.pointer _)) | exact (rfl : _ = (Value.slice _ _ _)) | exact (rfl : _ = (Value.map _)) | exact (rfl : _ = (Value.func _ _ _)) | exact (rfl : _ = (Value.tuple _)) | exact (rfl : _ = (Value.agg _)) | exact (rfl : _ = (Value.string _)) | exact (rfl : _ = (Value.nilFunc)) | exact (rfl : _ = (Value.nilIface)))) (by (first | exact (rfl : _ = (Value.int _ _)) | exact (rfl : _ = (Value.bool _)) | exact (rfl : _ = (Value.pointer _)) | exact (rfl : _ = (Value.slice _ _ _)) | exact (rfl : _ = (Value.map _)) | exact (rfl : _ = (Value.func _ _ _)) | exact (rfl : _ = (Value.tuple _)) | exact (rfl : _ = (Value.agg _)) | exact (rfl : _ = (Value.string _)) | exact (rfl : _ = (Value.nilFunc)) | exact (rfl : _ = (Value.nilIface))))) (fun w hw => of_lit (C44_obj (i := 0) [⟨2, 1, 0⟩] hw rfl (by decide)) (by decide) (by decide) [[0, 0, -1], [0, 0, 1]] 0 (by decide +kernel)) ?_
  rintro _ w1 hb1 ⟨A1, c1, rfl, hc1, hp1⟩
  (repeat (first | ((with_reducible refine is_AL ?_); (first | ((with_reducible refine is_move ?_); (refine At_plain hF (by (exact (rfl : _ = some (Value.tuple _)))) ?_)) | ((with_reducible refine is_assign ?_); (refine At_plain hF (by (first | exact (rfl : _ = some (Value.int _ _)) | exact (rfl : _ = some (Value.slice _ _ _)))) ?_)) | ((with_reducible refine is_extract ?_); (refine At_plain hF (by (first | exact (rfl : _ = some (Value.int _ _)) | exact (rfl : _ = some (Value.slice _ _ _)))) ?_)) | with_reducible refine At_nil ?_)) | ((with_reducible refine is_At ?_); (first | with_reducible refine At_seq ?_; intro K hK | with_reducible refine At_region ?_ | with_reducible refine At_then_n ?_ | with_reducible refine At_go (by assumption) ?_))))
  refine At_callK hF E12 rfl (arg2 (by (first | exact (rfl : _ = (Value.int _ _)) | exact (rfl : _ = (Value.bool _)) | exact (rfl : _ = (Value.pointer _)) | exact (rfl : _ = (Value.slice _ _ _)) | exact (rfl : _ = (Value.map _)) | exact (rfl : _ = (Value.func _ _ _)) | exact (rfl : _ = (Value.tuple _)) | exact (rfl : _ = (Value.agg _)) | exact (rfl : _ = (Value.string _)) | exact (rfl : _ = (Value.nilFunc)) | exact (rfl : _ = (Value.nilIface)))) (by (first | exact (rfl : _ = (Value.int _ _)) | exact (rfl : _ = (Value.bool _)) | exact (rfl : _ = (Value.pointer _)) | exact (rfl : _ = (Value.slice _ _ _)) | exact (rfl : _ = (Value.map _)) | exact (rfl : _ = (Value.func _ _ _)) | exact (rfl : _ = (Value.tuple _)) | exact (rfl : _ = (Value.agg _)) | exact (rfl : _ = (Value.string _)) | exact (rfl : _ = (Value.nilFunc)) | exact (rfl : _ = (Value.nilIface))))) (fun w hw => of_lit (m := []) (C44_nil w) (Nat.le_refl _) (by decide) [[], []] 0 (by decide +kernel)) ?_
  rintro _ w2 hb2 ⟨A2, c2, rfl, hc2, hp2⟩
  (repeat (first | ((with_reducible refine is_AL ?_); (first | ((with_reducible refine is_move ?_); (refine At_plain hF (by (exact (rfl : _ = some (Value.tuple _)))) ?_)) | ((with_reducible refine is_assign ?_); (refine At_plain hF (by (first | exact (rfl : _ = some (Value.int _ _)) | exact (rfl : _ = some (Value.slice _ _ _)))) ?_)) | ((with_reducible refine is_extract ?_); (refine At_plain hF (by (first | exact (rfl : _ = some (Value.int _ _)) | exact (rfl : _ = some (Value.slice _ _ _)))) ?_)) | with_reducible refine At_nil ?_)) | ((with_reducible refine is_At ?_); (first | with_reducible refine At_seq ?_; intro K hK | with_reducible refine At_region ?_ | with_reducible refine At_then_n ?_ | with_reducible refine At_go (by assumption) ?_))))
  refine At_callK hF E12 rfl (arg2 (by (first | exact (rfl : _ = (Value.int _ _)) | exact (rfl : _ = (Value.bool _)) | exact (rfl : _ = (Value.pointer _)) | exact (rfl : _ = (Value.slice _ _ _)) | exact (rfl : _ = (Value.map _)) | exact (rfl : _ = (Value.func _ _ _)) | exact (rfl : _ = (Value.tuple _)) | exact (rfl : _ = (Value.agg _)) | exact (rfl : _ = (Value.string _)) | exact (rfl : _ = (Value.nilFunc)) | exact (rfl : _ = (Value.nilIface)))) (by (first | exact (rfl : _ = (Value.int _ _)) | exact (rfl : _ = (Value.bool _)) | exact (rfl : _ = (Value.pointer _)) | exact (rfl : _ = (Value.slice _ _ _)) | exact (rfl : _ = (Value.map _)) | exact (rfl : _ = (Value.func _ _ _)) | exact (rfl : _ = (Value.tuple _)) | exact (rfl : _ = (Value.agg _)) | exact (rfl : _ = (Value.string _)) | exact (rfl : _ = (Value.nilFunc)) | exact (rfl : _ = (Value.nilIface))))) (fun w hw => of_lit (m := []) (C44_nil w) (Nat.le_refl _) (by decide) [] 1 (by decide +kernel)) ?_
  rintro _ w3 hb3 ⟨A3, c3, rfl, hc3, hp3⟩
  (repeat (first | ((with_reducible refine is_AL ?_); (first | ((with_reducible refine is_move ?_); (refine At_plain hF (by (exact (rfl : _ = some (Value.tuple _)))) ?_)) | ((with_reducible refine is_assign ?_); (refine At_plain hF (by (first | exact (rfl : _ = some (Value.int _ _)) | exact (rfl : _ = some (Value.slice _ _ _)))) ?_)) | ((with_reducible refine is_extract ?_); (refine At_plain hF (by (first | exact (rfl : _ = some (Value.int _ _)) | exact (rfl : _ = some (Value.slice _ _ _)))) ?_)) | with_reducible refine At_nil ?_)) | ((with_reducible refine is_At ?_); (first | with_reducible refine At_seq ?_; intro K hK | with_reducible refine At_region ?_ | with_reducible refine At_then_n ?_ | with_reducible refine At_go (by assumption) ?_))))
  refine At_buildS hF (cs := #[.int .i64 0, .int .i64 1, .int .i64 0]) (by exact rfl) (by exact rfl) ?_
  skip
  refine At_buildS hF (cs := #[.int .i64 0, .int .i64 2, .int .i64 1]) (by exact rfl) (by exact rfl) ?_
  (skip; ((with_reducible refine is_bslice ?_); (refine At_sliceA_2 hF (by decide) rfl rfl rfl rfl ?_; intro d)); skip)
  refine At_callK hF E12 rfl (arg2 (by (first | exact (rfl : _ = (Value.int _ _)) | exact (rfl : _ = (Value.bool _)) | exact (rfl : _ = (Value.pointer _)) | exact (rfl : _ = (Value.slice _ _ _)) | exact (rfl : _ = (Value.map _)) | exact (rfl : _ = (Value.func _ _ _)) | exact (rfl : _ = (Value.tuple _)) | exact (rfl : _ = (Value.agg _)) | exact (rfl : _ = (Value.string _)) | exact (rfl : _ = (Value.nilFunc)) | exact (rfl : _ = (Value.nilIface)))) (by (first | exact (rfl : _ = (Value.int _ _)) | exact (rfl : _ = (Value.bool _)) | exact (rfl : _ = (Value.pointer _)) | exact (rfl : _ = (Value.slice _ _ _)) | exact (rfl : _ = (Value.map _)) | exact (rfl : _ = (Value.func _ _ _)) | exact (rfl : _ = (Value.tuple _)) | exact (rfl : _ = (Value.agg _)) | exact (rfl : _ = (Value.string _)) | exact (rfl : _ = (Value.nilFunc)) | exact (rfl : _ = (Value.nilIface))))) (fun w hw => of_lit (m := [⟨0, 1, 0⟩, ⟨0, 2, 1⟩]) (C44_obj (i := 0) [⟨0, 1, 0⟩, ⟨0, 2, 1⟩] hw rfl (by decide)) (by decide) (by decide) [] 210 (by decide +kernel)) ?_
  rintro _ w4 hb4 ⟨A4, c4, rfl, hc4, hp4⟩
  (repeat (first | ((with_reducible refine is_AL ?_); (first | ((with_reducible refine is_move ?_); (refine At_plain hF (by (exact (rfl : _ = some (Value.tuple _)))) ?_)) | ((with_reducible refine is_assign ?_); (refine At_plain hF (by (first | exact (rfl : _ = some (Value.int _ _)) | exact (rfl : _ = some (Value.slice _ _ _)))) ?_)) | ((with_reducible refine is_extract ?_); (refine At_plain hF (by (first | exact (rfl : _ = some (Value.int _ _)) | exact (rfl : _ = some (Value.slice _ _ _)))) ?_)) | with_reducible refine At_nil ?_)) | ((with_reducible refine is_At ?_); (first | with_reducible refine At_seq ?_; intro K hK | with_reducible refine At_region ?_ | with_reducible refine At_then_n ?_ | with_reducible refine At_go (by assumption) ?_))))
  refine At_slice1G hF (Value.int .i64) [1, 1, 0, -1, -1, -1] (by decide) int_cells rfl (by decide) (by exact rfl) ?_; intro x1
  skip
  refine At_slice1G hF lsl [(x1, [1, 1, 0, -1, -1, -1])] (by decide) lsl_cells rfl (by decide) (by exact rfl) ?_; intro y1
  skip
  refine At_callK hF E14 rfl (arg1 (by (first | exact (rfl : _ = (Value.int _ _)) | exact (rfl : _ = (Value.bool _)) | exact (rfl : _ = (Value.pointer _)) | exact (rfl : _ = (Value.slice _ _ _)) | exact (rfl : _ = (Value.map _)) | exact (rfl : _ = (Value.func _ _ _)) | exact (rfl : _ = (Value.tuple _)) | exact (rfl : _ = (Value.agg _)) | exact (rfl : _ = (Value.string _)) | exact (rfl : _ = (Value.nilFunc)) | exact (rfl : _ = (Value.nilIface))))) (fun w hw => br_lit (p := [[1, 1, 0, -1, -1, -1]]) (CL_obj (i := 0) [(x1, [1, 1, 0, -1, -1, -1])] hw rfl (fun p hp => by
      simp only [List.mem_cons, List.not_mem_nil, or_false] at hp
      subst hp; exact CI_obj (i := 1) [1, 1, 0, -1, -1, -1] hw rfl (by decide)) (of_decide_eq_true rfl)) (by decide) [3] 0 50 (by decide +kernel)) ?_
  rintro _ w5 hb5 ⟨A5, c5, rfl, hc5, hp5⟩
  (repeat (first | ((with_reducible refine is_AL ?_); (first | ((with_reducible refine is_move ?_); (refine At_plain hF (by (exact (rfl : _ = some (Value.tuple _)))) ?_)) | ((with_reducible refine is_assign ?_); (refine At_plain hF (by (first | exact (rfl : _ = some (Value.int _ _)) | exact (rfl : _ = some (Value.slice _ _ _)))) ?_)) | ((with_reducible refine is_extract ?_); (refine At_plain hF (by (first | exact (rfl : _ = some (Value.int _ _)) | exact (rfl : _ = some (Value.slice _ _ _)))) ?_)) | with_reducible refine At_nil ?_)) | ((with_reducible refine is_At ?_); (first | with_reducible refine At_seq ?_; intro K hK | with_reducible refine At_region ?_ | with_reducible refine At_then_n ?_ | with_reducible refine At_go (by assumption) ?_))))
  refine At_slice1G hF (Value.int .i64) [1, 1] (by decide) int_cells rfl (by decide) (by exact rfl) ?_; intro x2
  skip
  refine At_slice1G hF (Value.int .i64) [1] (by decide) int_cells rfl (by decide) (by exact rfl) ?_; intro x3
  skip
  refine At_slice1G hF lsl [(x2, [1, 1]), (x3, [1])] (by decide) lsl_cells rfl (by decide) (by exact rfl) ?_; intro y2
  skip
  refine At_callK hF E14 rfl (arg1 (by (first | exact (rfl : _ = (Value.int _ _)) | exact (rfl : _ = (Value.bool _)) | exact (rfl : _ = (Value.pointer _)) | exact (rfl : _ = (Value.slice _ _ _)) | exact (rfl : _ = (Value.map _)) | exact (rfl : _ = (Value.func _ _ _)) | exact (rfl : _ = (Value.tuple _)) | exact (rfl : _ = (Value.agg _)) | exact (rfl : _ = (Value.string _)) | exact (rfl : _ = (Value.nilFunc)) | exact (rfl : _ = (Value.nilIface))))) (fun w hw => br_lit (p := [[1, 1], [1]]) (CL_obj (i := 0) [(x2, [1, 1]), (x3, [1])] hw rfl (fun p hp => by
      simp only [List.mem_cons, List.not_mem_nil, or_false] at hp
      rcases hp with rfl | rfl
      · exact CI_obj (i := 2) [1, 1] hw rfl (by decide)
      · exact CI_obj (i := 1) [1] hw rfl (by decide)
) (of_decide_eq_true rfl)) (by decide) [] 210 50 (by decide +kernel)) ?_
  rintro _ w6 hb6 ⟨A6, c6, rfl, hc6, hp6⟩
  (repeat (first | ((with_reducible refine is_AL ?_); (first | ((with_reducible refine is_guarded ?_); (refine At_guard_t rfl (by decide) rfl ?_)) | ((with_reducible refine is_move ?_); (refine At_plain hF (by (first | exact (rfl : _ = some (Value.int _ _)) | exact (rfl : _ = some (Value.bool _)) | exact (rfl : _ = some (Value.slice _ _ _)) | exact (rfl : _ = some (Value.tuple _)))) ?_)) | ((with_reducible refine is_bin ?_); (refine At_plain hF (by (exact (rfl : _ = some (Value.bool _)))) ?_)) | ((with_reducible refine is_assign ?_); (refine At_plain hF (by (first | exact (rfl : _ = some (Value.int _ _)) | exact (rfl : _ = some (Value.slice _ _ _)))) ?_)) | ((with_reducible refine is_pick ?_); (refine At_plain hF (by (exact (rfl : _ = some (Value.bool _)))) ?_)) | ((with_reducible refine is_extract ?_); (refine At_plain hF (by (first | exact (rfl : _ = some (Value.int _ _)) | exact (rfl : _ = some (Value.slice _ _ _)))) ?_)) | with_reducible refine At_nil ?_)) | ((with_reducible refine is_At ?_); (first | with_reducible refine At_seq ?_; intro K hK | with_reducible refine At_region ?_ | with_reducible refine At_then_n ?_ | with_reducible refine At_go (by assumption) ?_))))
  refine At_slice1G hF (Value.int .i64) [0, 0, -1] (by decide) int_cells rfl (by decide) (by exact rfl) ?_; intro x4
  (repeat ((with_reducible refine is_AL ?_); ((with_reducible refine is_guarded ?_); (refine At_guard_t rfl (by decide) rfl ?_))))
  refine At_slice1G hF (Value.int .i64) [0, 0, 1] (by decide) int_cells rfl (by decide) (by exact rfl) ?_; intro x5
  (repeat ((with_reducible refine is_AL ?_); ((with_reducible refine is_guarded ?_); (refine At_guard_t rfl (by decide) rfl ?_))))
  refine At_slice1G hF lsl [(x4, [0, 0, -1]), (x5, [0, 0, 1])] (by decide) lsl_cells rfl (by decide) (by exact rfl) ?_; intro y3
  (repeat ((with_reducible refine is_AL ?_); ((with_reducible refine is_guarded ?_); (refine At_guard_t rfl (by decide) rfl ?_))))
  refine At_callK hF E16 rfl (arg2 (by (first | exact (rfl : _ = (Value.int _ _)) | exact (rfl : _ = (Value.bool _)) | exact (rfl : _ = (Value.pointer _)) | exact (rfl : _ = (Value.slice _ _ _)) | exact (rfl : _ = (Value.map _)) | exact (rfl : _ = (Value.func _ _ _)) | exact (rfl : _ = (Value.tuple _)) | exact (rfl : _ = (Value.agg _)) | exact (rfl : _ = (Value.string _)) | exact (rfl : _ = (Value.nilFunc)) | exact (rfl : _ = (Value.nilIface)))) (by (first | exact (rfl : _ = (Value.int _ _)) | exact (rfl : _ = (Value.bool _)) | exact (rfl : _ = (Value.pointer _)) | exact (rfl : _ = (Value.slice _ _ _)) | exact (rfl : _ = (Value.map _)) | exact (rfl : _ = (Value.func _ _ _)) | exact (rfl : _ = (Value.tuple _)) | exact (rfl : _ = (Value.agg _)) | exact (rfl : _ = (Value.string _)) | exact (rfl : _ = (Value.nilFunc)) | exact (rfl : _ = (Value.nilIface))))) (fun w hw => same_lit (p := [[0, 0, -1], [0, 0, 1]]) (q := [[0, 0, -1], [0, 0, 1]]) (Kd.C_below (Kd.C_below hp1 (hb2.trans (Below.mono (hb3.trans (Below.mono (hb4.trans (Below.mono (hb5.trans (Below.mono hb6 hb5.size)) hb4.size)) hb3.size)) hb2.size))) hw.below) hc1 (CL_obj (i := 0) [(x4, [0, 0, -1]), (x5, [0, 0, 1])] hw rfl (fun p hp => by
      simp only [List.mem_cons, List.not_mem_nil, or_false] at hp
      rcases hp with rfl | rfl
      · exact CI_obj (i := 2) [0, 0, -1] hw rfl (by decide)
      · exact CI_obj (i := 1) [0, 0, 1] hw rfl (by decide)
) (of_decide_eq_true rfl)) (by decide) 50 (by decide +kernel)) ?_
  rintro _ w7 hb7 rfl
  (repeat ((with_reducible refine is_AL ?_); (first | ((with_reducible refine is_guarded ?_); (refine At_guard_t rfl (by decide) rfl ?_)) | ((with_reducible refine is_move ?_); (refine At_plain hF (by (first | exact (rfl : _ = some (Value.bool _)) | exact (rfl : _ = some (Value.slice _ _ _)))) ?_)) | ((with_reducible refine is_pick ?_); (refine At_plain hF (by (exact (rfl : _ = some (Value.bool _)))) ?_)) | ((with_reducible refine is_un ?_); (refine At_plain hF (by (exact (rfl : _ = some (Value.bool _)))) ?_)))))
  refine At_slice0 hF (sc (Value.int .i64)) (fun _ => rfl) ?_; intro x6
  (repeat ((with_reducible refine is_AL ?_); ((with_reducible refine is_guarded ?_); (refine At_guard_t rfl (by decide) rfl ?_))))
  refine At_slice0 hF (sc (Value.int .i64)) (fun _ => rfl) ?_; intro x7
  (repeat ((with_reducible refine is_AL ?_); ((with_reducible refine is_guarded ?_); (refine At_guard_t rfl (by decide) rfl ?_))))
  refine At_slice1G hF lsl [(x6, []), (x7, [])] (by decide) lsl_cells rfl (by decide) (by exact rfl) ?_; intro y4
  (repeat ((with_reducible refine is_AL ?_); ((with_reducible refine is_guarded ?_); (refine At_guard_t rfl (by decide) rfl ?_))))
  refine At_callK hF E16 rfl (arg2 (by (first | exact (rfl : _ = (Value.int _ _)) | exact (rfl : _ = (Value.bool _)) | exact (rfl : _ = (Value.pointer _)) | exact (rfl : _ = (Value.slice _ _ _)) | exact (rfl : _ = (Value.map _)) | exact (rfl : _ = (Value.func _ _ _)) | exact (rfl : _ = (Value.tuple _)) | exact (rfl : _ = (Value.agg _)) | exact (rfl : _ = (Value.string _)) | exact (rfl : _ = (Value.nilFunc)) | exact (rfl : _ = (Value.nilIface)))) (by (first | exact (rfl : _ = (Value.int _ _)) | exact (rfl : _ = (Value.bool _)) | exact (rfl : _ = (Value.pointer _)) | exact (rfl : _ = (Value.slice _ _ _)) | exact (rfl : _ = (Value.map _)) | exact (rfl : _ = (Value.func _ _ _)) | exact (rfl : _ = (Value.tuple _)) | exact (rfl : _ = (Value.agg _)) | exact (rfl : _ = (Value.string _)) | exact (rfl : _ = (Value.nilFunc)) | exact (rfl : _ = (Value.nilIface))))) (fun w hw => same_lit (p := [[], []]) (q := [[], []]) (Kd.C_below (Kd.C_below hp2 (hb3.trans (Below.mono (hb4.trans (Below.mono (hb5.trans (Below.mono (hb6.trans (Below.mono hb7 hb6.size)) hb5.size)) hb4.size)) hb3.size))) hw.below) hc2 (CL_obj (i := 0) [(x6, []), (x7, [])] hw rfl (fun p hp => by
      simp only [List.mem_cons, List.not_mem_nil, or_false] at hp
      rcases hp with rfl | rfl
      · exact (CI_row (l := []) (i := 2) hw rfl).1
      · exact (CI_row (l := []) (i := 1) hw rfl).1
) (of_decide_eq_true rfl)) (by decide) 50 (by decide +kernel)) ?_
  rintro _ w8 hb8 rfl
  (repeat ((with_reducible refine is_AL ?_); (first | ((with_reducible refine is_guarded ?_); (refine At_guard_t rfl (by decide) rfl ?_)) | ((with_reducible refine is_move ?_); (refine At_plain hF (by (first | exact (rfl : _ = some (Value.bool _)) | exact (rfl : _ = some (Value.slice _ _ _)))) ?_)) | ((with_reducible refine is_pick ?_); (refine At_plain hF (by (exact (rfl : _ = some (Value.bool _)))) ?_)) | ((with_reducible refine is_un ?_); (refine At_plain hF (by (exact (rfl : _ = some (Value.bool _)))) ?_)))))
  refine At_slice1G hF (Value.int .i64) [3] (by decide) int_cells rfl (by decide) (by exact rfl) ?_; intro x8
  (repeat ((with_reducible refine is_AL ?_); ((with_reducible refine is_guarded ?_); (refine At_guard_t rfl (by decide) rfl ?_))))
  refine At_callK hF E17 rfl (arg2 (by (first | exact (rfl : _ = (Value.int _ _)) | exact (rfl : _ = (Value.bool _)) | exact (rfl : _ = (Value.pointer _)) | exact (rfl : _ = (Value.slice _ _ _)) | exact (rfl : _ = (Value.map _)) | exact (rfl : _ = (Value.func _ _ _)) | exact (rfl : _ = (Value.tuple _)) | exact (rfl : _ = (Value.agg _)) | exact (rfl : _ = (Value.string _)) | exact (rfl : _ = (Value.nilFunc)) | exact (rfl : _ = (Value.nilIface)))) (by (first | exact (rfl : _ = (Value.int _ _)) | exact (rfl : _ = (Value.bool _)) | exact (rfl : _ = (Value.pointer _)) | exact (rfl : _ = (Value.slice _ _ _)) | exact (rfl : _ = (Value.map _)) | exact (rfl : _ = (Value.func _ _ _)) | exact (rfl : _ = (Value.tuple _)) | exact (rfl : _ = (Value.agg _)) | exact (rfl : _ = (Value.string _)) | exact (rfl : _ = (Value.nilFunc)) | exact (rfl : _ = (Value.nilIface))))) (fun w hw => ints_lit (p := [3]) (q := [3]) (Kd.C_below (Kd.C_below hp5 (hb6.trans (Below.mono (hb7.trans (Below.mono hb8 hb7.size)) hb6.size))) hw.below) hc5 (CI_obj (i := 0) [3] hw rfl (by decide)) (by decide) 50 (by decide +kernel)) ?_
  rintro _ w9 hb9 rfl
  (repeat (first | ((with_reducible refine is_AL ?_); (first | ((with_reducible refine is_guarded ?_); (refine At_guard_t rfl (by decide) rfl ?_)) | ((with_reducible refine is_pick ?_); (refine At_plain hF (by (exact (rfl : _ = some (Value.bool _)))) ?_)) | ((with_reducible refine is_un ?_); (refine At_plain hF (by (exact (rfl : _ = some (Value.bool _)))) ?_)) | with_reducible refine At_nil ?_)) | ((with_reducible refine is_At ?_); (first | with_reducible refine At_seq ?_; intro K hK | with_reducible refine At_region ?_ | with_reducible refine At_skip ?_ | with_reducible refine At_then_n ?_ | with_reducible refine At_go (by assumption) ?_ | ((with_reducible refine is_cond ?_); (refine At_cond_f rfl ?_))))))
  refine At_callK hF E18 rfl (arg2 (by (first | exact (rfl : _ = (Value.int _ _)) | exact (rfl : _ = (Value.bool _)) | exact (rfl : _ = (Value.pointer _)) | exact (rfl : _ = (Value.slice _ _ _)) | exact (rfl : _ = (Value.map _)) | exact (rfl : _ = (Value.func _ _ _)) | exact (rfl : _ = (Value.tuple _)) | exact (rfl : _ = (Value.agg _)) | exact (rfl : _ = (Value.string _)) | exact (rfl : _ = (Value.nilFunc)) | exact (rfl : _ = (Value.nilIface)))) (by (first | exact (rfl : _ = (Value.int _ _)) | exact (rfl : _ = (Value.bool _)) | exact (rfl : _ = (Value.pointer _)) | exact (rfl : _ = (Value.slice _ _ _)) | exact (rfl : _ = (Value.map _)) | exact (rfl : _ = (Value.func _ _ _)) | exact (rfl : _ = (Value.tuple _)) | exact (rfl : _ = (Value.agg _)) | exact (rfl : _ = (Value.string _)) | exact (rfl : _ = (Value.nilFunc)) | exact (rfl : _ = (Value.nilIface))))) (fun w hw => least_lit 5 4 0 (by decide +kernel)) ?_
  rintro _ w10 hb10 rfl
  (repeat (first | ((with_reducible refine is_AL ?_); (first | ((with_reducible refine is_move ?_); (refine At_plain hF (by (exact (rfl : _ = some (Value.tuple _)))) ?_)) | ((with_reducible refine is_assign ?_); (refine At_plain hF (by (exact (rfl : _ = some (Value.int _ _)))) ?_)) | ((with_reducible refine is_extract ?_); (refine At_plain hF (by (exact (rfl : _ = some (Value.int _ _)))) ?_)) | with_reducible refine At_nil ?_)) | ((with_reducible refine is_At ?_); (first | with_reducible refine At_seq ?_; intro K hK | with_reducible refine At_region ?_ | with_reducible refine At_then_n ?_ | with_reducible refine At_go (by assumption) ?_))))
  refine At_callK hF E18 rfl (arg2 (by (first | exact (rfl : _ = (Value.int _ _)) | exact (rfl : _ = (Value.bool _)) | exact (rfl : _ = (Value.pointer _)) | exact (rfl : _ = (Value.slice _ _ _)) | exact (rfl : _ = (Value.map _)) | exact (rfl : _ = (Value.func _ _ _)) | exact (rfl : _ = (Value.tuple _)) | exact (rfl : _ = (Value.agg _)) | exact (rfl : _ = (Value.string _)) | exact (rfl : _ = (Value.nilFunc)) | exact (rfl : _ = (Value.nilIface)))) (by (first | exact (rfl : _ = (Value.int _ _)) | exact (rfl : _ = (Value.bool _)) | exact (rfl : _ = (Value.pointer _)) | exact (rfl : _ = (Value.slice _ _ _)) | exact (rfl : _ = (Value.map _)) | exact (rfl : _ = (Value.func _ _ _)) | exact (rfl : _ = (Value.tuple _)) | exact (rfl : _ = (Value.agg _)) | exact (rfl : _ = (Value.string _)) | exact (rfl : _ = (Value.nilFunc)) | exact (rfl : _ = (Value.nilIface))))) (fun w hw => least_lit 5 12 0 (by decide +kernel)) ?_
  rintro _ w11 hb11 rfl
  (repeat (first | ((with_reducible refine is_AL ?_); (first | ((with_reducible refine is_move ?_); (refine At_plain hF (by (exact (rfl : _ = some (Value.tuple _)))) ?_)) | ((with_reducible refine is_assign ?_); (refine At_plain hF (by (exact (rfl : _ = some (Value.int _ _)))) ?_)) | ((with_reducible refine is_extract ?_); (refine At_plain hF (by (exact (rfl : _ = some (Value.int _ _)))) ?_)) | with_reducible refine At_nil ?_)) | ((with_reducible refine is_At ?_); (first | with_reducible refine At_seq ?_; intro K hK | with_reducible refine At_region ?_ | with_reducible refine At_then_n ?_ | with_reducible refine At_go (by assumption) ?_))))
  refine At_callK hF E18 rfl (arg2 (by (first | exact (rfl : _ = (Value.int _ _)) | exact (rfl : _ = (Value.bool _)) | exact (rfl : _ = (Value.pointer _)) | exact (rfl : _ = (Value.slice _ _ _)) | exact (rfl : _ = (Value.map _)) | exact (rfl : _ = (Value.func _ _ _)) | exact (rfl : _ = (Value.tuple _)) | exact (rfl : _ = (Value.agg _)) | exact (rfl : _ = (Value.string _)) | exact (rfl : _ = (Value.nilFunc)) | exact (rfl : _ = (Value.nilIface)))) (by (first | exact (rfl : _ = (Value.int _ _)) | exact (rfl : _ = (Value.bool _)) | exact (rfl : _ = (Value.pointer _)) | exact (rfl : _ = (Value.slice _ _ _)) | exact (rfl : _ = (Value.map _)) | exact (rfl : _ = (Value.func _ _ _)) | exact (rfl : _ = (Value.tuple _)) | exact (rfl : _ = (Value.agg _)) | exact (rfl : _ = (Value.string _)) | exact (rfl : _ = (Value.nilFunc)) | exact (rfl : _ = (Value.nilIface))))) (fun w hw => least_lit 5 0 0 (by decide +kernel)) ?_
  rintro _ w12 hb12 rfl
  (repeat (first | ((with_reducible refine is_AL ?_); (first | ((with_reducible refine is_move ?_); (refine At_plain hF (by (exact (rfl : _ = some (Value.tuple _)))) ?_)) | ((with_reducible refine is_assign ?_); (refine At_plain hF (by (exact (rfl : _ = some (Value.int _ _)))) ?_)) | ((with_reducible refine is_extract ?_); (refine At_plain hF (by (exact (rfl : _ = some (Value.int _ _)))) ?_)) | with_reducible refine At_nil ?_)) | ((with_reducible refine is_At ?_); (first | with_reducible refine At_seq ?_; intro K hK | with_reducible refine At_region ?_ | with_reducible refine At_then_n ?_ | with_reducible refine At_go (by assumption) ?_))))
  refine At_callK hF E18 rfl (arg2 (by (first | exact (rfl : _ = (Value.int _ _)) | exact (rfl : _ = (Value.bool _)) | exact (rfl : _ = (Value.pointer _)) | exact (rfl : _ = (Value.slice _ _ _)) | exact (rfl : _ = (Value.map _)) | exact (rfl : _ = (Value.func _ _ _)) | exact (rfl : _ = (Value.tuple _)) | exact (rfl : _ = (Value.agg _)) | exact (rfl : _ = (Value.string _)) | exact (rfl : _ = (Value.nilFunc)) | exact (rfl : _ = (Value.nilIface)))) (by (first | exact (rfl : _ = (Value.int _ _)) | exact (rfl : _ = (Value.bool _)) | exact (rfl : _ = (Value.pointer _)) | exact (rfl : _ = (Value.slice _ _ _)) | exact (rfl : _ = (Value.map _)) | exact (rfl : _ = (Value.func _ _ _)) | exact (rfl : _ = (Value.tuple _)) | exact (rfl : _ = (Value.agg _)) | exact (rfl : _ = (Value.string _)) | exact (rfl : _ = (Value.nilFunc)) | exact (rfl : _ = (Value.nilIface))))) (fun w hw => least_lit 5 0 1 (by decide +kernel)) ?_
  rintro _ w13 hb13 rfl
  (repeat (first | ((with_reducible refine is_AL ?_); (first | ((with_reducible refine is_move ?_); (refine At_plain hF (by (exact (rfl : _ = some (Value.tuple _)))) ?_)) | ((with_reducible refine is_assign ?_); (refine At_plain hF (by (exact (rfl : _ = some (Value.int _ _)))) ?_)) | ((with_reducible refine is_extract ?_); (refine At_plain hF (by (exact (rfl : _ = some (Value.int _ _)))) ?_)) | with_reducible refine At_nil ?_)) | ((with_reducible refine is_At ?_); (first | with_reducible refine At_seq ?_; intro K hK | with_reducible refine At_region ?_ | with_reducible refine At_then_n ?_ | with_reducible refine At_go (by assumption) ?_))))
  refine At_slice1G hF (Value.int .i64) [1, -1, 1] (by decide) int_cells rfl (by decide) (by exact rfl) ?_; intro z1
  skip
  refine At_slice1G hF (Value.int .i64) [-1, 1, 1] (by decide) int_cells rfl (by decide) (by exact rfl) ?_; intro z2
  skip
  refine At_slice1G hF (Value.int .i64) [1, -1, 1] (by decide) int_cells rfl (by decide) (by exact rfl) ?_; intro z3
  skip
  refine At_slice1G hF lsl [(z1, [1, -1, 1]), (z2, [-1, 1, 1]), (z3, [1, -1, 1])] (by decide) lsl_cells rfl (by decide) (by exact rfl) ?_; intro v14
  skip
  refine At_callK hF E20 rfl (arg1 (by (first | exact (rfl : _ = (Value.int _ _)) | exact (rfl : _ = (Value.bool _)) | exact (rfl : _ = (Value.pointer _)) | exact (rfl : _ = (Value.slice _ _ _)) | exact (rfl : _ = (Value.map _)) | exact (rfl : _ = (Value.func _ _ _)) | exact (rfl : _ = (Value.tuple _)) | exact (rfl : _ = (Value.agg _)) | exact (rfl : _ = (Value.string _)) | exact (rfl : _ = (Value.nilFunc)) | exact (rfl : _ = (Value.nilIface))))) (fun w hw => vio_lit (p := [[1, -1, 1], [-1, 1, 1], [1, -1, 1]]) (CL_obj (i := 0) [(z1, [1, -1, 1]), (z2, [-1, 1, 1]), (z3, [1, -1, 1])] hw rfl (fun p hp => by
      simp only [List.mem_cons, List.not_mem_nil, or_false] at hp
      rcases hp with rfl | rfl | rfl
      · exact CI_obj (i := 3) [1, -1, 1] hw rfl (by decide)
      · exact CI_obj (i := 2) [-1, 1, 1] hw rfl (by decide)
      · exact CI_obj (i := 1) [1, -1, 1] hw rfl (by decide)
) (of_decide_eq_true rfl)) (by decide) [0, 2] true 0 (by decide +kernel)) ?_
  rintro _ w14 hb14 ⟨A14, c14, rfl, hc14, hp14⟩
  (repeat (first | ((with_reducible refine is_AL ?_); (first | ((with_reducible refine is_move ?_); (refine At_plain hF (by (exact (rfl : _ = some (Value.tuple _)))) ?_)) | ((with_reducible refine is_assign ?_); (refine At_plain hF (by (first | exact (rfl : _ = some (Value.int _ _)) | exact (rfl : _ = some (Value.bool _)) | exact (rfl : _ = some (Value.slice _ _ _)))) ?_)) | ((with_reducible refine is_extract ?_); (refine At_plain hF (by (first | exact (rfl : _ = some (Value.int _ _)) | exact (rfl : _ = some (Value.bool _)) | exact (rfl : _ = some (Value.slice _ _ _)))) ?_)) | with_reducible refine At_nil ?_)) | ((with_reducible refine is_At ?_); (first | with_reducible refine At_seq ?_; intro K hK | with_reducible refine At_region ?_ | with_reducible refine At_then_n ?_ | with_reducible refine At_go (by assumption) ?_))))
  refine At_slice1G hF (Value.int .i64) [1, -1, 1] (by decide) int_cells rfl (by decide) (by exact rfl) ?_; intro z4
  skip
  refine At_slice1G hF (Value.int .i64) [1, 1, -1] (by decide) int_cells rfl (by decide) (by exact rfl) ?_; intro z5
  skip
  refine At_slice1G hF (Value.int .i64) [-1, -1, -1] (by decide) int_cells rfl (by decide) (by exact rfl) ?_; intro z6
  skip
  refine At_slice1G hF lsl [(z4, [1, -1, 1]), (z5, [1, 1, -1]), (z6, [-1, -1, -1])] (by decide) lsl_cells rfl (by decide) (by exact rfl) ?_; intro v15
  skip
  refine At_callK hF E20 rfl (arg1 (by (first | exact (rfl : _ = (Value.int _ _)) | exact (rfl : _ = (Value.bool _)) | exact (rfl : _ = (Value.pointer _)) | exact (rfl : _ = (Value.slice _ _ _)) | exact (rfl : _ = (Value.map _)) | exact (rfl : _ = (Value.func _ _ _)) | exact (rfl : _ = (Value.tuple _)) | exact (rfl : _ = (Value.agg _)) | exact (rfl : _ = (Value.string _)) | exact (rfl : _ = (Value.nilFunc)) | exact (rfl : _ = (Value.nilIface))))) (fun w hw => vio_lit (p := [[1, -1, 1], [1, 1, -1], [-1, -1, -1]]) (CL_obj (i := 0) [(z4, [1, -1, 1]), (z5, [1, 1, -1]), (z6, [-1, -1, -1])] hw rfl (fun p hp => by
      simp only [List.mem_cons, List.not_mem_nil, or_false] at hp
      rcases hp with rfl | rfl | rfl
      · exact CI_obj (i := 3) [1, -1, 1] hw rfl (by decide)
      · exact CI_obj (i := 2) [1, 1, -1] hw rfl (by decide)
      · exact CI_obj (i := 1) [-1, -1, -1] hw rfl (by decide)
) (of_decide_eq_true rfl)) (by decide) [] false 0 (by decide +kernel)) ?_
  rintro _ w15 hb15 ⟨A15, c15, rfl, hc15, hp15⟩
  (repeat (first | ((with_reducible refine is_AL ?_); (first | ((with_reducible refine is_move ?_); (refine At_plain hF (by (exact (rfl : _ = some (Value.tuple _)))) ?_)) | ((with_reducible refine is_assign ?_); (refine At_plain hF (by (first | exact (rfl : _ = some (Value.int _ _)) | exact (rfl : _ = some (Value.bool _)) | exact (rfl : _ = some (Value.slice _ _ _)))) ?_)) | ((with_reducible refine is_extract ?_); (refine At_plain hF (by (first | exact (rfl : _ = some (Value.int _ _)) | exact (rfl : _ = some (Value.bool _)) | exact (rfl : _ = some (Value.slice _ _ _)))) ?_)) | with_reducible refine At_nil ?_)) | ((with_reducible refine is_At ?_); (first | with_reducible refine At_seq ?_; intro K hK | with_reducible refine At_region ?_ | with_reducible refine At_then_n ?_ | with_reducible refine At_go (by assumption) ?_))))
  refine At_slice1G hF (Value.int .i64) [1] (by decide) int_cells rfl (by decide) (by exact rfl) ?_; intro z7
  skip
  refine At_slice1G hF lsl [(z7, [1])] (by decide) lsl_cells rfl (by decide) (by exact rfl) ?_; intro v16
  skip
  refine At_callK hF E20 rfl (arg1 (by (first | exact (rfl : _ = (Value.int _ _)) | exact (rfl : _ = (Value.bool _)) | exact (rfl : _ = (Value.pointer _)) | exact (rfl : _ = (Value.slice _ _ _)) | exact (rfl : _ = (Value.map _)) | exact (rfl : _ = (Value.func _ _ _)) | exact (rfl : _ = (Value.tuple _)) | exact (rfl : _ = (Value.agg _)) | exact (rfl : _ = (Value.string _)) | exact (rfl : _ = (Value.nilFunc)) | exact (rfl : _ = (Value.nilIface))))) (fun w hw => vio_lit (p := [[1]]) (CL_obj (i := 0) [(z7, [1])] hw rfl (fun p hp => by
      simp only [List.mem_cons, List.not_mem_nil, or_false] at hp
      subst hp; exact CI_obj (i := 1) [1] hw rfl (by decide)) (of_decide_eq_true rfl)) (by decide) [] false 210 (by decide +kernel)) ?_
  rintro _ w16 hb16 ⟨A16, c16, rfl, hc16, hp16⟩
  (repeat (first | ((with_reducible refine is_AL ?_); (first | ((with_reducible refine is_guarded ?_); (refine At_guard_t rfl (by decide) rfl ?_)) | ((with_reducible refine is_move ?_); (refine At_plain hF (by (first | exact (rfl : _ = some (Value.int _ _)) | exact (rfl : _ = some (Value.bool _)) | exact (rfl : _ = some (Value.slice _ _ _)) | exact (rfl : _ = some (Value.tuple _)))) ?_)) | ((with_reducible refine is_bin ?_); (refine At_plain hF (by (exact (rfl : _ = some (Value.bool _)))) ?_)) | ((with_reducible refine is_assign ?_); (refine At_plain hF (by (first | exact (rfl : _ = some (Value.int _ _)) | exact (rfl : _ = some (Value.bool _)) | exact (rfl : _ = some (Value.slice _ _ _)))) ?_)) | ((with_reducible refine is_pick ?_); (refine At_plain hF (by (exact (rfl : _ = some (Value.bool _)))) ?_)) | ((with_reducible refine is_extract ?_); (refine At_plain hF (by (first | exact (rfl : _ = some (Value.int _ _)) | exact (rfl : _ = some (Value.bool _)) | exact (rfl : _ = some (Value.slice _ _ _)))) ?_)) | with_reducible refine At_nil ?_)) | ((with_reducible refine is_At ?_); (first | with_reducible refine At_seq ?_; intro K hK | with_reducible refine At_region ?_ | with_reducible refine At_skip ?_ | with_reducible refine At_then_n ?_ | with_reducible refine At_go (by assumption) ?_ | ((with_reducible refine is_cond ?_); (refine At_cond_f rfl ?_))))))
  refine At_slice1G hF (Value.int .i64) [0, 2] (by decide) int_cells rfl (by decide) (by exact rfl) ?_; intro z8
  (repeat ((with_reducible refine is_AL ?_); ((with_reducible refine is_guarded ?_); (refine At_guard_t rfl (by decide) rfl ?_))))
  refine At_callK hF E17 rfl (arg2 (by (first | exact (rfl : _ = (Value.int _ _)) | exact (rfl : _ = (Value.bool _)) | exact (rfl : _ = (Value.pointer _)) | exact (rfl : _ = (Value.slice _ _ _)) | exact (rfl : _ = (Value.map _)) | exact (rfl : _ = (Value.func _ _ _)) | exact (rfl : _ = (Value.tuple _)) | exact (rfl : _ = (Value.agg _)) | exact (rfl : _ = (Value.string _)) | exact (rfl : _ = (Value.nilFunc)) | exact (rfl : _ = (Value.nilIface)))) (by (first | exact (rfl : _ = (Value.int _ _)) | exact (rfl : _ = (Value.bool _)) | exact (rfl : _ = (Value.pointer _)) | exact (rfl : _ = (Value.slice _ _ _)) | exact (rfl : _ = (Value.map _)) | exact (rfl : _ = (Value.func _ _ _)) | exact (rfl : _ = (Value.tuple _)) | exact (rfl : _ = (Value.agg _)) | exact (rfl : _ = (Value.string _)) | exact (rfl : _ = (Value.nilFunc)) | exact (rfl : _ = (Value.nilIface))))) (fun w hw => ints_lit (p := [0, 2]) (q := [0, 2]) (Kd.C_below (Kd.C_below hp14 (hb15.trans (Below.mono hb16 hb15.size))) hw.below) hc14 (CI_obj (i := 0) [0, 2] hw rfl (by decide)) (by decide) 50 (by decide +kernel)) ?_
  rintro _ w17 hb17 rfl
  (repeat (first | ((with_reducible refine is_AL ?_); (first | ((with_reducible refine is_guarded ?_); (refine At_guard_t rfl (by decide) rfl ?_)) | ((with_reducible refine is_move ?_); (refine At_plain hF (by (first | exact (rfl : _ = some (Value.bool _)) | exact (rfl : _ = some (Value.slice _ _ _)))) ?_)) | ((with_reducible refine is_bin ?_); (refine At_plain hF (by (exact (rfl : _ = some (Value.bool _)))) ?_)) | ((with_reducible refine is_assign ?_); (refine At_plain hF (by (exact (rfl : _ = some (Value.bool _)))) ?_)) | ((with_reducible refine is_pick ?_); (refine At_plain hF (by (exact (rfl : _ = some (Value.bool _)))) ?_)) | ((with_reducible refine is_un ?_); (refine At_plain hF (by (exact (rfl : _ = some (Value.bool _)))) ?_)) | ((with_reducible refine is_call ?_); (refine At_len hF rfl ?_)) | with_reducible refine At_nil ?_)) | ((with_reducible refine is_At ?_); (first | with_reducible refine At_ret ?_ | with_reducible refine At_then_n ?_ | with_reducible refine At_go (by assumption) ?_))))
  refine At_ret1 rfl (rv_tmp (by decide)) (fun w' hw' => ⟨_, rfl, rfl, ((hb1.trans (Below.mono (hb2.trans (Below.mono (hb3.trans (Below.mono (hb4.trans (Below.mono (hb5.trans (Below.mono (hb6.trans (Below.mono (hb7.trans (Below.mono (hb8.trans (Below.mono (hb9.trans (Below.mono (hb10.trans (Below.mono (hb11.trans (Below.mono (hb12.trans (Below.mono (hb13.trans (Below.mono (hb14.trans (Below.mono (hb15.trans (Below.mono (hb16.trans (Below.mono (hb17) hb16.size)) hb15.size)) hb14.size)) hb13.size)) hb12.size)) hb11.size)) hb10.size)) hb9.size)) hb8.size)) hb7.size)) hb6.size)) hb5.size)) hb4.size)) hb3.size)) hb2.size)) hb1.size)).trans (Below.mono hw'.below (hb1.trans (Below.mono (hb2.trans (Below.mono (hb3.trans (Below.mono (hb4.trans (Below.mono (hb5.trans (Below.mono (hb6.trans (Below.mono (hb7.trans (Below.mono (hb8.trans (Below.mono (hb9.trans (Below.mono (hb10.trans (Below.mono (hb11.trans (Below.mono (hb12.trans (Below.mono (hb13.trans (Below.mono (hb14.trans (Below.mono (hb15.trans (Below.mono (hb16.trans (Below.mono (hb17) hb16.size)) hb15.size)) hb14.size)) hb13.size)) hb12.size)) hb11.size)) hb10.size)) hb9.size)) hb8.size)) hb7.size)) hb6.size)) hb5.size)) hb4.size)) hb3.size)) hb2.size)) hb1.size)).size))⟩)
end Go.Proofs.Ytecgklfcblpkdaa.P

/- The sanity examples: contract. -/
namespace Go.Proofs.Ytecgklfcblpkdaa.P
open Go.RowKit Go.Proofs.YtecgklfcblpkdaaW.PrintWords Go.Proofs.YtecgklfcblpkdaaW.PrintLast Go.Proofs.YtecgklfcblpkdaaW.PrintMore
open XW
def fastilaw21_sane.f : Option Bool := some true
theorem fastilaw21_sane.calls (r : Bool) (w : World) (h : fastilaw21_sane.f = some r) :
    Calls Try.prog 10 #[] w fun e w' => e = .returned (.bool r) ∧ Below w.heap.size w w' := by
  cases h
  exact (sane_rets w).mono (by rintro e w' ⟨u, rfl, rfl, hb⟩; exact ⟨rfl, hb⟩)
end Go.Proofs.Ytecgklfcblpkdaa.P
