/- Rows of rows: from holdings to the words of the kit's print. -/
import Derived.Test.YtcjpghiceebkfaaP0
import Derived.Test.YtcjpghiceebkfaaXB
import Derived.Test.YtcjpghiceebkfaaXTy
import Derived.Test.YtcjpghiceebkfaaWApart
namespace Go.Proofs.Ytcjpghiceebkfaa.P
open Go.RowKit Go.Proofs.YtcjpghiceebkfaaW.PrintWords Go.Proofs.YtcjpghiceebkfaaW.PrintLast Go.Proofs.YtcjpghiceebkfaaW.PrintMore
open XW RegInv
set_option linter.unusedSimpArgs false
set_option linter.unusedVariables false

theorem flat_gv (n : Nat) (bs : List Nat) : bs.flatMap (sc (gv n)) = bs.map (gv n) := by
  induction bs with
  | nil => rfl
  | cons b bs ih => simp [sc] at ih ⊢; exact ih
theorem flat_int (l : List Int) : l.flatMap (sc (Value.int .i64)) = encs (Value.int .i64) l := by
  induction l with
  | nil => rfl
  | cons b bs ih => simp [sc, encs] at ih ⊢; exact ih
theorem S_of_grid {base w : World} {n : Nat} {bs : List Nat} {M : List (List Int)} {v : Value} {inner : List Value} (hown : w.ownsRow base.heap.size 33 1 v bs.length (bs.map (gv n))) (hbs : ∀ b ∈ bs, base.heap.size ≤ b ∧ some b ≠ v.ownBlock)
    (g1 : bs.Nodup) (g2 : bs.length = M.length) (g3 : ∀ (i b : Nat) (row : List Int), bs[i]? = some b → M[i]? = some row → w.heap[b]? = some (.cells (buf (sc (Value.int .i64)) row []) 3 (0, 0))) (hrow : ∀ row ∈ M, row.length = n) (hn : n ≤ 1000000000) :
    Kd.S (Kd.slice 3 (Kd.int .i64)) 33 w base.heap.size (fun _ => True) v M := by
  refine ⟨fun b => bs.idxOf b, fun _ _ => trivial, bs.map (gv n), ?_, ?_, ?_⟩
  · rw [List.length_zipIdx, ← g2]; exact hown
  · rw [List.length_map, List.length_zipIdx, g2, show (Kd.tag (fun b => bs.idxOf b) (Kd.slice 3 (Kd.int IntKind.i64))).sz = 1 from rfl, Nat.mul_one]
  · intro j p hj
    rw [List.getElem?_zipIdx] at hj
    obtain ⟨row, hrowj, rfl⟩ := Option.map_eq_some_iff.1 hj
    obtain ⟨hl, hr⟩ := List.getElem?_eq_some_iff.1 hrowj
    have hbl : j < bs.length := by omega
    have hb : bs[j]? = some bs[j] := List.getElem?_eq_getElem hbl
    have hh := g3 j _ row hb hrowj
    have hbm : bs[j] ∈ bs := List.getElem_mem hbl
    have hlen := hrow row (List.mem_of_getElem? hrowj)
    refine ⟨gv n bs[j], ?_, ?_⟩
    · rw [show (Kd.tag (fun b => bs.idxOf b) (Kd.slice 3 (Kd.int IntKind.i64))).sz = 1 from rfl, Nat.mul_one, List.drop_eq_getElem_cons (by simpa using hbl)]
      simp
    · refine Kd.R_of_own ?_ ?_
      · have : RowOk 3 1 (sc (Value.int .i64)) (some bs[j]) n row w := ⟨sc_len _, by omega, Nat.le_trans hn (by decide), [], hh, by simp [hlen]⟩
        have h2 := ownsRow_of (B := base.heap.size) this (fun k hk => by cases hk; exact (hbs _ hbm).1)
        rw [flat_int] at h2
        have e : rowV (some bs[j]) row.length n = gv n bs[j] := by simp [rowV, gv, hlen]
        rw [e] at h2
        exact h2
      · intro k hk
        have : k = bs[j] := by simpa [gv, Value.ownBlock] using hk.symm
        subst this
        refine ⟨⟨trivial, (hbs _ hbm).2⟩, ?_⟩
        have := g1.idxOf_getElem j hbl
        simpa using this
/-- an outer row of one's own, laid out, and its rows -/
theorem S_of_mem {base w : World} {R : List Res} {n bc : Nat} {bs : List Nat} {M : List (List Int)} (hw : Mem base w (.obj bc (.cells (buf (sc (gv n)) bs []) 33 (0, 0)) :: .grid 3 (Value.int .i64) bs M :: R)) (hl : bs.length ≤ 1000000000) (hn : n ≤ 1000000000) (hrow : ∀ row ∈ M, row.length = n) :
    Kd.S (Kd.slice 3 (Kd.int .i64)) 33 w base.heap.size (fun _ => True) (.slice (some ⟨bc, 0, none⟩) bs.length bs.length) M := by
  obtain ⟨g1, g2, g3⟩ := hw.gridAt 1 rfl
  have h0 := hw.at_ 0 rfl
  have hbd0 := hw.bd _ (List.mem_cons_self ..) bc rfl
  have hsep := (List.pairwise_cons.1 hw.sep).1 _ (List.mem_cons_self ..) bc rfl
  have hrow0 : RowOk 33 1 (sc (gv n)) (some bc) bs.length bs w := ⟨sc_len _, Nat.le_refl _, Nat.le_trans hl (by decide), [], h0, by simp⟩
  have h2 := ownsRow_of (B := base.heap.size) hrow0 (fun k hk => by cases hk; exact hbd0.1)
  rw [flat_gv] at h2
  have e : rowV (some bc) bs.length bs.length = .slice (some ⟨bc, 0, none⟩) bs.length bs.length := rfl
  rw [e] at h2
  refine S_of_grid (inner := []) h2 (fun b hb => ⟨(hw.bd (.grid 3 (Value.int .i64) bs M) (by simp) b hb).1, fun e => ?_⟩) g1 g2 g3 hrow hn
  have : b = bc := by simpa [Value.ownBlock] using e
  subst this
  exact hsep hb
end Go.Proofs.Ytcjpghiceebkfaa.P
