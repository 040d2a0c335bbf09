/- fastiref22.Foes and Matrix: the contracts. -/
import Derived.Test.YtcjpghiceebkfaaGRef
namespace Go.Proofs.Ytcjpghiceebkfaa.P
open Go.RowKit Go.Proofs.YtcjpghiceebkfaaW.PrintWords Go.Proofs.YtcjpghiceebkfaaW.PrintLast Go.Proofs.YtcjpghiceebkfaaW.PrintMore
open XW RegInv
set_option linter.unusedSimpArgs false
set_option linter.unusedVariables false

theorem flat_gvc (n : Nat) (bs : List (Nat × Nat)) : bs.flatMap (sc (gvc n)) = bs.map (gvc n) := by
  induction bs with
  | nil => rfl
  | cons b bs ih => simp [sc] at ih ⊢; exact ih
theorem S_of_gridc {base w : World} {n : Nat} {bs : List (Nat × Nat)} {M : List (List Int)} {v : Value} (hown : w.ownsRow base.heap.size 33 1 v bs.length (bs.map (gvc n))) (hbs : ∀ p ∈ bs, base.heap.size ≤ p.1 ∧ some p.1 ≠ v.ownBlock)
    (hg : GridcOk 3 (Value.int .i64) bs M w) (hrow : ∀ row ∈ M, row.length = n) : Kd.S (Kd.slice 3 (Kd.int .i64)) 33 w base.heap.size (fun _ => True) v M := by
  obtain ⟨g1, g2, g3⟩ := hg
  refine ⟨fun b => (bs.map (·.1)).idxOf b, fun _ _ => trivial, bs.map (gvc n), ?_, ?_, ?_⟩
  · rw [List.length_zipIdx, ← g2]; exact hown
  · rw [List.length_map, List.length_zipIdx, g2, show (Kd.tag (fun b => (bs.map (·.1)).idxOf b) (Kd.slice 3 (Kd.int IntKind.i64))).sz = 1 from rfl, Nat.mul_one]
  · intro j p hj
    rw [List.getElem?_zipIdx] at hj
    obtain ⟨row, hrowj, rfl⟩ := Option.map_eq_some_iff.1 hj
    obtain ⟨hl, hr⟩ := List.getElem?_eq_some_iff.1 hrowj
    have hbl : j < bs.length := by omega
    have hb : bs[j]? = some bs[j] := List.getElem?_eq_getElem hbl
    obtain ⟨q1, q2, junk, hh, q3⟩ := g3 j _ row hb hrowj
    have hbm : bs[j] ∈ bs := List.getElem_mem hbl
    have hlen := hrow row (List.mem_of_getElem? hrowj)
    refine ⟨gvc n bs[j], ?_, ?_⟩
    · rw [show (Kd.tag (fun b => (bs.map (·.1)).idxOf b) (Kd.slice 3 (Kd.int IntKind.i64))).sz = 1 from rfl, Nat.mul_one, List.drop_eq_getElem_cons (by simpa using hbl)]
      simp
    · refine Kd.R_of_own ?_ ?_
      · have : RowOk 3 1 (sc (Value.int .i64)) (some bs[j].1) bs[j].2 row w := ⟨sc_len _, q1, q2, junk, hh, by omega⟩
        have h2 := ownsRow_of (B := base.heap.size) this (fun k hk => by cases hk; exact (hbs _ hbm).1)
        rw [flat_int] at h2
        have e : rowV (some bs[j].1) row.length bs[j].2 = gvc n bs[j] := by simp [rowV, gvc, hlen]
        rw [e] at h2
        exact h2
      · intro k hk
        have : k = bs[j].1 := by simpa [gvc, Value.ownBlock] using hk.symm
        subst this
        refine ⟨⟨trivial, (hbs _ hbm).2⟩, ?_⟩
        have := g1.idxOf_getElem j (by simpa using hbl)
        simpa using this
theorem rowV_own {A : Option Nat} {k c : Nat} : (rowV A k c).ownBlock = A := by cases A <;> rfl
theorem S_of_rowgridc {base w : World} {R : List Res} {n c : Nat} {A : Option Nat} {bs : List (Nat × Nat)} {M : List (List Int)} (hw : Mem base w (.row 33 1 (sc (gvc n)) A c bs :: .gridc 3 (Value.int .i64) bs M :: R)) (hrow : ∀ row ∈ M, row.length = n) :
    Kd.S (Kd.slice 3 (Kd.int .i64)) 33 w base.heap.size (fun _ => True) (rowV A bs.length c) M := by
  have h0 : RowOk 33 1 (sc (gvc n)) A c bs w := hw.ok _ (List.mem_cons_self ..)
  have hg := hw.gridcAt 1 rfl
  have hsep := (List.pairwise_cons.1 hw.sep).1 _ (List.mem_cons_self ..)
  have h2 := ownsRow_of (B := base.heap.size) h0 (fun k hk => (hw.bd _ (List.mem_cons_self ..) k hk).1)
  rw [flat_gvc] at h2
  refine S_of_gridc h2 (fun p hp => ?_) hg hrow
  have hm : p.1 ∈ bs.map (·.1) := List.mem_map.2 ⟨p, hp, rfl⟩
  refine ⟨(hw.bd (.gridc 3 (Value.int .i64) bs M) (by simp) p.1 hm).1, fun e => ?_⟩
  rw [rowV_own] at e
  exact hsep p.1 e.symm hm
theorem S_of_rowgrid {base w : World} {R : List Res} {n c : Nat} {A : Option Nat} {bs : List Nat} {M : List (List Int)} (hw : Mem base w (.row 33 1 (sc (gv n)) A c bs :: .grid 3 (Value.int .i64) bs M :: R)) (hrow : ∀ row ∈ M, row.length = n) (hn : n ≤ 1000000000) :
    Kd.S (Kd.slice 3 (Kd.int .i64)) 33 w base.heap.size (fun _ => True) (rowV A bs.length c) M := by
  have h0 : RowOk 33 1 (sc (gv n)) A c bs w := hw.ok _ (List.mem_cons_self ..)
  obtain ⟨g1, g2, g3⟩ := hw.gridAt 1 rfl
  have hsep := (List.pairwise_cons.1 hw.sep).1 _ (List.mem_cons_self ..)
  have h2 := ownsRow_of (B := base.heap.size) h0 (fun k hk => (hw.bd _ (List.mem_cons_self ..) k hk).1)
  rw [flat_gv] at h2
  refine S_of_grid (inner := []) h2 (fun b hb => ⟨(hw.bd (.grid 3 (Value.int .i64) bs M) (by simp) b hb).1, fun e => ?_⟩) g1 g2 g3 hrow hn
  rw [rowV_own] at e
  exact hsep b e.symm hb

/-! ### contracts -/
theorem not_bad {n : Int} : ∀ (m : List S45) (s : Option (Ent × Int)), (m.foldl (foeStep n) s).isSome → ∀ x ∈ m, ¬ bad n x
  | [], _, _, x, h => by cases h
  | y :: m, s, hs, x, h => by
    rw [List.foldl_cons] at hs
    rcases List.mem_cons.1 h with rfl | h
    · intro hb
      cases s with
      | none => rw [show foeStep n none x = none from rfl, fold_none] at hs; cases hs
      | some s =>
        have : foeStep n (some s) x = none := by simp only [foeStep, Option.bind_some]; rw [if_pos hb]
        rw [this, fold_none] at hs; cases hs
    · exact not_bad m _ hs x h
theorem fine_of {n : Int} {m : List S45} (h : rightB n m = true) : Fine n.toNat m ∧ 2 ≤ n := by
  simp only [rightB, Bool.and_eq_true, decide_eq_true_eq] at h
  obtain ⟨_, h⟩ := h
  unfold foesF at h
  split at h
  · cases h
  · rename_i hn
    have hb := not_bad m _ h
    refine ⟨⟨by omega, by omega, fun x hx => ?_⟩, by omega⟩
    have := hb x hx
    unfold bad at this
    omega
def fastiref22_Foes.f (a0 : Int) (l1 : List (S45)) : Option ((List (List Int))) := if rightB a0 l1 = true then some (foesM a0.toNat l1) else none
theorem fastiref22_Foes.calls (a0 : Int) (A1 : Option Addr) (c1 : Nat) (l1 : List (S45)) (r : List (List Int)) (w : World) (hr1 : Kd.C k45 w A1 l1.length l1) (hc1 : l1.length ≤ c1) (h : fastiref22_Foes.f a0 l1 = some r) :
    Calls Try.prog 22 #[.int .i64 a0, .slice A1 l1.length c1] w fun e w' => ∃ v0_ : Value, e = .returned (v0_) ∧ Kd.S (Kd.slice 3 (Kd.int .i64)) 33 w' w.heap.size (fun _ => True) v0_ r ∧ Below w.heap.size w w' := by
  unfold fastiref22_Foes.f at h
  split at h
  · rename_i hb
    cases h
    obtain ⟨hf, hn⟩ := fine_of hb
    obtain ⟨N, rfl⟩ : ∃ N : Nat, a0 = N := ⟨a0.toNat, by omega⟩
    simp only [Int.toNat_natCast] at *
    have hl : l1.length ≤ 1280 := by simp only [rightB, Bool.and_eq_true, decide_eq_true_eq] at hb; exact hb.1
    refine (foesM_rets (Mem.start w) N A1 c1 l1 hr1 hc1 (by omega) hf).mono ?_
    rintro e w' ⟨u, rfl, Rs, ⟨bs, A', c', hbs, rfl, rfl⟩, hmem⟩
    refine ⟨_, rfl, ?_, hmem.below⟩
    have hrd := rnd_bd l1 (fun x hx => (hf.ok x hx).1) 0 (by omega) (by omega)
    have hrect := foes_rect (roundsF l1).toNat N l1 (fun x hx => by have := hrd.2.2.2 x hx; have := hf.ok x hx; unfold roundsF; omega) _ (Rect.rep _ N)
    have := S_of_rowgridc hmem hrect.2
    rw [hbs] at this
    exact this
  · cases h
def fastiref22_Matrix.f (a0 : Int) (l1 : List (S45)) : Option ((List (List Int)) × Int) := if l1.length ≤ 1000000 then some (if rightB a0 l1 = true then (cntM a0.toNat (pairsF (foesM a0.toNat l1) (roundsF l1).toNat a0.toNat), 0) else ([], 220)) else none
theorem fastiref22_Matrix.calls (a0 : Int) (A1 : Option Addr) (c1 : Nat) (l1 : List (S45)) (r1 : List (List Int)) (r2 : Int) (w : World) (hr1 : Kd.C k45 w A1 l1.length l1) (hc1 : l1.length ≤ c1) (h : fastiref22_Matrix.f a0 l1 = some (r1, r2)) :
    Calls Try.prog 12 #[.int .i64 a0, .slice A1 l1.length c1] w fun e w' => ∃ v0_ : Value, e = .returned (.tuple #[v0_, .int .i64 r2]) ∧ Kd.S (Kd.slice 3 (Kd.int .i64)) 33 w' w.heap.size (fun _ => True) v0_ r1 ∧ Below w.heap.size w w' := by
  unfold fastiref22_Matrix.f at h
  split at h
  · rename_i hm
    refine (refMat_rets a0 A1 c1 l1 w hr1 hc1 hm (fun hb => fine_of hb)).mono ?_
    rintro e w' ⟨u, rfl, Rs, hp, hmem⟩
    unfold refPost at hp
    cases hb : rightB a0 l1 with
    | false =>
      rw [hb] at hp h
      obtain ⟨rfl, rfl⟩ := hp
      cases h
      exact ⟨_, rfl, Kd.S_nil _ _ _ _ _, hmem.below⟩
    | true =>
      rw [hb] at hp h
      obtain ⟨bs, A', c', hbs, rfl, rfl⟩ := hp
      cases h
      have hf := (fine_of hb).1
      refine ⟨_, rfl, ?_, hmem.below⟩
      have := S_of_rowgrid hmem (cntM_row _ _) (by have := hf.n20; omega)
      rw [hbs] at this
      exact this
  · cases h
end Go.Proofs.Ytcjpghiceebkfaa.P
