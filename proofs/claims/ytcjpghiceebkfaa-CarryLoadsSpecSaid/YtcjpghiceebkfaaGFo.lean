/- fastiref22.Foes and Matrix: the contracts. -/
import Derived.Test.YtcjpghiceebkfaaGRef
namespace Go.Proofs.Ytcjpghiceebkfaa.P
open Go.RowKit Go.Proofs.YtcjpghiceebkfaaW.PrintWords Go.Proofs.YtcjpghiceebkfaaW.PrintLast Go.Proofs.YtcjpghiceebkfaaW.PrintMore
open XW RegInv
set_option linter.unusedSimpArgs false
set_option linter.unusedVariables false

theorem rowV_own {A : Option Nat} {k c : Nat} : (rowV A k c).ownBlock = A := by cases A <;> rfl
theorem S_of_rowgrid {base w : World} {R : List Res} {n c : Nat} {A : Option Nat} {bs : List Nat} {M : List (List Int)} (hw : Mem base w (.row 33 1 (sc (gv n)) A c bs :: .grid 3 (Value.int .i64) bs M :: R)) (hrow : ∀ row ∈ M, row.length = n) (hn : n ≤ 1000000000) :
    Kd.S (Kd.slice 3 (Kd.int .i64)) 33 w base.heap.size (fun _ => True) (rowV A bs.length c) M := by
  have h0 : RowOk 33 1 (sc (gv n)) A c bs w := hw.ok _ (List.mem_cons_self ..)
  obtain ⟨g1, g2, g3⟩ := hw.gridAt 1 rfl
  have hsep := (List.pairwise_cons.1 hw.sep).1 _ (List.mem_cons_self ..)
  have h2 := ownsRow_of (B := base.heap.size) h0 (fun k hk => (hw.bd _ (List.mem_cons_self ..) k hk).1)
  rw [flat_gv] at h2
  refine S_of_grid (inner := []) h2 (fun b hb => ⟨(hw.bd (.grid 3 (Value.int .i64) bs M) (by simp) b hb).1, fun e => ?_⟩) g1 g2 g3 hrow hn
  rw [rowV_own] at e
  exact hsep b e.symm hb

/-! ### contracts -/
theorem not_bad {n : Int} : ∀ (m : List S45) (s : Option (Ent × Int)), (m.foldl (foeStep n) s).isSome → ∀ x ∈ m, ¬ bad n x
  | [], _, _, x, h => by cases h
  | y :: m, s, hs, x, h => by
    rw [List.foldl_cons] at hs
    rcases List.mem_cons.1 h with rfl | h
    · intro hb
      cases s with
      | none => rw [show foeStep n none x = none from rfl, fold_none] at hs; cases hs
      | some s =>
        have : foeStep n (some s) x = none := by simp only [foeStep, Option.bind_some]; rw [if_pos hb]
        rw [this, fold_none] at hs; cases hs
    · exact not_bad m _ hs x h
theorem fine_of {n : Int} {m : List S45} (h : rightB n m = true) : Fine n.toNat m ∧ 2 ≤ n := by
  simp only [rightB, Bool.and_eq_true, decide_eq_true_eq] at h
  obtain ⟨_, h⟩ := h
  unfold foesF at h
  split at h
  · cases h
  · rename_i hn
    have hb := not_bad m _ h
    refine ⟨⟨by omega, by omega, fun x hx => ?_⟩, by omega⟩
    have := hb x hx
    unfold bad at this
    omega
def fastiref22_Matrix.f (a0 : Int) (l1 : List (S45)) : Option ((List (List Int)) × Int) := if l1.length ≤ 1000000 then some (if rightB a0 l1 = true then (cntM a0.toNat (pairsF (foesM a0.toNat l1) (roundsF l1).toNat a0.toNat), 0) else ([], 220)) else none
theorem fastiref22_Matrix.calls (a0 : Int) (A1 : Option Addr) (c1 : Nat) (l1 : List (S45)) (r1 : List (List Int)) (r2 : Int) (w : World) (hr1 : Kd.C k45 w A1 l1.length l1) (hc1 : l1.length ≤ c1) (h : fastiref22_Matrix.f a0 l1 = some (r1, r2)) :
    Calls Try.prog 12 #[.int .i64 a0, .slice A1 l1.length c1] w fun e w' => ∃ v0_ : Value, e = .returned (.tuple #[v0_, .int .i64 r2]) ∧ Kd.S (Kd.slice 3 (Kd.int .i64)) 33 w' w.heap.size (fun _ => True) v0_ r1 ∧ Below w.heap.size w w' := by
  unfold fastiref22_Matrix.f at h
  split at h
  · rename_i hm
    refine (refMat_rets a0 A1 c1 l1 w hr1 hc1 hm (fun hb => fine_of hb)).mono ?_
    rintro e w' ⟨u, rfl, Rs, hp, hmem⟩
    unfold refPost at hp
    cases hb : rightB a0 l1 with
    | false =>
      rw [hb] at hp h
      obtain ⟨rfl, rfl⟩ := hp
      cases h
      exact ⟨_, rfl, Kd.S_nil _ _ _ _ _, hmem.below⟩
    | true =>
      rw [hb] at hp h
      obtain ⟨bs, A', c', hbs, rfl, rfl⟩ := hp
      cases h
      have hf := (fine_of hb).1
      refine ⟨_, rfl, ?_, hmem.below⟩
      have := S_of_rowgrid hmem (cntM_row _ _) (by have := hf.n20; omega)
      rw [hbs] at this
      exact this
  · cases h
end Go.Proofs.Ytcjpghiceebkfaa.P
