import Derived.Test.YtecgklfcblpkdaaOfW
import Derived.Test.YtecgklfcblpkdaaRightP
import Derived.Test.YtecgklfcblpkdaaWApart
/- The reference's Of: walk. -/
namespace Go.Proofs.Ytecgklfcblpkdaa.P
open Go.RowKit Go.Proofs.YtecgklfcblpkdaaW.PrintWords Go.Proofs.YtecgklfcblpkdaaW.PrintLast Go.Proofs.YtecgklfcblpkdaaW.PrintMore
open XW RegInv
attribute [local irreducible] Addr.add
set_option linter.unusedSimpArgs false
set_option linter.unusedVariables false

end Go.Proofs.Ytecgklfcblpkdaa.P

/- The patterns: contracts of Of, the program's and the reference's. -/
namespace Go.Proofs.Ytecgklfcblpkdaa.P
open Go.RowKit Go.Proofs.YtecgklfcblpkdaaW.PrintWords Go.Proofs.YtecgklfcblpkdaaW.PrintLast Go.Proofs.YtecgklfcblpkdaaW.PrintMore
open XW
set_option linter.unusedSimpArgs false
set_option linter.unusedVariables false

theorem flat_gv (n : Nat) (bs : List Nat) : bs.flatMap (sc (gv n)) = bs.map (gv n) := by
  induction bs with
  | nil => rfl
  | cons b bs ih => simp [sc] at ih ⊢; exact ih
theorem flat_int (l : List Int) : l.flatMap (sc (Value.int .i64)) = encs (Value.int .i64) l := by
  induction l with
  | nil => rfl
  | cons b bs ih => simp [sc, encs] at ih ⊢; exact ih
theorem S_of_grid {base w : World} {n : Nat} {bs : List Nat} {M : List (List Int)} {v : Value} {inner : List Value} (hown : w.ownsRow base.heap.size 29 1 v bs.length (bs.map (gv n))) (hbs : ∀ b ∈ bs, base.heap.size ≤ b ∧ some b ≠ v.ownBlock)
    (g1 : bs.Nodup) (g2 : bs.length = M.length) (g3 : ∀ (i b : Nat) (row : List Int), bs[i]? = some b → M[i]? = some row → w.heap[b]? = some (.cells (buf (sc (Value.int .i64)) row []) 3 (0, 0))) (hrow : ∀ row ∈ M, row.length = n) (hn : n ≤ 1000000000) :
    Kd.S (Kd.slice 3 (Kd.int .i64)) 29 w base.heap.size (fun _ => True) v M := by
  refine ⟨fun b => bs.idxOf b, fun _ _ => trivial, bs.map (gv n), ?_, ?_, ?_⟩
  · rw [List.length_zipIdx, ← g2]; exact hown
  · rw [List.length_map, List.length_zipIdx, g2, show (Kd.tag (fun b => bs.idxOf b) (Kd.slice 3 (Kd.int IntKind.i64))).sz = 1 from rfl, Nat.mul_one]
  · intro j p hj
    rw [List.getElem?_zipIdx] at hj
    obtain ⟨row, hrowj, rfl⟩ := Option.map_eq_some_iff.1 hj
    obtain ⟨hl, hr⟩ := List.getElem?_eq_some_iff.1 hrowj
    have hbl : j < bs.length := by omega
    have hb : bs[j]? = some bs[j] := List.getElem?_eq_getElem hbl
    have hh := g3 j _ row hb hrowj
    have hbm : bs[j] ∈ bs := List.getElem_mem hbl
    have hlen := hrow row (List.mem_of_getElem? hrowj)
    refine ⟨gv n bs[j], ?_, ?_⟩
    · rw [show (Kd.tag (fun b => bs.idxOf b) (Kd.slice 3 (Kd.int IntKind.i64))).sz = 1 from rfl, Nat.mul_one, List.drop_eq_getElem_cons (by simpa using hbl)]
      simp
    · refine Kd.R_of_own ?_ ?_
      · have : RowOk 3 1 (sc (Value.int .i64)) (some bs[j]) n row w := ⟨sc_len _, by omega, Nat.le_trans hn (by decide), [], hh, by simp [hlen]⟩
        have h2 := ownsRow_of (B := base.heap.size) this (fun k hk => by cases hk; exact (hbs _ hbm).1)
        rw [flat_int] at h2
        have e : rowV (some bs[j]) row.length n = gv n bs[j] := by simp [rowV, gv, hlen]
        rw [e] at h2
        exact h2
      · intro k hk
        have : k = bs[j] := by simpa [gv, Value.ownBlock] using hk.symm
        subst this
        refine ⟨⟨trivial, (hbs _ hbm).2⟩, ?_⟩
        have := g1.idxOf_getElem j hbl
        simpa using this
theorem rowV_own {A : Option Nat} {k c : Nat} : (rowV A k c).ownBlock = A := by cases A <;> rfl
theorem S_of_rowgrid {base w : World} {R : List Res} {n c : Nat} {A : Option Nat} {bs : List Nat} {M : List (List Int)} (hw : Mem base w (.row 29 1 (sc (gv n)) A c bs :: .grid 3 (Value.int .i64) bs M :: R)) (hrow : ∀ row ∈ M, row.length = n) (hn : n ≤ 1000000000) :
    Kd.S (Kd.slice 3 (Kd.int .i64)) 29 w base.heap.size (fun _ => True) (rowV A bs.length c) M := by
  have h0 : RowOk 29 1 (sc (gv n)) A c bs w := hw.ok _ (List.mem_cons_self ..)
  obtain ⟨g1, g2, g3⟩ := hw.gridAt 1 rfl
  have hsep := (List.pairwise_cons.1 hw.sep).1 _ (List.mem_cons_self ..)
  have h2 := ownsRow_of (B := base.heap.size) h0 (fun k hk => (hw.bd _ (List.mem_cons_self ..) k hk).1)
  rw [flat_gv] at h2
  refine S_of_grid (inner := []) h2 (fun b hb => ⟨(hw.bd (.grid 3 (Value.int .i64) bs M) (by simp) b hb).1, fun e => ?_⟩) g1 g2 g3 hrow hn
  rw [rowV_own] at e
  exact hsep b e.symm hb


theorem patM_rect {N : Nat} (hN : N ≤ 20) {m : List S44} (h : okM N m) : Rect (lastR m + 1).toNat N (patM N m) := by
  have key : ∀ (l : List S44) (M : List (List Int)), (∀ x ∈ l, ¬ bad N x) → Rect (lastR m + 1).toNat N M → Rect (lastR m + 1).toNat N (l.foldl setP M) := by
    intro l
    induction l with
    | nil => intro M _ hM; exact hM
    | cons x l ih =>
      intro M hb hM
      have hx := hb x (by simp)
      unfold bad at hx
      exact ih _ (fun y hy => hb y (by simp [hy])) (hM.pat (by omega) (by omega))
  exact key m _ h.1 (Rect.rep _ _)
theorem lastR_bd {n : Int} {m : List S44} (h : okM n m) : -1 ≤ lastR m ∧ lastR m < 64 := (last_bd m (fun x hx => by have := h.1 x hx; unfold bad at this; omega) (-1) (by omega) (by omega)).1
theorem of_mono {n : Int} {m : List S44} {r1 : List (List Int)} {r2 : Int} {w w' : World} {u : Value} {Rs : List Res} (h : ofF n m = (r1, r2)) (hp : ofPost n m u Rs) (hmem : Mem w w' Rs) :
    ∃ v0_ : Value, u = .tuple #[v0_, .int .i64 r2] ∧ Kd.S (Kd.slice 3 (Kd.int .i64)) 29 w' w.heap.size (fun _ => True) v0_ r1 ∧ Below w.heap.size w w' := by
  unfold ofPost at hp
  unfold ofF at h
  by_cases h1 : n < 2 ∨ n > 20
  · rw [if_pos h1] at hp h
    obtain ⟨rfl, rfl⟩ := hp
    cases h
    exact ⟨_, rfl, Kd.S_nil _ _ _ _ _, hmem.below⟩
  · rw [if_neg h1] at hp h
    by_cases h2 : okM n m
    · rw [if_pos h2] at hp h
      obtain ⟨bs, A, c, hbs, rfl, rfl⟩ := hp
      cases h
      obtain ⟨N, rfl⟩ : ∃ N : Nat, n = N := ⟨n.toNat, by omega⟩
      rw [Int.toNat_natCast] at *
      have hR := patM_rect (by omega) h2
      have hb := lastR_bd h2
      refine ⟨_, rfl, ?_, hmem.below⟩
      have := S_of_rowgrid hmem hR.2 (by omega)
      rw [hbs] at this
      exact this
    · rw [if_neg h2] at hp h
      obtain ⟨rfl, rfl⟩ := hp
      cases h
      exact ⟨_, rfl, Kd.S_nil _ _ _ _ _, hmem.below⟩
def patterns_Of.f (a0 : Int) (l1 : List (S44)) : Option ((List (List Int)) × Int) := some (ofF a0 l1)
theorem patterns_Of.calls (a0 : Int) (A1 : Option Addr) (c1 : Nat) (l1 : List (S44)) (r1 : List (List Int)) (r2 : Int) (w : World) (hr1 : Kd.C k44 w A1 l1.length l1) (hc1 : l1.length ≤ c1) (h : patterns_Of.f a0 l1 = some (r1, r2)) :
    Calls Try.prog 12 #[.int .i64 a0, .slice A1 l1.length c1] w fun e w' => ∃ v0_ : Value, e = .returned (.tuple #[v0_, .int .i64 r2]) ∧ Kd.S (Kd.slice 3 (Kd.int .i64)) 29 w' w.heap.size (fun _ => True) v0_ r1 ∧ Below w.heap.size w w' := by
  refine (of_rets a0 A1 c1 l1 w hr1 hc1 hr1.2.1).mono ?_
  rintro e w' ⟨u, rfl, Rs, hp, hmem⟩
  obtain ⟨v0, rfl, h2⟩ := of_mono (Option.some.inj h) hp hmem
  exact ⟨v0, rfl, h2⟩
end Go.Proofs.Ytecgklfcblpkdaa.P
