import Derived.Test.YtecgklfcblpkdaaP4
import Derived.Test.YtecgklfcblpkdaaVioW
import Derived.Test.YtecgklfcblpkdaaWApart
import Derived.Test.YtecgklfcblpkdaaP2
import Derived.Test.YtecgklfcblpkdaaXStr
/- Right, plain. -/
namespace Go.Proofs.Ytecgklfcblpkdaa.P
open Go.RowKit Go.Proofs.YtecgklfcblpkdaaW.PrintWords Go.Proofs.YtecgklfcblpkdaaW.PrintLast Go.Proofs.YtecgklfcblpkdaaW.PrintMore
open XW
set_option linter.unusedSimpArgs false
set_option linter.unusedVariables false
theorem leO_le {α : Type} {f : Nat → Option α} (h : ∀ k, LeO (f k) (f (k + 1))) {k k' : Nat} (hk : k ≤ k') : LeO (f k) (f k') := by
  induction hk with
  | refl => exact LeO.refl _
  | step _ ih => exact fun r hr => h _ _ (ih _ hr)
theorem mem_ks {l : List S44} {k : Int × Int} : k ∈ ks l ↔ ∃ y ∈ l, k = (y.f1, y.f0) ∨ k = (y.f2, y.f0) := by
  simp [ks, key2, List.mem_flatMap]
theorem ks_len (m : List S44) : (ks m).length = 2 * m.length := by
  induction m with
  | nil => rfl
  | cons x m ih => rw [show ks (x :: m) = key2 x ++ ks m from rfl, List.length_append, ih, List.length_cons]; simp [key2]; omega
end Go.Proofs.Ytecgklfcblpkdaa.P

/- The reference's Of: walk. -/
namespace Go.Proofs.Ytecgklfcblpkdaa.P
open Go.RowKit Go.Proofs.YtecgklfcblpkdaaW.PrintWords Go.Proofs.YtecgklfcblpkdaaW.PrintLast Go.Proofs.YtecgklfcblpkdaaW.PrintMore
open XW RegInv
attribute [local irreducible] Addr.add
set_option linter.unusedSimpArgs false
set_option linter.unusedVariables false

end Go.Proofs.Ytecgklfcblpkdaa.P

/- The patterns: contracts of Of, the program's and the reference's. -/
namespace Go.Proofs.Ytecgklfcblpkdaa.P
open Go.RowKit Go.Proofs.YtecgklfcblpkdaaW.PrintWords Go.Proofs.YtecgklfcblpkdaaW.PrintLast Go.Proofs.YtecgklfcblpkdaaW.PrintMore
open XW
set_option linter.unusedSimpArgs false
set_option linter.unusedVariables false
theorem flat_gv (n : Nat) (bs : List Nat) : bs.flatMap (sc (gv n)) = bs.map (gv n) := by
  induction bs with
  | nil => rfl
  | cons b bs ih => simp [sc] at ih ⊢; exact ih
theorem flat_int (l : List Int) : l.flatMap (sc (Value.int .i64)) = encs (Value.int .i64) l := by
  induction l with
  | nil => rfl
  | cons b bs ih => simp [sc, encs] at ih ⊢; exact ih
theorem S_of_grid {base w : World} {n : Nat} {bs : List Nat} {M : List (List Int)} {v : Value} {inner : List Value} (hown : w.ownsRow base.heap.size 29 1 v bs.length (bs.map (gv n))) (hbs : ∀ b ∈ bs, base.heap.size ≤ b ∧ some b ≠ v.ownBlock)
    (g1 : bs.Nodup) (g2 : bs.length = M.length) (g3 : ∀ (i b : Nat) (row : List Int), bs[i]? = some b → M[i]? = some row → w.heap[b]? = some (.cells (buf (sc (Value.int .i64)) row []) 3 (0, 0))) (hrow : ∀ row ∈ M, row.length = n) (hn : n ≤ 1000000000) :
    Kd.S (Kd.slice 3 (Kd.int .i64)) 29 w base.heap.size (fun _ => True) v M := by
  refine ⟨fun b => bs.idxOf b, fun _ _ => trivial, bs.map (gv n), ?_, ?_, ?_⟩
  · rw [List.length_zipIdx, ← g2]; exact hown
  · rw [List.length_map, List.length_zipIdx, g2, show (Kd.tag (fun b => bs.idxOf b) (Kd.slice 3 (Kd.int IntKind.i64))).sz = 1 from rfl, Nat.mul_one]
  · intro j p hj
    rw [List.getElem?_zipIdx] at hj
    obtain ⟨row, hrowj, rfl⟩ := Option.map_eq_some_iff.1 hj
    obtain ⟨hl, hr⟩ := List.getElem?_eq_some_iff.1 hrowj
    have hbl : j < bs.length := by omega
    have hb : bs[j]? = some bs[j] := List.getElem?_eq_getElem hbl
    have hh := g3 j _ row hb hrowj
    have hbm : bs[j] ∈ bs := List.getElem_mem hbl
    have hlen := hrow row (List.mem_of_getElem? hrowj)
    refine ⟨gv n bs[j], ?_, ?_⟩
    · rw [show (Kd.tag (fun b => bs.idxOf b) (Kd.slice 3 (Kd.int IntKind.i64))).sz = 1 from rfl, Nat.mul_one, List.drop_eq_getElem_cons (by simpa using hbl)]
      simp
    · refine Kd.R_of_own ?_ ?_
      · have : RowOk 3 1 (sc (Value.int .i64)) (some bs[j]) n row w := ⟨sc_len _, by omega, Nat.le_trans hn (by decide), [], hh, by simp [hlen]⟩
        have h2 := ownsRow_of (B := base.heap.size) this (fun k hk => by cases hk; exact (hbs _ hbm).1)
        rw [flat_int] at h2
        have e : rowV (some bs[j]) row.length n = gv n bs[j] := by simp [rowV, gv, hlen]
        rw [e] at h2
        exact h2
      · intro k hk
        have : k = bs[j] := by simpa [gv, Value.ownBlock] using hk.symm
        subst this
        refine ⟨⟨trivial, (hbs _ hbm).2⟩, ?_⟩
        have := g1.idxOf_getElem j hbl
        simpa using this
theorem rowV_own {A : Option Nat} {k c : Nat} : (rowV A k c).ownBlock = A := by cases A <;> rfl
theorem S_of_rowgrid {base w : World} {R : List Res} {n c : Nat} {A : Option Nat} {bs : List Nat} {M : List (List Int)} (hw : Mem base w (.row 29 1 (sc (gv n)) A c bs :: .grid 3 (Value.int .i64) bs M :: R)) (hrow : ∀ row ∈ M, row.length = n) (hn : n ≤ 1000000000) :
    Kd.S (Kd.slice 3 (Kd.int .i64)) 29 w base.heap.size (fun _ => True) (rowV A bs.length c) M := by
  have h0 : RowOk 29 1 (sc (gv n)) A c bs w := hw.ok _ (List.mem_cons_self ..)
  obtain ⟨g1, g2, g3⟩ := hw.gridAt 1 rfl
  have hsep := (List.pairwise_cons.1 hw.sep).1 _ (List.mem_cons_self ..)
  have h2 := ownsRow_of (B := base.heap.size) h0 (fun k hk => (hw.bd _ (List.mem_cons_self ..) k hk).1)
  rw [flat_gv] at h2
  refine S_of_grid (inner := []) h2 (fun b hb => ⟨(hw.bd (.grid 3 (Value.int .i64) bs M) (by simp) b hb).1, fun e => ?_⟩) g1 g2 g3 hrow hn
  rw [rowV_own] at e
  exact hsep b e.symm hb
theorem patM_rect {N : Nat} (hN : N ≤ 20) {m : List S44} (h : okM N m) : Rect (lastR m + 1).toNat N (patM N m) := by
  have key : ∀ (l : List S44) (M : List (List Int)), (∀ x ∈ l, ¬ bad N x) → Rect (lastR m + 1).toNat N M → Rect (lastR m + 1).toNat N (l.foldl setP M) := by
    intro l
    induction l with
    | nil => intro M _ hM; exact hM
    | cons x l ih =>
      intro M hb hM
      have hx := hb x (by simp)
      unfold bad at hx
      exact ih _ (fun y hy => hb y (by simp [hy])) (hM.pat (by omega) (by omega))
  exact key m _ h.1 (Rect.rep _ _)
theorem lastR_bd {n : Int} {m : List S44} (h : okM n m) : -1 ≤ lastR m ∧ lastR m < 64 := (last_bd m (fun x hx => by have := h.1 x hx; unfold bad at this; omega) (-1) (by omega) (by omega)).1
theorem of_mono {n : Int} {m : List S44} {r1 : List (List Int)} {r2 : Int} {w w' : World} {u : Value} {Rs : List Res} (h : ofF n m = (r1, r2)) (hp : ofPost n m u Rs) (hmem : Mem w w' Rs) :
    ∃ v0_ : Value, u = .tuple #[v0_, .int .i64 r2] ∧ Kd.S (Kd.slice 3 (Kd.int .i64)) 29 w' w.heap.size (fun _ => True) v0_ r1 ∧ Below w.heap.size w w' := by
  unfold ofPost at hp
  unfold ofF at h
  by_cases h1 : n < 2 ∨ n > 20
  · rw [if_pos h1] at hp h
    obtain ⟨rfl, rfl⟩ := hp
    cases h
    exact ⟨_, rfl, Kd.S_nil _ _ _ _ _, hmem.below⟩
  · rw [if_neg h1] at hp h
    by_cases h2 : okM n m
    · rw [if_pos h2] at hp h
      obtain ⟨bs, A, c, hbs, rfl, rfl⟩ := hp
      cases h
      obtain ⟨N, rfl⟩ : ∃ N : Nat, n = N := ⟨n.toNat, by omega⟩
      rw [Int.toNat_natCast] at *
      have hR := patM_rect (by omega) h2
      have hb := lastR_bd h2
      refine ⟨_, rfl, ?_, hmem.below⟩
      have := S_of_rowgrid hmem hR.2 (by omega)
      rw [hbs] at this
      exact this
    · rw [if_neg h2] at hp h
      obtain ⟨rfl, rfl⟩ := hp
      cases h
      exact ⟨_, rfl, Kd.S_nil _ _ _ _ _, hmem.below⟩
def patterns_Of.f (a0 : Int) (l1 : List (S44)) : Option ((List (List Int)) × Int) := some (ofF a0 l1)
theorem patterns_Of.calls (a0 : Int) (A1 : Option Addr) (c1 : Nat) (l1 : List (S44)) (r1 : List (List Int)) (r2 : Int) (w : World) (hr1 : Kd.C k44 w A1 l1.length l1) (hc1 : l1.length ≤ c1) (h : patterns_Of.f a0 l1 = some (r1, r2)) :
    Calls Try.prog 12 #[.int .i64 a0, .slice A1 l1.length c1] w fun e w' => ∃ v0_ : Value, e = .returned (.tuple #[v0_, .int .i64 r2]) ∧ Kd.S (Kd.slice 3 (Kd.int .i64)) 29 w' w.heap.size (fun _ => True) v0_ r1 ∧ Below w.heap.size w w' := by
  refine (of_rets a0 A1 c1 l1 w hr1 hc1 hr1.2.1).mono ?_
  rintro e w' ⟨u, rfl, Rs, hp, hmem⟩
  obtain ⟨v0, rfl, h2⟩ := of_mono (Option.some.inj h) hp hmem
  exact ⟨v0, rfl, h2⟩
end Go.Proofs.Ytecgklfcblpkdaa.P

/- Violates: contract. -/
namespace Go.Proofs.Ytecgklfcblpkdaa.P
open Go.RowKit Go.Proofs.YtecgklfcblpkdaaW.PrintWords Go.Proofs.YtecgklfcblpkdaaW.PrintLast Go.Proofs.YtecgklfcblpkdaaW.PrintMore
open XW
set_option linter.unusedSimpArgs false
set_option linter.unusedVariables false
def patterns_Violates.f (l0 : List (List Int)) : Option (List Int × Bool × Int) := some (vioF l0)
theorem R_of_row {w w' : World} {A : Option Nat} {c : Nat} {l : List Int} (hmem : Mem w w' [.row 3 1 (sc (Value.int .i64)) A c l]) : Kd.R (Kd.int .i64) 3 w' w.heap.size (fun _ => True) (rowV A l.length c) l := by
  have h0 : RowOk 3 1 (sc (Value.int .i64)) A c l w' := hmem.ok _ (List.mem_cons_self ..)
  have h2 := ownsRow_of (B := w.heap.size) h0 (fun k hk => (hmem.bd _ (List.mem_cons_self ..) k hk).1)
  rw [flat_int] at h2
  exact Kd.R_of_own h2 (fun _ _ => trivial)
theorem patterns_Violates.calls (A0 : Option Addr) (c0 : Nat) (l0 : List (List Int)) (r1 : List Int) (r2 : Bool) (r3 : Int) (w : World) (hr0 : Kd.C (Kd.slice 3 (Kd.int .i64)) w A0 l0.length l0) (hc0 : l0.length ≤ c0) (h : patterns_Violates.f l0 = some (r1, r2, r3)) :
    Calls Try.prog 20 #[.slice A0 l0.length c0] w fun e w' => ∃ v0_ : Value, e = .returned (.tuple #[v0_, .bool r2, .int .i64 r3]) ∧ Kd.R (Kd.int .i64) 3 w' w.heap.size (fun _ => True) v0_ r1 ∧ Below w.heap.size w w' := by
  have hv : vioF l0 = (r1, r2, r3) := Option.some.inj h
  refine (vio_rets A0 c0 l0 w hr0 hc0).mono ?_
  rintro e w' ⟨u, rfl, Rs, hp, hmem⟩
  unfold vioPost at hp
  rw [hv] at hp
  obtain ⟨A, c, rfl, rfl⟩ := hp
  exact ⟨_, rfl, R_of_row hmem, hmem.below⟩
end Go.Proofs.Ytecgklfcblpkdaa.P

/- Own memory, as callees read it. -/
namespace Go.Proofs.Ytecgklfcblpkdaa.P
open Go.RowKit Go.Proofs.YtecgklfcblpkdaaW.PrintWords Go.Proofs.YtecgklfcblpkdaaW.PrintLast Go.Proofs.YtecgklfcblpkdaaW.PrintMore
open XW
set_option linter.unusedSimpArgs false
set_option linter.unusedVariables false
theorem reps44 (w : World) (base : Nat) (ok : Nat → Prop) : ∀ xs : List S44, Reps (k44.M w base ok) 3 xs (xs.flatMap enc44) := by
  intro xs
  refine ⟨by rw [len_flat (enc := enc44) (sz := 3) (fun _ => rfl)], fun j p hj => ?_⟩
  have : ((xs.flatMap enc44).drop (j * 3)).take 3 = enc44 p := by
    induction xs generalizing j with
    | nil => simp at hj
    | cons x xs ih =>
      cases j with
      | zero => simp at hj; subst hj; rfl
      | succ j =>
        have := ih j (by simpa using hj)
        rw [List.flatMap_cons, show (j + 1) * 3 = (enc44 x).length + j * 3 by rw [show (enc44 x).length = 3 from rfl]; omega, ← List.drop_drop, List.drop_left]
        exact this
  rw [this]
  exact k44_mkM w base ok p
theorem C44_nil (w : World) : Kd.C k44 w none ([] : List S44).length [] := ⟨rfl, by decide, fun h => absurd h (by decide)⟩
theorem C44_obj {base w : World} {R : List Res} {b i : Nat} (l : List S44) (hw : Mem base w R) (hi : R[i]? = some (.obj b (.cells (buf enc44 l []) 44 (0, 0)))) (hl : l.length ≤ 1000) : Kd.C k44 w (some ⟨b, 0, none⟩) l.length l := by
  have h0 : RowOk 44 3 enc44 (some b) l.length l w := ⟨fun _ => rfl, Nat.le_refl _, Nat.le_trans hl (by decide), [], hw.at_ i hi, by simp⟩
  have h2 := ownsRow_of (B := 0) h0 (fun k _ => Nat.zero_le _)
  have h3 : Kd.R k44 44 w 0 (fun _ => True) (rowV (some b) l.length l.length) l := ⟨fun _ _ => trivial, _, h2, reps44 _ _ _ _⟩
  exact (Kd.R_reads' h3).2.2
theorem CI_obj {base w : World} {R : List Res} {b i : Nat} (l : List Int) (hw : Mem base w R) (hi : R[i]? = some (.obj b (.cells (buf (sc (Value.int .i64)) l []) 3 (0, 0)))) (hl : l.length ≤ 1000) : Kd.C (Kd.int .i64) w (some ⟨b, 0, none⟩) l.length l := by
  have h0 : RowOk 3 1 (sc (Value.int .i64)) (some b) l.length l w := ⟨sc_len _, Nat.le_refl _, Nat.le_trans hl (by decide), [], hw.at_ i hi, by simp⟩
  have h2 := ownsRow_of (B := 0) h0 (fun k _ => Nat.zero_le _)
  rw [flat_int] at h2
  exact (Kd.R_reads' (Kd.R_of_own h2 (fun _ _ => trivial))).2.2
theorem CI_row {base w : World} {R : List Res} {A : Option Nat} {c i : Nat} {l : List Int} (hw : Mem base w R) (hi : R[i]? = some (.row 3 1 (sc (Value.int .i64)) A c l)) : Kd.C (Kd.int .i64) w (A.map fun b => ⟨b, 0, none⟩) l.length l ∧ l.length ≤ c := by
  have h0 : RowOk 3 1 (sc (Value.int .i64)) A c l w := hw.ok _ (List.mem_of_getElem? hi)
  have h2 := ownsRow_of (B := 0) h0 (fun k _ => Nat.zero_le _)
  rw [flat_int] at h2
  exact ⟨(Kd.R_reads' (Kd.R_of_own h2 (fun _ _ => trivial))).2.2, h0.2.1⟩
theorem CL_obj {base w : World} {R : List Res} {b i : Nat} (bl : List (Nat × List Int)) (hw : Mem base w R) (hi : R[i]? = some (.obj b (.cells (buf (sc fun p : Nat × List Int => Value.slice (some ⟨p.1, 0, none⟩) p.2.length p.2.length) bl []) 29 (0, 0))))
    (hin : ∀ p ∈ bl, Kd.C (Kd.int .i64) w (some ⟨p.1, 0, none⟩) p.2.length p.2) (hl : bl.length ≤ 1000) : Kd.C (Kd.slice 3 (Kd.int .i64)) w (some ⟨b, 0, none⟩) bl.length (bl.map (·.2)) := by
  have h0 := hw.at_ i hi
  refine ⟨by simp, Nat.le_trans hl (by decide), fun _ => ⟨_, rfl, fun j p hj => ?_⟩⟩
  rw [List.getElem?_map] at hj
  obtain ⟨q, hq, rfl⟩ := Option.map_eq_some_iff.1 hj
  obtain ⟨hjl, hq'⟩ := List.getElem?_eq_some_iff.1 hq
  have hc := buf_get1 (junk := []) (l := bl) (fun p : Nat × List Int => Value.slice (some ⟨p.1, 0, none⟩) p.2.length p.2.length) (0, []) hjl
  have hqd : bl.getD j (0, []) = q := by rw [List.getD_eq_getElem?_getD, hq]; rfl
  rw [hqd] at hc
  refine ⟨[.slice (some ⟨q.1, 0, none⟩) q.2.length q.2.length], rfl, ⟨_, _, rfl, Nat.le_refl _, hin q (List.mem_of_getElem? hq)⟩, fun s u hs => ?_⟩
  cases s with
  | zero =>
    cases hs
    rw [show (Kd.slice 3 (Kd.int IntKind.i64)).sz = 1 from rfl, Nat.mul_one, Nat.add_zero, XW.add_plain, Nat.zero_add]
    exact cell_of h0 hc
  | succ s => simp at hs
end Go.Proofs.Ytecgklfcblpkdaa.P

/- The sanity examples: the walk. -/
namespace Go.Proofs.Ytecgklfcblpkdaa.P
open Go.RowKit Go.Proofs.YtecgklfcblpkdaaW.PrintWords Go.Proofs.YtecgklfcblpkdaaW.PrintLast Go.Proofs.YtecgklfcblpkdaaW.PrintMore
open XW
attribute [local irreducible] Addr.add
set_option linter.unusedSimpArgs false
set_option linter.unusedVariables false

theorem E12 : Enters Try.prog 12 := enters Try.func12 (by kernel_rfl) rfl
theorem E14 : Enters Try.prog 14 := enters Try.func14 (by kernel_rfl) rfl
theorem E16 : Enters Try.prog 16 := enters Try.func16 (by kernel_rfl) rfl
theorem E17 : Enters Try.prog 17 := enters Try.func17 (by kernel_rfl) rfl
theorem E18 : Enters Try.prog 18 := enters Try.func18 (by kernel_rfl) rfl
theorem E20 : Enters Try.prog 20 := enters Try.func20 (by kernel_rfl) rfl
instance tb44 : TB Try.prog 44 := ⟨[(0, 1), (1, 1), (2, 1)], by
  obtain ⟨i, h1, h2, _⟩ := inf3
  exact ⟨_, Try.underlying44, fun W => by simp [Go.sizeOf, typeInfo, program, h1, h2, Sem.run_bind, Sem.run, Result.andThen]⟩⟩
abbrev KL := Kd.slice 3 (Kd.int .i64)
abbrev KI := Kd.int .i64
def lsl (p : Nat × List Int) : Value := .slice (some ⟨p.1, 0, none⟩) p.2.length p.2.length
theorem of_lit {w : World} {n : Int} {A : Option Addr} {c : Nat} {m : List S44} (hC : Kd.C k44 w A m.length m) (hc : m.length ≤ c) (hm : m.length ≤ 1000) (p : List (List Int)) (e : Int) (h : ofF n m = (p, e)) :
    Rets Try.prog 12 #[.int .i64 n, .slice A m.length c] w fun u w' => (∃ A' c', u = .tuple #[.slice A' p.length c', .int .i64 e] ∧ p.length ≤ c' ∧ Kd.C KL w' A' p.length p) ∧ Below w.heap.size w w' := by
  refine (patterns_Of.calls n A c m p e w hC hc (by rw [patterns_Of.f, h])).mono ?_
  rintro _ w' ⟨v, rfl, hS, hb⟩
  obtain ⟨A', c', rfl, hl, hC'⟩ := Kd.S_reads hS
  exact ⟨_, rfl, ⟨A', c', rfl, hl, hC'⟩, hb⟩
theorem br_lit {w : World} {A : Option Addr} {c : Nat} {p : List (List Int)} (hC : Kd.C KL w A p.length p) (hc : p.length ≤ c) (b : List Int) (e : Int) (k : Nat) (h : patterns_Breaks.f k p = some (b, e)) :
    Rets Try.prog 14 #[.slice A p.length c] w fun u w' => (∃ A' c', u = .tuple #[.slice A' b.length c', .int .i64 e] ∧ b.length ≤ c' ∧ Kd.C KI w' A' b.length b) ∧ Below w.heap.size w w' := by
  refine (patterns_Breaks.calls k A c p b e w hC hc h).mono ?_
  rintro _ w' ⟨v, rfl, hS, hb⟩
  obtain ⟨A', c', rfl, hl, hC'⟩ := Kd.R_reads hS
  exact ⟨_, rfl, ⟨A', c', rfl, hl, hC'⟩, hb⟩
theorem vio_lit {w : World} {A : Option Addr} {c : Nat} {p : List (List Int)} (hC : Kd.C KL w A p.length p) (hc : p.length ≤ c) (b : List Int) (ok : Bool) (e : Int) (h : vioF p = (b, ok, e)) :
    Rets Try.prog 20 #[.slice A p.length c] w fun u w' => (∃ A' c', u = .tuple #[.slice A' b.length c', .bool ok, .int .i64 e] ∧ b.length ≤ c' ∧ Kd.C KI w' A' b.length b) ∧ Below w.heap.size w w' := by
  refine (patterns_Violates.calls A c p b ok e w hC hc (by rw [patterns_Violates.f, h])).mono ?_
  rintro _ w' ⟨v, rfl, hS, hb⟩
  obtain ⟨A', c', rfl, hl, hC'⟩ := Kd.R_reads hS
  exact ⟨_, rfl, ⟨A', c', rfl, hl, hC'⟩, hb⟩
theorem same_lit {w : World} {A A' : Option Addr} {c c' : Nat} {p q : List (List Int)} (hC : Kd.C KL w A p.length p) (hc : p.length ≤ c) (hC' : Kd.C KL w A' q.length q) (hc' : q.length ≤ c') (k : Nat) (h : fastiref21_Same.f k p q = some true) :
    Rets Try.prog 16 #[.slice A p.length c, .slice A' q.length c'] w fun u w' => (u = .bool true) ∧ Below w.heap.size w w' := (fastiref21_Same.calls k A c p A' c' q true w hC hc hC' hc' h).mono (by rintro _ w' ⟨rfl, hb⟩; exact ⟨_, rfl, rfl, hb.below⟩)
theorem ints_lit {w : World} {A A' : Option Addr} {c c' : Nat} {p q : List Int} (hC : Kd.C KI w A p.length p) (hc : p.length ≤ c) (hC' : Kd.C KI w A' q.length q) (hc' : q.length ≤ c') (k : Nat) (h : fastiref21_SameInts.f k p q = some true) :
    Rets Try.prog 17 #[.slice A p.length c, .slice A' q.length c'] w fun u w' => (u = .bool true) ∧ Below w.heap.size w w' := (fastiref21_SameInts.calls k A c p A' c' q true w hC hc hC' hc' h).mono (by rintro _ w' ⟨rfl, hb⟩; exact ⟨_, rfl, rfl, hb.below⟩)
theorem least_lit {w : World} {n k : Int} (f : Nat) (r e : Int) (h : patterns_Least.f f n k = some (r, e)) :
    Rets Try.prog 18 #[.int .i64 n, .int .i64 k] w fun u w' => (u = .tuple #[.int .i64 r, .int .i64 e]) ∧ Below w.heap.size w w' := (patterns_Least.calls f n k r e w h).mono (by rintro _ w' ⟨rfl, hb⟩; exact ⟨_, rfl, rfl, hb.below⟩)
theorem int_cells (x : Int) : (Value.int .i64 x).cells = #[Value.int .i64 x] := rfl
theorem lsl_cells (x : Nat × List Int) : (lsl x).cells = #[lsl x] := rfl
set_option maxHeartbeats 8000000 in
theorem sane_rets (w0 : World) : Rets Try.prog 10 #[] w0 fun u w' => u = .bool true ∧ Below w0.heap.size w0 w' := by
  have hF := wide_wide
  refine rets_at (n := 195) Try.func10 rfl Try.ntmps10 (by simp) ?_
  (repeat (first | ((with_reducible refine is_AL ?_); (first | ((with_reducible refine is_assign ?_); (refine At_plain hF (by (exact (rfl : _ = some (Value.bool _)))) ?_)) | with_reducible refine At_nil ?_)) | ((with_reducible refine is_At ?_); (first | with_reducible refine At_seq ?_; intro K hK | with_reducible refine At_region ?_ | with_reducible refine At_then_n ?_ | with_reducible refine At_go (by assumption) ?_))))
  refine At_buildS hF (cs := #[.int .i64 2, .int .i64 1, .int .i64 0]) (by exact rfl) (by exact rfl) ?_
  (skip; ((with_reducible refine is_bslice ?_); (refine At_sliceA_1 hF (by decide) rfl rfl ?_; intro b)); skip)
  refine At_callK hF E12 rfl (arg2 (by (first | exact (rfl : _ = (Value.int _ _)) | exact (rfl : _ = (Value.bool _)) | exact (rfl : _ = (Value.pointer _)) | exact (rfl : _ = (Value.slice _ _ _)) | exact (rfl : _ = (Value.map _)) | exact (rfl : _ = (Value.func _ _ _)) | exact (rfl : _ = (Value.tuple _)) | exact (rfl : _ = (Value.agg _)) | exact (rfl : _ = (Value.string _)) | exact (rfl : _ = (Value.nilFunc)) | exact (rfl : _ = (Value.nilIface)))) (by (first | exact (rfl : _ = (Value.int _ _)) | exact (rfl : _ = (Value.bool _)) | exact (rfl : _ = (Value.pointer _)) | exact (rfl : _ = (Value.slice _ _ _)) | exact (rfl : _ = (Value.map _)) | exact (rfl : _ = (Value.func _ _ _)) | exact (rfl : _ = (Value.tuple _)) | exact (rfl : _ = (Value.agg _)) | exact (rfl : _ = (Value.string _)) | exact (rfl : _ = (Value.nilFunc)) | exact (rfl : _ = (Value.nilIface))))) (fun w hw => of_lit (C44_obj (i := 0) [⟨2, 1, 0⟩] hw rfl (by decide)) (by decide) (by decide) [[0, 0, -1], [0, 0, 1]] 0 (by decide +kernel)) ?_
  rintro _ w1 hb1 ⟨A1, c1, rfl, hc1, hp1⟩
  (repeat (first | ((with_reducible refine is_AL ?_); (first | ((with_reducible refine is_move ?_); (refine At_plain hF (by (exact (rfl : _ = some (Value.tuple _)))) ?_)) | ((with_reducible refine is_assign ?_); (refine At_plain hF (by (first | exact (rfl : _ = some (Value.int _ _)) | exact (rfl : _ = some (Value.slice _ _ _)))) ?_)) | ((with_reducible refine is_extract ?_); (refine At_plain hF (by (first | exact (rfl : _ = some (Value.int _ _)) | exact (rfl : _ = some (Value.slice _ _ _)))) ?_)) | with_reducible refine At_nil ?_)) | ((with_reducible refine is_At ?_); (first | with_reducible refine At_seq ?_; intro K hK | with_reducible refine At_region ?_ | with_reducible refine At_then_n ?_ | with_reducible refine At_go (by assumption) ?_))))
  refine At_callK hF E12 rfl (arg2 (by (first | exact (rfl : _ = (Value.int _ _)) | exact (rfl : _ = (Value.bool _)) | exact (rfl : _ = (Value.pointer _)) | exact (rfl : _ = (Value.slice _ _ _)) | exact (rfl : _ = (Value.map _)) | exact (rfl : _ = (Value.func _ _ _)) | exact (rfl : _ = (Value.tuple _)) | exact (rfl : _ = (Value.agg _)) | exact (rfl : _ = (Value.string _)) | exact (rfl : _ = (Value.nilFunc)) | exact (rfl : _ = (Value.nilIface)))) (by (first | exact (rfl : _ = (Value.int _ _)) | exact (rfl : _ = (Value.bool _)) | exact (rfl : _ = (Value.pointer _)) | exact (rfl : _ = (Value.slice _ _ _)) | exact (rfl : _ = (Value.map _)) | exact (rfl : _ = (Value.func _ _ _)) | exact (rfl : _ = (Value.tuple _)) | exact (rfl : _ = (Value.agg _)) | exact (rfl : _ = (Value.string _)) | exact (rfl : _ = (Value.nilFunc)) | exact (rfl : _ = (Value.nilIface))))) (fun w hw => of_lit (m := []) (C44_nil w) (Nat.le_refl _) (by decide) [[], []] 0 (by decide +kernel)) ?_
  rintro _ w2 hb2 ⟨A2, c2, rfl, hc2, hp2⟩
  (repeat (first | ((with_reducible refine is_AL ?_); (first | ((with_reducible refine is_move ?_); (refine At_plain hF (by (exact (rfl : _ = some (Value.tuple _)))) ?_)) | ((with_reducible refine is_assign ?_); (refine At_plain hF (by (first | exact (rfl : _ = some (Value.int _ _)) | exact (rfl : _ = some (Value.slice _ _ _)))) ?_)) | ((with_reducible refine is_extract ?_); (refine At_plain hF (by (first | exact (rfl : _ = some (Value.int _ _)) | exact (rfl : _ = some (Value.slice _ _ _)))) ?_)) | with_reducible refine At_nil ?_)) | ((with_reducible refine is_At ?_); (first | with_reducible refine At_seq ?_; intro K hK | with_reducible refine At_region ?_ | with_reducible refine At_then_n ?_ | with_reducible refine At_go (by assumption) ?_))))
  refine At_callK hF E12 rfl (arg2 (by (first | exact (rfl : _ = (Value.int _ _)) | exact (rfl : _ = (Value.bool _)) | exact (rfl : _ = (Value.pointer _)) | exact (rfl : _ = (Value.slice _ _ _)) | exact (rfl : _ = (Value.map _)) | exact (rfl : _ = (Value.func _ _ _)) | exact (rfl : _ = (Value.tuple _)) | exact (rfl : _ = (Value.agg _)) | exact (rfl : _ = (Value.string _)) | exact (rfl : _ = (Value.nilFunc)) | exact (rfl : _ = (Value.nilIface)))) (by (first | exact (rfl : _ = (Value.int _ _)) | exact (rfl : _ = (Value.bool _)) | exact (rfl : _ = (Value.pointer _)) | exact (rfl : _ = (Value.slice _ _ _)) | exact (rfl : _ = (Value.map _)) | exact (rfl : _ = (Value.func _ _ _)) | exact (rfl : _ = (Value.tuple _)) | exact (rfl : _ = (Value.agg _)) | exact (rfl : _ = (Value.string _)) | exact (rfl : _ = (Value.nilFunc)) | exact (rfl : _ = (Value.nilIface))))) (fun w hw => of_lit (m := []) (C44_nil w) (Nat.le_refl _) (by decide) [] 1 (by decide +kernel)) ?_
  rintro _ w3 hb3 ⟨A3, c3, rfl, hc3, hp3⟩
  (repeat (first | ((with_reducible refine is_AL ?_); (first | ((with_reducible refine is_move ?_); (refine At_plain hF (by (exact (rfl : _ = some (Value.tuple _)))) ?_)) | ((with_reducible refine is_assign ?_); (refine At_plain hF (by (first | exact (rfl : _ = some (Value.int _ _)) | exact (rfl : _ = some (Value.slice _ _ _)))) ?_)) | ((with_reducible refine is_extract ?_); (refine At_plain hF (by (first | exact (rfl : _ = some (Value.int _ _)) | exact (rfl : _ = some (Value.slice _ _ _)))) ?_)) | with_reducible refine At_nil ?_)) | ((with_reducible refine is_At ?_); (first | with_reducible refine At_seq ?_; intro K hK | with_reducible refine At_region ?_ | with_reducible refine At_then_n ?_ | with_reducible refine At_go (by assumption) ?_))))
  refine At_buildS hF (cs := #[.int .i64 0, .int .i64 1, .int .i64 0]) (by exact rfl) (by exact rfl) ?_
  skip
  refine At_buildS hF (cs := #[.int .i64 0, .int .i64 2, .int .i64 1]) (by exact rfl) (by exact rfl) ?_
  (skip; ((with_reducible refine is_bslice ?_); (refine At_sliceA_2 hF (by decide) rfl rfl rfl rfl ?_; intro d)); skip)
  refine At_callK hF E12 rfl (arg2 (by (first | exact (rfl : _ = (Value.int _ _)) | exact (rfl : _ = (Value.bool _)) | exact (rfl : _ = (Value.pointer _)) | exact (rfl : _ = (Value.slice _ _ _)) | exact (rfl : _ = (Value.map _)) | exact (rfl : _ = (Value.func _ _ _)) | exact (rfl : _ = (Value.tuple _)) | exact (rfl : _ = (Value.agg _)) | exact (rfl : _ = (Value.string _)) | exact (rfl : _ = (Value.nilFunc)) | exact (rfl : _ = (Value.nilIface)))) (by (first | exact (rfl : _ = (Value.int _ _)) | exact (rfl : _ = (Value.bool _)) | exact (rfl : _ = (Value.pointer _)) | exact (rfl : _ = (Value.slice _ _ _)) | exact (rfl : _ = (Value.map _)) | exact (rfl : _ = (Value.func _ _ _)) | exact (rfl : _ = (Value.tuple _)) | exact (rfl : _ = (Value.agg _)) | exact (rfl : _ = (Value.string _)) | exact (rfl : _ = (Value.nilFunc)) | exact (rfl : _ = (Value.nilIface))))) (fun w hw => of_lit (m := [⟨0, 1, 0⟩, ⟨0, 2, 1⟩]) (C44_obj (i := 0) [⟨0, 1, 0⟩, ⟨0, 2, 1⟩] hw rfl (by decide)) (by decide) (by decide) [] 210 (by decide +kernel)) ?_
  rintro _ w4 hb4 ⟨A4, c4, rfl, hc4, hp4⟩
  (repeat (first | ((with_reducible refine is_AL ?_); (first | ((with_reducible refine is_move ?_); (refine At_plain hF (by (exact (rfl : _ = some (Value.tuple _)))) ?_)) | ((with_reducible refine is_assign ?_); (refine At_plain hF (by (first | exact (rfl : _ = some (Value.int _ _)) | exact (rfl : _ = some (Value.slice _ _ _)))) ?_)) | ((with_reducible refine is_extract ?_); (refine At_plain hF (by (first | exact (rfl : _ = some (Value.int _ _)) | exact (rfl : _ = some (Value.slice _ _ _)))) ?_)) | with_reducible refine At_nil ?_)) | ((with_reducible refine is_At ?_); (first | with_reducible refine At_seq ?_; intro K hK | with_reducible refine At_region ?_ | with_reducible refine At_then_n ?_ | with_reducible refine At_go (by assumption) ?_))))
  refine At_slice1G hF (Value.int .i64) [1, 1, 0, -1, -1, -1] (by decide) int_cells rfl (by decide) (by exact rfl) ?_; intro x1
  skip
  refine At_slice1G hF lsl [(x1, [1, 1, 0, -1, -1, -1])] (by decide) lsl_cells rfl (by decide) (by exact rfl) ?_; intro y1
  skip
  refine At_callK hF E14 rfl (arg1 (by (first | exact (rfl : _ = (Value.int _ _)) | exact (rfl : _ = (Value.bool _)) | exact (rfl : _ = (Value.pointer _)) | exact (rfl : _ = (Value.slice _ _ _)) | exact (rfl : _ = (Value.map _)) | exact (rfl : _ = (Value.func _ _ _)) | exact (rfl : _ = (Value.tuple _)) | exact (rfl : _ = (Value.agg _)) | exact (rfl : _ = (Value.string _)) | exact (rfl : _ = (Value.nilFunc)) | exact (rfl : _ = (Value.nilIface))))) (fun w hw => br_lit (p := [[1, 1, 0, -1, -1, -1]]) (CL_obj (i := 0) [(x1, [1, 1, 0, -1, -1, -1])] hw rfl (fun p hp => by
      simp only [List.mem_cons, List.not_mem_nil, or_false] at hp
      subst hp; exact CI_obj (i := 1) [1, 1, 0, -1, -1, -1] hw rfl (by decide)) (of_decide_eq_true rfl)) (by decide) [3] 0 50 (by decide +kernel)) ?_
  rintro _ w5 hb5 ⟨A5, c5, rfl, hc5, hp5⟩
  (repeat (first | ((with_reducible refine is_AL ?_); (first | ((with_reducible refine is_move ?_); (refine At_plain hF (by (exact (rfl : _ = some (Value.tuple _)))) ?_)) | ((with_reducible refine is_assign ?_); (refine At_plain hF (by (first | exact (rfl : _ = some (Value.int _ _)) | exact (rfl : _ = some (Value.slice _ _ _)))) ?_)) | ((with_reducible refine is_extract ?_); (refine At_plain hF (by (first | exact (rfl : _ = some (Value.int _ _)) | exact (rfl : _ = some (Value.slice _ _ _)))) ?_)) | with_reducible refine At_nil ?_)) | ((with_reducible refine is_At ?_); (first | with_reducible refine At_seq ?_; intro K hK | with_reducible refine At_region ?_ | with_reducible refine At_then_n ?_ | with_reducible refine At_go (by assumption) ?_))))
  refine At_slice1G hF (Value.int .i64) [1, 1] (by decide) int_cells rfl (by decide) (by exact rfl) ?_; intro x2
  skip
  refine At_slice1G hF (Value.int .i64) [1] (by decide) int_cells rfl (by decide) (by exact rfl) ?_; intro x3
  skip
  refine At_slice1G hF lsl [(x2, [1, 1]), (x3, [1])] (by decide) lsl_cells rfl (by decide) (by exact rfl) ?_; intro y2
  skip
  refine At_callK hF E14 rfl (arg1 (by (first | exact (rfl : _ = (Value.int _ _)) | exact (rfl : _ = (Value.bool _)) | exact (rfl : _ = (Value.pointer _)) | exact (rfl : _ = (Value.slice _ _ _)) | exact (rfl : _ = (Value.map _)) | exact (rfl : _ = (Value.func _ _ _)) | exact (rfl : _ = (Value.tuple _)) | exact (rfl : _ = (Value.agg _)) | exact (rfl : _ = (Value.string _)) | exact (rfl : _ = (Value.nilFunc)) | exact (rfl : _ = (Value.nilIface))))) (fun w hw => br_lit (p := [[1, 1], [1]]) (CL_obj (i := 0) [(x2, [1, 1]), (x3, [1])] hw rfl (fun p hp => by
      simp only [List.mem_cons, List.not_mem_nil, or_false] at hp
      rcases hp with rfl | rfl
      · exact CI_obj (i := 2) [1, 1] hw rfl (by decide)
      · exact CI_obj (i := 1) [1] hw rfl (by decide)
) (of_decide_eq_true rfl)) (by decide) [] 210 50 (by decide +kernel)) ?_
  rintro _ w6 hb6 ⟨A6, c6, rfl, hc6, hp6⟩
  (repeat (first | ((with_reducible refine is_AL ?_); (first | ((with_reducible refine is_guarded ?_); (refine At_guard_t rfl (by decide) rfl ?_)) | ((with_reducible refine is_move ?_); (refine At_plain hF (by (first | exact (rfl : _ = some (Value.int _ _)) | exact (rfl : _ = some (Value.bool _)) | exact (rfl : _ = some (Value.slice _ _ _)) | exact (rfl : _ = some (Value.tuple _)))) ?_)) | ((with_reducible refine is_bin ?_); (refine At_plain hF (by (exact (rfl : _ = some (Value.bool _)))) ?_)) | ((with_reducible refine is_assign ?_); (refine At_plain hF (by (first | exact (rfl : _ = some (Value.int _ _)) | exact (rfl : _ = some (Value.slice _ _ _)))) ?_)) | ((with_reducible refine is_pick ?_); (refine At_plain hF (by (exact (rfl : _ = some (Value.bool _)))) ?_)) | ((with_reducible refine is_extract ?_); (refine At_plain hF (by (first | exact (rfl : _ = some (Value.int _ _)) | exact (rfl : _ = some (Value.slice _ _ _)))) ?_)) | with_reducible refine At_nil ?_)) | ((with_reducible refine is_At ?_); (first | with_reducible refine At_seq ?_; intro K hK | with_reducible refine At_region ?_ | with_reducible refine At_then_n ?_ | with_reducible refine At_go (by assumption) ?_))))
  refine At_slice1G hF (Value.int .i64) [0, 0, -1] (by decide) int_cells rfl (by decide) (by exact rfl) ?_; intro x4
  (repeat ((with_reducible refine is_AL ?_); ((with_reducible refine is_guarded ?_); (refine At_guard_t rfl (by decide) rfl ?_))))
  refine At_slice1G hF (Value.int .i64) [0, 0, 1] (by decide) int_cells rfl (by decide) (by exact rfl) ?_; intro x5
  (repeat ((with_reducible refine is_AL ?_); ((with_reducible refine is_guarded ?_); (refine At_guard_t rfl (by decide) rfl ?_))))
  refine At_slice1G hF lsl [(x4, [0, 0, -1]), (x5, [0, 0, 1])] (by decide) lsl_cells rfl (by decide) (by exact rfl) ?_; intro y3
  (repeat ((with_reducible refine is_AL ?_); ((with_reducible refine is_guarded ?_); (refine At_guard_t rfl (by decide) rfl ?_))))
  refine At_callK hF E16 rfl (arg2 (by (first | exact (rfl : _ = (Value.int _ _)) | exact (rfl : _ = (Value.bool _)) | exact (rfl : _ = (Value.pointer _)) | exact (rfl : _ = (Value.slice _ _ _)) | exact (rfl : _ = (Value.map _)) | exact (rfl : _ = (Value.func _ _ _)) | exact (rfl : _ = (Value.tuple _)) | exact (rfl : _ = (Value.agg _)) | exact (rfl : _ = (Value.string _)) | exact (rfl : _ = (Value.nilFunc)) | exact (rfl : _ = (Value.nilIface)))) (by (first | exact (rfl : _ = (Value.int _ _)) | exact (rfl : _ = (Value.bool _)) | exact (rfl : _ = (Value.pointer _)) | exact (rfl : _ = (Value.slice _ _ _)) | exact (rfl : _ = (Value.map _)) | exact (rfl : _ = (Value.func _ _ _)) | exact (rfl : _ = (Value.tuple _)) | exact (rfl : _ = (Value.agg _)) | exact (rfl : _ = (Value.string _)) | exact (rfl : _ = (Value.nilFunc)) | exact (rfl : _ = (Value.nilIface))))) (fun w hw => same_lit (p := [[0, 0, -1], [0, 0, 1]]) (q := [[0, 0, -1], [0, 0, 1]]) (Kd.C_below (Kd.C_below hp1 (hb2.trans (Below.mono (hb3.trans (Below.mono (hb4.trans (Below.mono (hb5.trans (Below.mono hb6 hb5.size)) hb4.size)) hb3.size)) hb2.size))) hw.below) hc1 (CL_obj (i := 0) [(x4, [0, 0, -1]), (x5, [0, 0, 1])] hw rfl (fun p hp => by
      simp only [List.mem_cons, List.not_mem_nil, or_false] at hp
      rcases hp with rfl | rfl
      · exact CI_obj (i := 2) [0, 0, -1] hw rfl (by decide)
      · exact CI_obj (i := 1) [0, 0, 1] hw rfl (by decide)
) (of_decide_eq_true rfl)) (by decide) 50 (by decide +kernel)) ?_
  rintro _ w7 hb7 rfl
  (repeat ((with_reducible refine is_AL ?_); (first | ((with_reducible refine is_guarded ?_); (refine At_guard_t rfl (by decide) rfl ?_)) | ((with_reducible refine is_move ?_); (refine At_plain hF (by (first | exact (rfl : _ = some (Value.bool _)) | exact (rfl : _ = some (Value.slice _ _ _)))) ?_)) | ((with_reducible refine is_pick ?_); (refine At_plain hF (by (exact (rfl : _ = some (Value.bool _)))) ?_)) | ((with_reducible refine is_un ?_); (refine At_plain hF (by (exact (rfl : _ = some (Value.bool _)))) ?_)))))
  refine At_slice0 hF (sc (Value.int .i64)) (fun _ => rfl) ?_; intro x6
  (repeat ((with_reducible refine is_AL ?_); ((with_reducible refine is_guarded ?_); (refine At_guard_t rfl (by decide) rfl ?_))))
  refine At_slice0 hF (sc (Value.int .i64)) (fun _ => rfl) ?_; intro x7
  (repeat ((with_reducible refine is_AL ?_); ((with_reducible refine is_guarded ?_); (refine At_guard_t rfl (by decide) rfl ?_))))
  refine At_slice1G hF lsl [(x6, []), (x7, [])] (by decide) lsl_cells rfl (by decide) (by exact rfl) ?_; intro y4
  (repeat ((with_reducible refine is_AL ?_); ((with_reducible refine is_guarded ?_); (refine At_guard_t rfl (by decide) rfl ?_))))
  refine At_callK hF E16 rfl (arg2 (by (first | exact (rfl : _ = (Value.int _ _)) | exact (rfl : _ = (Value.bool _)) | exact (rfl : _ = (Value.pointer _)) | exact (rfl : _ = (Value.slice _ _ _)) | exact (rfl : _ = (Value.map _)) | exact (rfl : _ = (Value.func _ _ _)) | exact (rfl : _ = (Value.tuple _)) | exact (rfl : _ = (Value.agg _)) | exact (rfl : _ = (Value.string _)) | exact (rfl : _ = (Value.nilFunc)) | exact (rfl : _ = (Value.nilIface)))) (by (first | exact (rfl : _ = (Value.int _ _)) | exact (rfl : _ = (Value.bool _)) | exact (rfl : _ = (Value.pointer _)) | exact (rfl : _ = (Value.slice _ _ _)) | exact (rfl : _ = (Value.map _)) | exact (rfl : _ = (Value.func _ _ _)) | exact (rfl : _ = (Value.tuple _)) | exact (rfl : _ = (Value.agg _)) | exact (rfl : _ = (Value.string _)) | exact (rfl : _ = (Value.nilFunc)) | exact (rfl : _ = (Value.nilIface))))) (fun w hw => same_lit (p := [[], []]) (q := [[], []]) (Kd.C_below (Kd.C_below hp2 (hb3.trans (Below.mono (hb4.trans (Below.mono (hb5.trans (Below.mono (hb6.trans (Below.mono hb7 hb6.size)) hb5.size)) hb4.size)) hb3.size))) hw.below) hc2 (CL_obj (i := 0) [(x6, []), (x7, [])] hw rfl (fun p hp => by
      simp only [List.mem_cons, List.not_mem_nil, or_false] at hp
      rcases hp with rfl | rfl
      · exact (CI_row (l := []) (i := 2) hw rfl).1
      · exact (CI_row (l := []) (i := 1) hw rfl).1
) (of_decide_eq_true rfl)) (by decide) 50 (by decide +kernel)) ?_
  rintro _ w8 hb8 rfl
  (repeat ((with_reducible refine is_AL ?_); (first | ((with_reducible refine is_guarded ?_); (refine At_guard_t rfl (by decide) rfl ?_)) | ((with_reducible refine is_move ?_); (refine At_plain hF (by (first | exact (rfl : _ = some (Value.bool _)) | exact (rfl : _ = some (Value.slice _ _ _)))) ?_)) | ((with_reducible refine is_pick ?_); (refine At_plain hF (by (exact (rfl : _ = some (Value.bool _)))) ?_)) | ((with_reducible refine is_un ?_); (refine At_plain hF (by (exact (rfl : _ = some (Value.bool _)))) ?_)))))
  refine At_slice1G hF (Value.int .i64) [3] (by decide) int_cells rfl (by decide) (by exact rfl) ?_; intro x8
  (repeat ((with_reducible refine is_AL ?_); ((with_reducible refine is_guarded ?_); (refine At_guard_t rfl (by decide) rfl ?_))))
  refine At_callK hF E17 rfl (arg2 (by (first | exact (rfl : _ = (Value.int _ _)) | exact (rfl : _ = (Value.bool _)) | exact (rfl : _ = (Value.pointer _)) | exact (rfl : _ = (Value.slice _ _ _)) | exact (rfl : _ = (Value.map _)) | exact (rfl : _ = (Value.func _ _ _)) | exact (rfl : _ = (Value.tuple _)) | exact (rfl : _ = (Value.agg _)) | exact (rfl : _ = (Value.string _)) | exact (rfl : _ = (Value.nilFunc)) | exact (rfl : _ = (Value.nilIface)))) (by (first | exact (rfl : _ = (Value.int _ _)) | exact (rfl : _ = (Value.bool _)) | exact (rfl : _ = (Value.pointer _)) | exact (rfl : _ = (Value.slice _ _ _)) | exact (rfl : _ = (Value.map _)) | exact (rfl : _ = (Value.func _ _ _)) | exact (rfl : _ = (Value.tuple _)) | exact (rfl : _ = (Value.agg _)) | exact (rfl : _ = (Value.string _)) | exact (rfl : _ = (Value.nilFunc)) | exact (rfl : _ = (Value.nilIface))))) (fun w hw => ints_lit (p := [3]) (q := [3]) (Kd.C_below (Kd.C_below hp5 (hb6.trans (Below.mono (hb7.trans (Below.mono hb8 hb7.size)) hb6.size))) hw.below) hc5 (CI_obj (i := 0) [3] hw rfl (by decide)) (by decide) 50 (by decide +kernel)) ?_
  rintro _ w9 hb9 rfl
  (repeat (first | ((with_reducible refine is_AL ?_); (first | ((with_reducible refine is_guarded ?_); (refine At_guard_t rfl (by decide) rfl ?_)) | ((with_reducible refine is_pick ?_); (refine At_plain hF (by (exact (rfl : _ = some (Value.bool _)))) ?_)) | ((with_reducible refine is_un ?_); (refine At_plain hF (by (exact (rfl : _ = some (Value.bool _)))) ?_)) | with_reducible refine At_nil ?_)) | ((with_reducible refine is_At ?_); (first | with_reducible refine At_seq ?_; intro K hK | with_reducible refine At_region ?_ | with_reducible refine At_skip ?_ | with_reducible refine At_then_n ?_ | with_reducible refine At_go (by assumption) ?_ | ((with_reducible refine is_cond ?_); (refine At_cond_f rfl ?_))))))
  refine At_callK hF E18 rfl (arg2 (by (first | exact (rfl : _ = (Value.int _ _)) | exact (rfl : _ = (Value.bool _)) | exact (rfl : _ = (Value.pointer _)) | exact (rfl : _ = (Value.slice _ _ _)) | exact (rfl : _ = (Value.map _)) | exact (rfl : _ = (Value.func _ _ _)) | exact (rfl : _ = (Value.tuple _)) | exact (rfl : _ = (Value.agg _)) | exact (rfl : _ = (Value.string _)) | exact (rfl : _ = (Value.nilFunc)) | exact (rfl : _ = (Value.nilIface)))) (by (first | exact (rfl : _ = (Value.int _ _)) | exact (rfl : _ = (Value.bool _)) | exact (rfl : _ = (Value.pointer _)) | exact (rfl : _ = (Value.slice _ _ _)) | exact (rfl : _ = (Value.map _)) | exact (rfl : _ = (Value.func _ _ _)) | exact (rfl : _ = (Value.tuple _)) | exact (rfl : _ = (Value.agg _)) | exact (rfl : _ = (Value.string _)) | exact (rfl : _ = (Value.nilFunc)) | exact (rfl : _ = (Value.nilIface))))) (fun w hw => least_lit 5 4 0 (by decide +kernel)) ?_
  rintro _ w10 hb10 rfl
  (repeat (first | ((with_reducible refine is_AL ?_); (first | ((with_reducible refine is_move ?_); (refine At_plain hF (by (exact (rfl : _ = some (Value.tuple _)))) ?_)) | ((with_reducible refine is_assign ?_); (refine At_plain hF (by (exact (rfl : _ = some (Value.int _ _)))) ?_)) | ((with_reducible refine is_extract ?_); (refine At_plain hF (by (exact (rfl : _ = some (Value.int _ _)))) ?_)) | with_reducible refine At_nil ?_)) | ((with_reducible refine is_At ?_); (first | with_reducible refine At_seq ?_; intro K hK | with_reducible refine At_region ?_ | with_reducible refine At_then_n ?_ | with_reducible refine At_go (by assumption) ?_))))
  refine At_callK hF E18 rfl (arg2 (by (first | exact (rfl : _ = (Value.int _ _)) | exact (rfl : _ = (Value.bool _)) | exact (rfl : _ = (Value.pointer _)) | exact (rfl : _ = (Value.slice _ _ _)) | exact (rfl : _ = (Value.map _)) | exact (rfl : _ = (Value.func _ _ _)) | exact (rfl : _ = (Value.tuple _)) | exact (rfl : _ = (Value.agg _)) | exact (rfl : _ = (Value.string _)) | exact (rfl : _ = (Value.nilFunc)) | exact (rfl : _ = (Value.nilIface)))) (by (first | exact (rfl : _ = (Value.int _ _)) | exact (rfl : _ = (Value.bool _)) | exact (rfl : _ = (Value.pointer _)) | exact (rfl : _ = (Value.slice _ _ _)) | exact (rfl : _ = (Value.map _)) | exact (rfl : _ = (Value.func _ _ _)) | exact (rfl : _ = (Value.tuple _)) | exact (rfl : _ = (Value.agg _)) | exact (rfl : _ = (Value.string _)) | exact (rfl : _ = (Value.nilFunc)) | exact (rfl : _ = (Value.nilIface))))) (fun w hw => least_lit 5 12 0 (by decide +kernel)) ?_
  rintro _ w11 hb11 rfl
  (repeat (first | ((with_reducible refine is_AL ?_); (first | ((with_reducible refine is_move ?_); (refine At_plain hF (by (exact (rfl : _ = some (Value.tuple _)))) ?_)) | ((with_reducible refine is_assign ?_); (refine At_plain hF (by (exact (rfl : _ = some (Value.int _ _)))) ?_)) | ((with_reducible refine is_extract ?_); (refine At_plain hF (by (exact (rfl : _ = some (Value.int _ _)))) ?_)) | with_reducible refine At_nil ?_)) | ((with_reducible refine is_At ?_); (first | with_reducible refine At_seq ?_; intro K hK | with_reducible refine At_region ?_ | with_reducible refine At_then_n ?_ | with_reducible refine At_go (by assumption) ?_))))
  refine At_callK hF E18 rfl (arg2 (by (first | exact (rfl : _ = (Value.int _ _)) | exact (rfl : _ = (Value.bool _)) | exact (rfl : _ = (Value.pointer _)) | exact (rfl : _ = (Value.slice _ _ _)) | exact (rfl : _ = (Value.map _)) | exact (rfl : _ = (Value.func _ _ _)) | exact (rfl : _ = (Value.tuple _)) | exact (rfl : _ = (Value.agg _)) | exact (rfl : _ = (Value.string _)) | exact (rfl : _ = (Value.nilFunc)) | exact (rfl : _ = (Value.nilIface)))) (by (first | exact (rfl : _ = (Value.int _ _)) | exact (rfl : _ = (Value.bool _)) | exact (rfl : _ = (Value.pointer _)) | exact (rfl : _ = (Value.slice _ _ _)) | exact (rfl : _ = (Value.map _)) | exact (rfl : _ = (Value.func _ _ _)) | exact (rfl : _ = (Value.tuple _)) | exact (rfl : _ = (Value.agg _)) | exact (rfl : _ = (Value.string _)) | exact (rfl : _ = (Value.nilFunc)) | exact (rfl : _ = (Value.nilIface))))) (fun w hw => least_lit 5 0 0 (by decide +kernel)) ?_
  rintro _ w12 hb12 rfl
  (repeat (first | ((with_reducible refine is_AL ?_); (first | ((with_reducible refine is_move ?_); (refine At_plain hF (by (exact (rfl : _ = some (Value.tuple _)))) ?_)) | ((with_reducible refine is_assign ?_); (refine At_plain hF (by (exact (rfl : _ = some (Value.int _ _)))) ?_)) | ((with_reducible refine is_extract ?_); (refine At_plain hF (by (exact (rfl : _ = some (Value.int _ _)))) ?_)) | with_reducible refine At_nil ?_)) | ((with_reducible refine is_At ?_); (first | with_reducible refine At_seq ?_; intro K hK | with_reducible refine At_region ?_ | with_reducible refine At_then_n ?_ | with_reducible refine At_go (by assumption) ?_))))
  refine At_callK hF E18 rfl (arg2 (by (first | exact (rfl : _ = (Value.int _ _)) | exact (rfl : _ = (Value.bool _)) | exact (rfl : _ = (Value.pointer _)) | exact (rfl : _ = (Value.slice _ _ _)) | exact (rfl : _ = (Value.map _)) | exact (rfl : _ = (Value.func _ _ _)) | exact (rfl : _ = (Value.tuple _)) | exact (rfl : _ = (Value.agg _)) | exact (rfl : _ = (Value.string _)) | exact (rfl : _ = (Value.nilFunc)) | exact (rfl : _ = (Value.nilIface)))) (by (first | exact (rfl : _ = (Value.int _ _)) | exact (rfl : _ = (Value.bool _)) | exact (rfl : _ = (Value.pointer _)) | exact (rfl : _ = (Value.slice _ _ _)) | exact (rfl : _ = (Value.map _)) | exact (rfl : _ = (Value.func _ _ _)) | exact (rfl : _ = (Value.tuple _)) | exact (rfl : _ = (Value.agg _)) | exact (rfl : _ = (Value.string _)) | exact (rfl : _ = (Value.nilFunc)) | exact (rfl : _ = (Value.nilIface))))) (fun w hw => least_lit 5 0 1 (by decide +kernel)) ?_
  rintro _ w13 hb13 rfl
  (repeat (first | ((with_reducible refine is_AL ?_); (first | ((with_reducible refine is_move ?_); (refine At_plain hF (by (exact (rfl : _ = some (Value.tuple _)))) ?_)) | ((with_reducible refine is_assign ?_); (refine At_plain hF (by (exact (rfl : _ = some (Value.int _ _)))) ?_)) | ((with_reducible refine is_extract ?_); (refine At_plain hF (by (exact (rfl : _ = some (Value.int _ _)))) ?_)) | with_reducible refine At_nil ?_)) | ((with_reducible refine is_At ?_); (first | with_reducible refine At_seq ?_; intro K hK | with_reducible refine At_region ?_ | with_reducible refine At_then_n ?_ | with_reducible refine At_go (by assumption) ?_))))
  refine At_slice1G hF (Value.int .i64) [1, -1, 1] (by decide) int_cells rfl (by decide) (by exact rfl) ?_; intro z1
  skip
  refine At_slice1G hF (Value.int .i64) [-1, 1, 1] (by decide) int_cells rfl (by decide) (by exact rfl) ?_; intro z2
  skip
  refine At_slice1G hF (Value.int .i64) [1, -1, 1] (by decide) int_cells rfl (by decide) (by exact rfl) ?_; intro z3
  skip
  refine At_slice1G hF lsl [(z1, [1, -1, 1]), (z2, [-1, 1, 1]), (z3, [1, -1, 1])] (by decide) lsl_cells rfl (by decide) (by exact rfl) ?_; intro v14
  skip
  refine At_callK hF E20 rfl (arg1 (by (first | exact (rfl : _ = (Value.int _ _)) | exact (rfl : _ = (Value.bool _)) | exact (rfl : _ = (Value.pointer _)) | exact (rfl : _ = (Value.slice _ _ _)) | exact (rfl : _ = (Value.map _)) | exact (rfl : _ = (Value.func _ _ _)) | exact (rfl : _ = (Value.tuple _)) | exact (rfl : _ = (Value.agg _)) | exact (rfl : _ = (Value.string _)) | exact (rfl : _ = (Value.nilFunc)) | exact (rfl : _ = (Value.nilIface))))) (fun w hw => vio_lit (p := [[1, -1, 1], [-1, 1, 1], [1, -1, 1]]) (CL_obj (i := 0) [(z1, [1, -1, 1]), (z2, [-1, 1, 1]), (z3, [1, -1, 1])] hw rfl (fun p hp => by
      simp only [List.mem_cons, List.not_mem_nil, or_false] at hp
      rcases hp with rfl | rfl | rfl
      · exact CI_obj (i := 3) [1, -1, 1] hw rfl (by decide)
      · exact CI_obj (i := 2) [-1, 1, 1] hw rfl (by decide)
      · exact CI_obj (i := 1) [1, -1, 1] hw rfl (by decide)
) (of_decide_eq_true rfl)) (by decide) [0, 2] true 0 (by decide +kernel)) ?_
  rintro _ w14 hb14 ⟨A14, c14, rfl, hc14, hp14⟩
  (repeat (first | ((with_reducible refine is_AL ?_); (first | ((with_reducible refine is_move ?_); (refine At_plain hF (by (exact (rfl : _ = some (Value.tuple _)))) ?_)) | ((with_reducible refine is_assign ?_); (refine At_plain hF (by (first | exact (rfl : _ = some (Value.int _ _)) | exact (rfl : _ = some (Value.bool _)) | exact (rfl : _ = some (Value.slice _ _ _)))) ?_)) | ((with_reducible refine is_extract ?_); (refine At_plain hF (by (first | exact (rfl : _ = some (Value.int _ _)) | exact (rfl : _ = some (Value.bool _)) | exact (rfl : _ = some (Value.slice _ _ _)))) ?_)) | with_reducible refine At_nil ?_)) | ((with_reducible refine is_At ?_); (first | with_reducible refine At_seq ?_; intro K hK | with_reducible refine At_region ?_ | with_reducible refine At_then_n ?_ | with_reducible refine At_go (by assumption) ?_))))
  refine At_slice1G hF (Value.int .i64) [1, -1, 1] (by decide) int_cells rfl (by decide) (by exact rfl) ?_; intro z4
  skip
  refine At_slice1G hF (Value.int .i64) [1, 1, -1] (by decide) int_cells rfl (by decide) (by exact rfl) ?_; intro z5
  skip
  refine At_slice1G hF (Value.int .i64) [-1, -1, -1] (by decide) int_cells rfl (by decide) (by exact rfl) ?_; intro z6
  skip
  refine At_slice1G hF lsl [(z4, [1, -1, 1]), (z5, [1, 1, -1]), (z6, [-1, -1, -1])] (by decide) lsl_cells rfl (by decide) (by exact rfl) ?_; intro v15
  skip
  refine At_callK hF E20 rfl (arg1 (by (first | exact (rfl : _ = (Value.int _ _)) | exact (rfl : _ = (Value.bool _)) | exact (rfl : _ = (Value.pointer _)) | exact (rfl : _ = (Value.slice _ _ _)) | exact (rfl : _ = (Value.map _)) | exact (rfl : _ = (Value.func _ _ _)) | exact (rfl : _ = (Value.tuple _)) | exact (rfl : _ = (Value.agg _)) | exact (rfl : _ = (Value.string _)) | exact (rfl : _ = (Value.nilFunc)) | exact (rfl : _ = (Value.nilIface))))) (fun w hw => vio_lit (p := [[1, -1, 1], [1, 1, -1], [-1, -1, -1]]) (CL_obj (i := 0) [(z4, [1, -1, 1]), (z5, [1, 1, -1]), (z6, [-1, -1, -1])] hw rfl (fun p hp => by
      simp only [List.mem_cons, List.not_mem_nil, or_false] at hp
      rcases hp with rfl | rfl | rfl
      · exact CI_obj (i := 3) [1, -1, 1] hw rfl (by decide)
      · exact CI_obj (i := 2) [1, 1, -1] hw rfl (by decide)
      · exact CI_obj (i := 1) [-1, -1, -1] hw rfl (by decide)
) (of_decide_eq_true rfl)) (by decide) [] false 0 (by decide +kernel)) ?_
  rintro _ w15 hb15 ⟨A15, c15, rfl, hc15, hp15⟩
  (repeat (first | ((with_reducible refine is_AL ?_); (first | ((with_reducible refine is_move ?_); (refine At_plain hF (by (exact (rfl : _ = some (Value.tuple _)))) ?_)) | ((with_reducible refine is_assign ?_); (refine At_plain hF (by (first | exact (rfl : _ = some (Value.int _ _)) | exact (rfl : _ = some (Value.bool _)) | exact (rfl : _ = some (Value.slice _ _ _)))) ?_)) | ((with_reducible refine is_extract ?_); (refine At_plain hF (by (first | exact (rfl : _ = some (Value.int _ _)) | exact (rfl : _ = some (Value.bool _)) | exact (rfl : _ = some (Value.slice _ _ _)))) ?_)) | with_reducible refine At_nil ?_)) | ((with_reducible refine is_At ?_); (first | with_reducible refine At_seq ?_; intro K hK | with_reducible refine At_region ?_ | with_reducible refine At_then_n ?_ | with_reducible refine At_go (by assumption) ?_))))
  refine At_slice1G hF (Value.int .i64) [1] (by decide) int_cells rfl (by decide) (by exact rfl) ?_; intro z7
  skip
  refine At_slice1G hF lsl [(z7, [1])] (by decide) lsl_cells rfl (by decide) (by exact rfl) ?_; intro v16
  skip
  refine At_callK hF E20 rfl (arg1 (by (first | exact (rfl : _ = (Value.int _ _)) | exact (rfl : _ = (Value.bool _)) | exact (rfl : _ = (Value.pointer _)) | exact (rfl : _ = (Value.slice _ _ _)) | exact (rfl : _ = (Value.map _)) | exact (rfl : _ = (Value.func _ _ _)) | exact (rfl : _ = (Value.tuple _)) | exact (rfl : _ = (Value.agg _)) | exact (rfl : _ = (Value.string _)) | exact (rfl : _ = (Value.nilFunc)) | exact (rfl : _ = (Value.nilIface))))) (fun w hw => vio_lit (p := [[1]]) (CL_obj (i := 0) [(z7, [1])] hw rfl (fun p hp => by
      simp only [List.mem_cons, List.not_mem_nil, or_false] at hp
      subst hp; exact CI_obj (i := 1) [1] hw rfl (by decide)) (of_decide_eq_true rfl)) (by decide) [] false 210 (by decide +kernel)) ?_
  rintro _ w16 hb16 ⟨A16, c16, rfl, hc16, hp16⟩
  (repeat (first | ((with_reducible refine is_AL ?_); (first | ((with_reducible refine is_guarded ?_); (refine At_guard_t rfl (by decide) rfl ?_)) | ((with_reducible refine is_move ?_); (refine At_plain hF (by (first | exact (rfl : _ = some (Value.int _ _)) | exact (rfl : _ = some (Value.bool _)) | exact (rfl : _ = some (Value.slice _ _ _)) | exact (rfl : _ = some (Value.tuple _)))) ?_)) | ((with_reducible refine is_bin ?_); (refine At_plain hF (by (exact (rfl : _ = some (Value.bool _)))) ?_)) | ((with_reducible refine is_assign ?_); (refine At_plain hF (by (first | exact (rfl : _ = some (Value.int _ _)) | exact (rfl : _ = some (Value.bool _)) | exact (rfl : _ = some (Value.slice _ _ _)))) ?_)) | ((with_reducible refine is_pick ?_); (refine At_plain hF (by (exact (rfl : _ = some (Value.bool _)))) ?_)) | ((with_reducible refine is_extract ?_); (refine At_plain hF (by (first | exact (rfl : _ = some (Value.int _ _)) | exact (rfl : _ = some (Value.bool _)) | exact (rfl : _ = some (Value.slice _ _ _)))) ?_)) | with_reducible refine At_nil ?_)) | ((with_reducible refine is_At ?_); (first | with_reducible refine At_seq ?_; intro K hK | with_reducible refine At_region ?_ | with_reducible refine At_skip ?_ | with_reducible refine At_then_n ?_ | with_reducible refine At_go (by assumption) ?_ | ((with_reducible refine is_cond ?_); (refine At_cond_f rfl ?_))))))
  refine At_slice1G hF (Value.int .i64) [0, 2] (by decide) int_cells rfl (by decide) (by exact rfl) ?_; intro z8
  (repeat ((with_reducible refine is_AL ?_); ((with_reducible refine is_guarded ?_); (refine At_guard_t rfl (by decide) rfl ?_))))
  refine At_callK hF E17 rfl (arg2 (by (first | exact (rfl : _ = (Value.int _ _)) | exact (rfl : _ = (Value.bool _)) | exact (rfl : _ = (Value.pointer _)) | exact (rfl : _ = (Value.slice _ _ _)) | exact (rfl : _ = (Value.map _)) | exact (rfl : _ = (Value.func _ _ _)) | exact (rfl : _ = (Value.tuple _)) | exact (rfl : _ = (Value.agg _)) | exact (rfl : _ = (Value.string _)) | exact (rfl : _ = (Value.nilFunc)) | exact (rfl : _ = (Value.nilIface)))) (by (first | exact (rfl : _ = (Value.int _ _)) | exact (rfl : _ = (Value.bool _)) | exact (rfl : _ = (Value.pointer _)) | exact (rfl : _ = (Value.slice _ _ _)) | exact (rfl : _ = (Value.map _)) | exact (rfl : _ = (Value.func _ _ _)) | exact (rfl : _ = (Value.tuple _)) | exact (rfl : _ = (Value.agg _)) | exact (rfl : _ = (Value.string _)) | exact (rfl : _ = (Value.nilFunc)) | exact (rfl : _ = (Value.nilIface))))) (fun w hw => ints_lit (p := [0, 2]) (q := [0, 2]) (Kd.C_below (Kd.C_below hp14 (hb15.trans (Below.mono hb16 hb15.size))) hw.below) hc14 (CI_obj (i := 0) [0, 2] hw rfl (by decide)) (by decide) 50 (by decide +kernel)) ?_
  rintro _ w17 hb17 rfl
  (repeat (first | ((with_reducible refine is_AL ?_); (first | ((with_reducible refine is_guarded ?_); (refine At_guard_t rfl (by decide) rfl ?_)) | ((with_reducible refine is_move ?_); (refine At_plain hF (by (first | exact (rfl : _ = some (Value.bool _)) | exact (rfl : _ = some (Value.slice _ _ _)))) ?_)) | ((with_reducible refine is_bin ?_); (refine At_plain hF (by (exact (rfl : _ = some (Value.bool _)))) ?_)) | ((with_reducible refine is_assign ?_); (refine At_plain hF (by (exact (rfl : _ = some (Value.bool _)))) ?_)) | ((with_reducible refine is_pick ?_); (refine At_plain hF (by (exact (rfl : _ = some (Value.bool _)))) ?_)) | ((with_reducible refine is_un ?_); (refine At_plain hF (by (exact (rfl : _ = some (Value.bool _)))) ?_)) | ((with_reducible refine is_call ?_); (refine At_len hF rfl ?_)) | with_reducible refine At_nil ?_)) | ((with_reducible refine is_At ?_); (first | with_reducible refine At_ret ?_ | with_reducible refine At_then_n ?_ | with_reducible refine At_go (by assumption) ?_))))
  refine At_ret1 rfl (rv_tmp (by decide)) (fun w' hw' => ⟨_, rfl, rfl, ((hb1.trans (Below.mono (hb2.trans (Below.mono (hb3.trans (Below.mono (hb4.trans (Below.mono (hb5.trans (Below.mono (hb6.trans (Below.mono (hb7.trans (Below.mono (hb8.trans (Below.mono (hb9.trans (Below.mono (hb10.trans (Below.mono (hb11.trans (Below.mono (hb12.trans (Below.mono (hb13.trans (Below.mono (hb14.trans (Below.mono (hb15.trans (Below.mono (hb16.trans (Below.mono (hb17) hb16.size)) hb15.size)) hb14.size)) hb13.size)) hb12.size)) hb11.size)) hb10.size)) hb9.size)) hb8.size)) hb7.size)) hb6.size)) hb5.size)) hb4.size)) hb3.size)) hb2.size)) hb1.size)).trans (Below.mono hw'.below (hb1.trans (Below.mono (hb2.trans (Below.mono (hb3.trans (Below.mono (hb4.trans (Below.mono (hb5.trans (Below.mono (hb6.trans (Below.mono (hb7.trans (Below.mono (hb8.trans (Below.mono (hb9.trans (Below.mono (hb10.trans (Below.mono (hb11.trans (Below.mono (hb12.trans (Below.mono (hb13.trans (Below.mono (hb14.trans (Below.mono (hb15.trans (Below.mono (hb16.trans (Below.mono (hb17) hb16.size)) hb15.size)) hb14.size)) hb13.size)) hb12.size)) hb11.size)) hb10.size)) hb9.size)) hb8.size)) hb7.size)) hb6.size)) hb5.size)) hb4.size)) hb3.size)) hb2.size)) hb1.size)).size))⟩)
end Go.Proofs.Ytecgklfcblpkdaa.P

/- The sanity examples: contract. -/
namespace Go.Proofs.Ytecgklfcblpkdaa.P
open Go.RowKit Go.Proofs.YtecgklfcblpkdaaW.PrintWords Go.Proofs.YtecgklfcblpkdaaW.PrintLast Go.Proofs.YtecgklfcblpkdaaW.PrintMore
open XW
end Go.Proofs.Ytecgklfcblpkdaa.P
