import Derived.Test.YthddaojdlfifeaaChkM
import Derived.Test.YthddaojdlfifeaaP3
/- robin.Make: what it makes, as a sorted list. -/
namespace Go.Proofs.Ythddaojdlfifeaa.P
open Go.RowKit Go.Proofs.YthddaojdlfifeaaW.PrintWords Go.Proofs.YthddaojdlfifeaaW.PrintLast Go.Proofs.YthddaojdlfifeaaW.PrintMore
open XW RegInv
set_option linter.unusedSimpArgs false
set_option linter.unusedVariables false

def insM (x : S37) : List S37 → List S37
  | [] => [x]
  | y :: l => if bef y x then y :: insM x l else x :: y :: l
def sortM (l : List S37) : List S37 := l.foldr insM []
theorem insM_perm (x : S37) : ∀ l : List S37, (insM x l).Perm (x :: l)
  | [] => List.Perm.refl _
  | y :: l => by
    rw [insM]
    split
    · exact ((insM_perm x l).cons y).trans (List.Perm.swap x y l)
    · exact List.Perm.refl _
theorem sortM_perm : ∀ l : List S37, (sortM l).Perm l
  | [] => List.Perm.refl _
  | x :: l => (insM_perm x _).trans ((sortM_perm l).cons x)
def strictB : List S37 → Bool
  | [] => true
  | x :: l => (match l with | [] => true | y :: _ => decide (bef x y)) && strictB l
theorem strict_of : ∀ {l : List S37}, strictB l = true → l.Pairwise bef
  | [], _ => List.Pairwise.nil
  | [x], _ => List.pairwise_singleton _ _
  | x :: y :: l, h => by
    rw [strictB, Bool.and_eq_true] at h
    have h2 := strict_of h.2
    have h1 : bef x y := of_decide_eq_true h.1
    refine List.pairwise_cons.2 ⟨fun z hz => ?_, h2⟩
    rcases List.mem_cons.1 hz with rfl | hz
    · exact h1
    · exact bef_trans h1 ((List.pairwise_cons.1 h2).1 z hz)
def rndsN (n : Nat) : Nat := n - 1 + n % 2
/-- what Make returns -/
def mkM (n : Nat) (kind : Int) : List S37 := sortM (mkRaw n (rndsN n) kind (rndsN n))
theorem mk_strictB : ∀ n, n < 21 → 2 ≤ n → ∀ k, k < 4 → 1 ≤ k → strictB (mkM n (k : Nat)) = true := by decide +kernel
theorem mk_strict {n : Nat} {kind : Int} (hn : 2 ≤ n ∧ n ≤ 20) (hk : 1 ≤ kind ∧ kind ≤ 3) : (mkM n kind).Pairwise bef := by
  obtain ⟨k, rfl⟩ : ∃ k : Nat, kind = k := ⟨kind.toNat, by omega⟩
  exact strict_of (mk_strictB n (by omega) hn.1 k (by omega) (by omega))
theorem mk_uniq {n : Nat} {kind : Int} {l : List S37} (hn : 2 ≤ n ∧ n ≤ 20) (hk : 1 ≤ kind ∧ kind ≤ 3) (hp : l.Perm (mkRaw n (rndsN n) kind (rndsN n))) (hs : SrtL l) : l = mkM n kind :=
  srt_uniq (hp.trans (sortM_perm _).symm) hs (mk_strict hn hk)
end Go.Proofs.Ythddaojdlfifeaa.P

/- robin.Make: contract. -/
namespace Go.Proofs.Ythddaojdlfifeaa.P
open Go.RowKit Go.Proofs.YthddaojdlfifeaaW.PrintWords Go.Proofs.YthddaojdlfifeaaW.PrintLast Go.Proofs.YthddaojdlfifeaaW.PrintMore
open XW RegInv
set_option linter.unusedSimpArgs false
set_option linter.unusedVariables false

theorem mem_R37 {w w' : World} {v : Value} {xs : List S37} (h : Kd.R k37 37 w' w.heap.size (fun _ => True) v xs) (hb : Below w.heap.size w w') : ∃ A c, v = rowV A xs.length c ∧ Mem w w' [.row 37 3 enc37 A c xs] := by
  obtain ⟨_, inner, hown, hreps⟩ := h
  have hi : inner = xs.flatMap enc37 := by
    have key : ∀ (xs : List S37) (inner : List Value), inner.length = xs.length * 3 → (∀ j p, xs[j]? = some p → (inner.drop (j * 3)).take 3 = enc37 p) → inner = xs.flatMap enc37 := by
      intro xs
      induction xs with
      | nil => intro inner h1 _; exact List.eq_nil_of_length_eq_zero (by simpa using h1)
      | cons x xs ih =>
        intro inner h1 h2
        have e0 := h2 0 x rfl
        rw [Nat.zero_mul, List.drop_zero] at e0
        have e1 : inner.drop 3 = xs.flatMap enc37 := by
          refine ih _ (by rw [List.length_drop, h1, List.length_cons]; omega) (fun j p hj => ?_)
          rw [List.drop_drop]
          have := h2 (j + 1) p (by simpa using hj)
          rwa [show (j + 1) * 3 = 3 + j * 3 by omega] at this
        rw [List.flatMap_cons, ← e0, ← e1, List.take_append_drop]
    refine key xs inner ?_ (fun j p hj => ?_)
    · have := hreps.1; rwa [show k37.sz = 3 from rfl] at this
    · have := hreps.2 j p hj
      rw [show k37.sz = 3 from rfl] at this
      rw [k37_openM this]; rfl
  subst hi
  obtain ⟨A, c, hv, hok, hA⟩ := rowOk_of (enc := enc37) (sz := 3) enc37_len hown
  refine ⟨A, c, hv, hb, fun r hr => ?_, fun r hr k hk => ?_, by simp⟩
  · rw [List.mem_singleton] at hr; subst hr; exact hok
  · rw [List.mem_singleton] at hr; subst hr
    have hk' : A = some k := hk
    have h4 := (hA k).1 hk'
    subst hv
    rcases hown.2 with ⟨h5, _⟩ | ⟨g, cp, cur, h5, h6, h7, _⟩
    · rw [h5] at h4; simp [Value.ownBlock] at h4
    · rw [h5] at h4
      simp [Value.ownBlock] at h4
      subst h4
      exact ⟨h6, (Array.getElem?_eq_some_iff.1 h7).1⟩
def rightR (n kind : Int) : Prop := 2 ≤ n ∧ n ≤ 20 ∧ 1 ≤ kind ∧ kind ≤ 3
instance (n kind : Int) : Decidable (rightR n kind) := inferInstanceAs (Decidable (_ ∧ _))
theorem mkM_rets (w0 : World) (n : Nat) (kind : Int) (hn : 2 ≤ n ∧ n ≤ 20) (hk : 1 ≤ kind ∧ kind ≤ 3) :
    Rets Try.prog 12 #[.int .i64 n, .int .i64 kind] w0 fun u w' => ∃ A c, u = .tuple #[rowV A (mkM n kind).length c, .int .i64 0] ∧ Mem w0 w' [.row 37 3 enc37 A c (mkM n kind)] := by
  refine (make_rets w0 n (rndsN n) kind hn hk rfl).mono ?_
  rintro e w' ⟨v, rfl, A', c', l', rfl, h1, hmem⟩
  rw [mk_uniq hn hk h1.1 h1.2] at hmem ⊢
  exact ⟨_, rfl, _, _, rfl, hmem⟩
end Go.Proofs.Ythddaojdlfifeaa.P

/- robin.Check: contract. -/
namespace Go.Proofs.Ythddaojdlfifeaa.P
open Go.RowKit Go.Proofs.YthddaojdlfifeaaW.PrintWords Go.Proofs.YthddaojdlfifeaaW.PrintLast Go.Proofs.YthddaojdlfifeaaW.PrintMore
open XW RegInv
attribute [local irreducible] Addr.add
set_option linter.unusedSimpArgs false
set_option linter.unusedVariables false

def chkM (n : Nat) (kind : Int) (m : List S37) : Int := if okC n (rndsN n) kind m then 0 else 200
theorem chkM_rets (w : World) (n : Nat) (kind : Int) (hn : 2 ≤ n ∧ n ≤ 20) (hk : 1 ≤ kind ∧ kind ≤ 3) (A : Option Addr) (c : Nat) (m : List S37) (hr : Kd.C k37 w A m.length m) (hl : m.length ≤ 1000000) :
    Rets Try.prog 15 #[.int .i64 n, .int .i64 kind, .slice A m.length c] w fun u w' => u = .int .i64 (chkM n kind m) ∧ Below w.heap.size w w' :=
  check_rets w n (rndsN n) _ kind A c m hn hk rfl rfl hr hl
end Go.Proofs.Ythddaojdlfifeaa.P

/- The statements' own list of meetings. -/
namespace Go.Proofs.Ythddaojdlfifeaa.P
open Go.RowKit Go.Proofs.YthddaojdlfifeaaW.PrintWords Go.Proofs.YthddaojdlfifeaaW.PrintLast Go.Proofs.YthddaojdlfifeaaW.PrintMore
open XW RegInv
attribute [local irreducible] Addr.add
set_option linter.unusedSimpArgs false
set_option linter.unusedVariables false

theorem run_build3 (a b c : Int) (w : World) : (Instr.build 47 #[(0, .int .i64 a), (1, .int .i64 b), (2, .int .i64 c)]).run Try.prog w = .ok (.agg #[.int .i64 a, .int .i64 b, .int .i64 c]) w := by
  obtain ⟨j, hj, hjs, hjz, _⟩ := inf47
  obtain ⟨i, hi, hs, _⟩ := inf3
  simp [Instr.build, underlying, program, Try.underlying47, Go.sizeOf, typeInfo, hi, hs, hj, hjz, zeroValue, Value.cells, Instr.fill, Sem.run_bind, Sem.run, Result.andThen]
theorem At_build3 {F : Fence} {n : Nat} {Q : XW.Post} {ρ : Nat → Value} {ds : List Deferred} {base : World} {R : List Res} {ops : Array Oper} (hF : Wide F) {dst : Option Tmp} {ty : TypeId} {x y z : Operand} {pos : String} {af : Array Edge} {rest : List Oper} {a b c : Int} (hx : xv n ρ x = .int .i64 a) (hy : xv n ρ y = .int .i64 b) (hz : xv n ρ z = .int .i64 c)
    (h : AL F Try.prog n Q ops rest (updO ρ dst (.agg #[.int .i64 a, .int .i64 b, .int .i64 c])) ds base R) : AL F Try.prog n Q ops (⟨dst, .build 47 #[(0, x), (1, y), (2, z)], ty, pos, af, none⟩ :: rest) ρ ds base R := ⟨fun w hw => XL_gives hF rfl (by simp) (.inl (by
  have := run_build3 a b c w
  simp only [execOp, List.map_toArray, List.map_cons, List.map_nil, hx, hy, hz]
  rw [Sem.run_bind, this]; rfl)) (h.use w hw)⟩
theorem E19 : Enters Try.prog 19 := enters Try.func19 (by kernel_rfl) rfl
set_option maxHeartbeats 4000000 in
theorem list_rets (w0 : World) (A : Option Addr) (c : Nat) (l : List S37) (hr : Kd.C k37 w0 A l.length l) (hlen : l.length ≤ 1000000) :
    Rets Try.prog 19 #[.slice A l.length c] w0 fun u w' => ∃ A' c', u = rowV A' l.length c' ∧ Mem w0 w' [.row 37 3 enc37 A' c' l] := by
  have hF := wide_wide
  refine rets_at (n := 23) Try.func19 rfl Try.ntmps19 (by simp) ?_
  refine At.newNil 37 3 enc37 enc37_len ?_
  (repeat (first | ((with_reducible refine is_AL ?_); (first | ((with_reducible refine is_move ?_); (refine At_plain hF (by (first | exact (rfl : _ = some (Value.int _ _)) | exact (rfl : _ = some (Value.slice _ _ _)))) ?_)) | ((with_reducible refine is_assign ?_); (refine At_plain hF (by (exact (rfl : _ = some (Value.slice _ _ _)))) ?_)) | ((with_reducible refine is_call ?_); (refine At_len hF rfl ?_)) | with_reducible refine At_nil ?_)) | ((with_reducible refine is_At ?_); (first | with_reducible refine At_seq ?_; intro K hK | with_reducible refine At_block ?_ | with_reducible refine At_region ?_ | with_reducible refine At_then_n ?_ | with_reducible refine At_go (by assumption) ?_))))
  refine At_loop (fun st : Nat × Option Nat × Nat => [(2, rowV st.2.1 st.1 st.2.2), (5, .slice A l.length c), (6, .int .i64 l.length), (7, .int .i64 st.1)]) (fun st => [.row 37 3 enc37 st.2.1 st.2.2 (l.take st.1)]) (fun st => st.1 ≤ l.length) (fun st => l.length - st.1) (0, none, 0) ?_ ?_ (Nat.zero_le _) ?_
  · (repeat (first | exact List.Sublist.refl _ | exact List.Sublist.slnil | refine List.Sublist.cons_cons _ ?_ | refine List.Sublist.cons _ ?_))
  · (repeat (first | exact True.intro | (refine And.intro ?_ ?_; focus (show _ = (_ : Value); first | exact rfl | (refine Eq.trans (b := Value.int IntKind.i64 _) rfl (congrArg (Value.int IntKind.i64) ?_); omega)))))
  rintro ⟨i, A1, c1⟩ hi K hL ρ1
  simp only at hi
  try dsimp only
  (repeat (first | ((with_reducible refine is_AL ?_); (first | ((with_reducible refine is_bin ?_); (refine At_plain hF (by (exact (rfl : _ = some (Value.bool _)))) ?_)) | with_reducible refine At_nil ?_)) | ((with_reducible refine is_At ?_); (first | with_reducible refine At_seq ?_; intro K hK | with_reducible refine At_region ?_ | with_reducible refine At_then_n ?_ | with_reducible refine At_go (by assumption) ?_))))
  ((with_reducible refine is_cond ?_); (refine At_cond rfl ?_ ?_ <;> (intro hg; try (simp only [decide_eq_true_eq, decide_eq_false_iff_not, beq_iff_eq, bne_iff_ne, beq_eq_false_iff_ne, bne_eq_false_iff_eq, ne_eq, Bool.not_eq_true', Bool.not_eq_false', Bool.not_true, Bool.not_false, Decidable.not_not] at hg); try (exfalso; first | omega | exact hg True.intro))))
  · have hlt : i < l.length := by omega
    obtain ⟨ad, hA, hcell⟩ := C_flat (enc := enc37) (fun h => k37_open h) hr z37 i hlt
    have htk : l.take (i + 1) = l.take i ++ [l.getD i z37] := take_snocS l i z37 hlt
    generalize l.getD i z37 = x at hcell htk
    have hyl : (l.take i).length = i := by simp; omega
    (repeat (first | ((with_reducible refine is_AL ?_); ((with_reducible refine is_index ?_); (refine At_indexC hF rfl (by assumption) rfl (by omega) ?_))) | ((with_reducible refine is_At ?_); (first | with_reducible refine At_seq ?_; intro K hK | with_reducible refine At_block ?_ | with_reducible refine At_region ?_ | with_reducible refine At_skip ?_ | with_reducible refine At_then_n ?_ | with_reducible refine At_go (by assumption) ?_))))
    refine At_loadCS (vs := [.int .i64 x.f0, .int .i64 x.f1, .int .i64 x.f2]) hF (by exact rfl) (by exact rfl) hcell ?_
    clear hA hcell
    ((repeat (first | ((with_reducible refine is_AL ?_); (first | ((with_reducible refine is_move ?_); (refine At_plain hF (by (exact (rfl : _ = some (Value.slice _ _ _)))) ?_)) | ((with_reducible refine is_load ?_); (refine At_load hF 0 (by exact rfl) rfl (by (exact (rfl : _ = some (Value.int _ _)))) ?_)) | ((with_reducible refine is_index ?_); (refine At_indexA1 hF rfl rfl rfl rfl (by first | decide | (simp only [TArr.m]; omega)) ?_)) | ((with_reducible refine is_store ?_); (refine At_storeB_0 hF rfl rfl rfl rfl (by simp [Value.one1, epair]) ?_)) | with_reducible refine At_nil ?_)) | ((with_reducible refine is_At ?_); (first | with_reducible refine At_region ?_ | with_reducible refine At_then_n ?_ | with_reducible refine At_go (by assumption) ?_)))); ((with_reducible refine is_alloc ?_); (refine At_alloc hF (by (exact (rfl : _ = List.toArray (_ :: _)))) ?_; intro b4)); (repeat (first | ((with_reducible refine is_AL ?_); (first | ((with_reducible refine is_move ?_); (refine At_plain hF (by (exact (rfl : _ = some (Value.slice _ _ _)))) ?_)) | ((with_reducible refine is_load ?_); (refine At_load hF 0 (by exact rfl) rfl (by (exact (rfl : _ = some (Value.int _ _)))) ?_)) | ((with_reducible refine is_index ?_); (refine At_indexA1 hF rfl rfl rfl rfl (by first | decide | (simp only [TArr.m]; omega)) ?_)) | ((with_reducible refine is_store ?_); (refine At_storeB_0 hF rfl rfl rfl rfl (by simp [Value.one1, epair]) ?_)) | with_reducible refine At_nil ?_)) | ((with_reducible refine is_At ?_); (first | with_reducible refine At_region ?_ | with_reducible refine At_then_n ?_ | with_reducible refine At_go (by assumption) ?_)))))
    refine At_buildS hF (cs := #[.int .i64 x.f0, .int .i64 x.f1, .int .i64 x.f2]) (by exact rfl) (by exact rfl) ?_
    (skip; ((with_reducible refine is_bslice ?_); (refine At_sliceA_1 hF (by decide) rfl rfl ?_; intro b6)); skip)
    refine At_append_2 hF 0 rfl rfl hyl.symm rfl (x0 := x) rfl (by decide) (by simp [Value.one1]) (by simp only [TS.bytes]; omega) (by omega) ?_
    intro A2 c2
    rw [hyl, show l.take i ++ [x] = l.take (i + 1) by rw [htk]]
    (repeat (first | ((with_reducible refine is_AL ?_); (first | ((with_reducible refine is_move ?_); (refine At_plain hF (by (exact (rfl : _ = some (Value.int _ _)))) ?_)) | ((with_reducible refine is_bin ?_); ((with_reducible refine is_badd ?_); (refine At_add hF rfl rfl (by omega) ?_))) | ((with_reducible refine is_assign ?_); (refine At_plain hF (by (exact (rfl : _ = some (Value.slice _ _ _)))) ?_)) | with_reducible refine At_nil ?_)) | ((with_reducible refine is_At ?_); (first | with_reducible refine At_region ?_ | with_reducible refine At_then_n ?_ | with_reducible refine At_inb_n ?_ | with_reducible refine At_go (by assumption) ?_))))
    refine At.sub ?_ (hL (i + 1, A2, c2) _ (by simp only; omega) (by simp only; omega) ?_)
    · (repeat (first | exact List.Sublist.refl _ | exact List.Sublist.slnil | refine List.Sublist.cons_cons _ ?_ | refine List.Sublist.cons _ ?_))
    · (repeat (first | exact True.intro | (refine And.intro ?_ ?_; focus (show _ = (_ : Value); first | exact rfl | (refine Eq.trans (b := Value.int IntKind.i64 _) rfl (congrArg (Value.int IntKind.i64) ?_); omega)))))
  obtain rfl : i = l.length := by omega
  rw [List.take_length]
  (repeat (first | ((with_reducible refine is_AL ?_); (first | ((with_reducible refine is_move ?_); (refine At_plain hF (by (exact (rfl : _ = some (Value.slice _ _ _)))) ?_)) | ((with_reducible refine is_assign ?_); (refine At_plain hF (by (exact (rfl : _ = some (Value.slice _ _ _)))) ?_)) | with_reducible refine At_nil ?_)) | ((with_reducible refine is_At ?_); (first | with_reducible refine At_seq ?_; intro K hK | with_reducible refine At_region ?_ | with_reducible refine At_ret ?_ | with_reducible refine At_exit ?_ | with_reducible refine At_then_n ?_ | with_reducible refine At_then_e ?_ | with_reducible refine At_inb_e rfl ?_ | with_reducible refine At_go (by assumption) ?_))))
  exact At_ret1 rfl (rv_tmp (by decide)) (fun w' hw' => ⟨_, rfl, _, _, rfl, hw'⟩)
end Go.Proofs.Ythddaojdlfifeaa.P

/- The chapter's examples hold. -/
namespace Go.Proofs.Ythddaojdlfifeaa.P
open Go.RowKit Go.Proofs.YthddaojdlfifeaaW.PrintWords Go.Proofs.YthddaojdlfifeaaW.PrintLast Go.Proofs.YthddaojdlfifeaaW.PrintMore
open XW RegInv
attribute [local irreducible] Addr.add
set_option linter.unusedSimpArgs false
set_option linter.unusedVariables false

theorem E9 : Enters Try.prog 9 := enters Try.func9 (by kernel_rfl) rfl
theorem E12 : Enters Try.prog 12 := enters Try.func12 (by kernel_rfl) rfl
theorem E14 : Enters Try.prog 14 := enters Try.func14 (by kernel_rfl) rfl
theorem C_ownI {base w : World} {R : List Res} {e : TypeId} {A : Option Nat} {c : Nat} {l : List S37} (hw : Mem base w R) (i : Nat) (hi : R[i]? = some (.row e 3 enc37 A c l)) : Kd.C k37 w (A.map fun b => ⟨b, 0, none⟩) l.length l := C_own37 hw (List.mem_of_getElem? hi)
theorem cap_ownI {base w : World} {R : List Res} {e : TypeId} {A : Option Nat} {c : Nat} {l : List S37} (hw : Mem base w R) (i : Nat) (hi : R[i]? = some (.row e 3 enc37 A c l)) : l.length ≤ c := (hw.ok _ (List.mem_of_getElem? hi) : RowOk e 3 enc37 A c l w).2.1
/-- what sane reads of the callees -/
def l41 : List S37 := [⟨0, 0, 3⟩, ⟨0, 1, 2⟩, ⟨1, 2, 0⟩, ⟨1, 3, 1⟩, ⟨2, 0, 1⟩, ⟨2, 2, 3⟩]
def l22 : List S37 := [⟨0, 0, 1⟩, ⟨1, 1, 0⟩]
def l31 : List S37 := [⟨0, 1, 2⟩, ⟨1, 2, 0⟩, ⟨2, 0, 1⟩]
abbrev MkR (n kind : Int) (l : List S37) : Prop := ∀ w, Rets Try.prog 12 #[.int .i64 n, .int .i64 kind] w fun u w' => ∃ Rs, (∃ A c, u = .tuple #[rowV A l.length c, .int .i64 0] ∧ Rs = [.row 37 3 enc37 A c l]) ∧ Mem w w' Rs
abbrev ChkR (n kind : Int) (l : List S37) (r : Int) : Prop := ∀ w A c, Kd.C k37 w A l.length l → Rets Try.prog 15 #[.int .i64 n, .int .i64 kind, .slice A l.length c] w fun u w' => u = .int .i64 r ∧ Below w.heap.size w w'
abbrev SameR (l l' : List S37) : Prop := ∀ w A c A' c', Kd.C k37 w A l.length l → l.length ≤ c → Kd.C k37 w A' l'.length l' → l'.length ≤ c' → Rets Try.prog 14 #[.slice A l.length c, .slice A' l'.length c'] w fun u w' => u = .bool true ∧ Below w.heap.size w w'
abbrev RndsR (n kind r : Int) : Prop := ∀ w, Rets Try.prog 10 #[.int .i64 n, .int .i64 kind] w fun u w' => u = .tuple #[.int .i64 r, .int .i64 0] ∧ Below w.heap.size w w'
abbrev BadR (n kind : Int) : Prop := ∀ w, Rets Try.prog 12 #[.int .i64 n, .int .i64 kind] w fun u w' => u = .tuple #[.slice none 0 0, .int .i64 1] ∧ Below w.heap.size w w'
abbrev LstR (l : List S37) : Prop := ∀ w A c, Kd.C k37 w A l.length l → Rets Try.prog 19 #[.slice A l.length c] w fun u w' => ∃ Rs, (∃ A' c', u = rowV A' l.length c' ∧ Rs = [.row 37 3 enc37 A' c' l]) ∧ Mem w w' Rs
theorem C37_nil (w : World) : Kd.C k37 w none ([] : List S37).length [] := ⟨rfl, by decide, fun h => absurd h (by simp)⟩
theorem At_slice37 {F : Fence} {n : Nat} {Q : XW.Post} {ρ : Nat → Value} {ds : List Deferred} {base : World} {R : List Res} {ops : Array Oper} (hF : Wide F) {dst : Option Tmp} {t ty : TypeId} {pos : String} {af : Array Edge} {rest : List Oper} {m : Nat} {parts : Array (Nat × Operand)} (l : List S37) [T : TS Try.prog t] (hT : T.sz = 3 ∧ T.z.cells.size = 3) (hm : l.length = m) (hm0 : m ≠ 0 ∧ m ≤ 1000) (hp : parts.toList.map (fun x => (x.fst, xv n ρ x.snd)) = (List.range' 0 (l.map v37).length).zip (l.map v37))
    (h : ∀ b, AL F Try.prog n Q ops rest (updO ρ dst (.slice (some ⟨b, 0, none⟩) m m)) ds base (.row T.e 3 enc37 (some b) m l :: R)) : AL F Try.prog n Q ops (⟨dst, .buildSlice t m parts, ty, pos, af, none⟩ :: rest) ρ ds base R := by
  refine At_buildSliceG hF (vs := l.map v37) (cs := buf enc37 l []) (by rw [List.length_map, hm]) hp (fun v hv => ?_) ⟨by rw [hT.2, hT.1], by rw [hT.1]; decide, by rw [hT.1]; omega⟩ hm0.1 ?_ (fun b => AL_at (At_close 0 rfl enc37_len (by simp [hm]) (by omega) (Nat.le_trans hm0.2 (by decide)) (At_al (h b))))
  · obtain ⟨x, _, rfl⟩ := List.mem_map.1 hv
    rw [hT.1]; rfl
  · have : ∀ l : List S37, ((l.map v37).flatMap fun v => v.cells.toList) = l.flatMap enc37 := fun l => by
      induction l with
      | nil => rfl
      | cons x l ih => rw [List.map_cons, List.flatMap_cons, ih, List.flatMap_cons]; rfl
    rw [this, buf, List.append_nil]
set_option maxHeartbeats 4000000 in
set_option maxRecDepth 100000 in
theorem sane_core (w0 : World) (la lb lc : List S37) (h41 : MkR 4 1 la) (h22 : MkR 2 2 lb) (h31 : MkR 3 1 lc) (h11 : BadR 1 1) (h44 : BadR 4 5) (r51 : RndsR 5 1 5) (r43 : RndsR 4 3 6) (c21 : ChkR 2 1 [] 200) (c41 : ChkR 4 1 la 0) (c23 : ChkR 2 3 lb 0) (s1 : SameR la l41) (s2 : SameR lb l22) (s3 : SameR lc l31) (t1 : LstR l41) (t2 : LstR l22) (t3 : LstR l31) :
    Rets Try.prog 9 #[] w0 fun u w' => u = .bool true ∧ Below w0.heap.size w0 w' := by
  have hF := wide_wide
  refine rets_at (n := 118) Try.func9 rfl Try.ntmps9 (by simp) ?_
  (repeat (first | ((with_reducible refine is_AL ?_); (first | ((with_reducible refine is_assign ?_); (refine At_plain hF (by (exact (rfl : _ = some (Value.bool _)))) ?_)) | with_reducible refine At_nil ?_)) | ((with_reducible refine is_At ?_); (first | with_reducible refine At_seq ?_; intro K hK | with_reducible refine At_region ?_ | with_reducible refine At_then_n ?_ | with_reducible refine At_go (by assumption) ?_))))
  refine At_callM hF E12 rfl (Post := fun u Rs => ∃ A c, u = .tuple #[rowV A la.length c, .int .i64 0] ∧ Rs = [.row 37 3 enc37 A c la]) (arg2 (by (first | exact (rfl : _ = (Value.int _ _)) | exact (rfl : _ = (Value.bool _)) | exact (rfl : _ = (Value.pointer _)) | exact (rfl : _ = (Value.slice _ _ _)) | exact (rfl : _ = (Value.map _)) | exact (rfl : _ = (Value.func _ _ _)) | exact (rfl : _ = (Value.tuple _)) | exact (rfl : _ = (Value.agg _)) | exact (rfl : _ = (Value.string _)) | exact (rfl : _ = (Value.nilFunc)) | exact (rfl : _ = (Value.nilIface)))) (by (first | exact (rfl : _ = (Value.int _ _)) | exact (rfl : _ = (Value.bool _)) | exact (rfl : _ = (Value.pointer _)) | exact (rfl : _ = (Value.slice _ _ _)) | exact (rfl : _ = (Value.map _)) | exact (rfl : _ = (Value.func _ _ _)) | exact (rfl : _ = (Value.tuple _)) | exact (rfl : _ = (Value.agg _)) | exact (rfl : _ = (Value.string _)) | exact (rfl : _ = (Value.nilFunc)) | exact (rfl : _ = (Value.nilIface))))) (fun w' hw' => h41 w') ?_
  rintro _ _ ⟨Aa, ca, rfl, rfl⟩
  (repeat (first | ((with_reducible refine is_AL ?_); (first | ((with_reducible refine is_move ?_); (refine At_plain hF (by (exact (rfl : _ = some (Value.tuple _)))) ?_)) | ((with_reducible refine is_assign ?_); (refine At_plain hF (by (first | exact (rfl : _ = some (Value.int _ _)) | exact (rfl : _ = some (Value.slice _ _ _)))) ?_)) | ((with_reducible refine is_extract ?_); (refine At_plain hF (by (first | exact (rfl : _ = some (Value.int _ _)) | exact (rfl : _ = some (Value.slice _ _ _)))) ?_)) | with_reducible refine At_nil ?_)) | ((with_reducible refine is_At ?_); (first | with_reducible refine At_seq ?_; intro K hK | with_reducible refine At_region ?_ | with_reducible refine At_then_n ?_ | with_reducible refine At_go (by assumption) ?_))))
  refine At_callM hF E12 rfl (Post := fun u Rs => ∃ A c, u = .tuple #[rowV A lb.length c, .int .i64 0] ∧ Rs = [.row 37 3 enc37 A c lb]) (arg2 (by (first | exact (rfl : _ = (Value.int _ _)) | exact (rfl : _ = (Value.bool _)) | exact (rfl : _ = (Value.pointer _)) | exact (rfl : _ = (Value.slice _ _ _)) | exact (rfl : _ = (Value.map _)) | exact (rfl : _ = (Value.func _ _ _)) | exact (rfl : _ = (Value.tuple _)) | exact (rfl : _ = (Value.agg _)) | exact (rfl : _ = (Value.string _)) | exact (rfl : _ = (Value.nilFunc)) | exact (rfl : _ = (Value.nilIface)))) (by (first | exact (rfl : _ = (Value.int _ _)) | exact (rfl : _ = (Value.bool _)) | exact (rfl : _ = (Value.pointer _)) | exact (rfl : _ = (Value.slice _ _ _)) | exact (rfl : _ = (Value.map _)) | exact (rfl : _ = (Value.func _ _ _)) | exact (rfl : _ = (Value.tuple _)) | exact (rfl : _ = (Value.agg _)) | exact (rfl : _ = (Value.string _)) | exact (rfl : _ = (Value.nilFunc)) | exact (rfl : _ = (Value.nilIface))))) (fun w' hw' => h22 w') ?_
  rintro _ _ ⟨Ab, cb, rfl, rfl⟩
  (repeat (first | ((with_reducible refine is_AL ?_); (first | ((with_reducible refine is_move ?_); (refine At_plain hF (by (exact (rfl : _ = some (Value.tuple _)))) ?_)) | ((with_reducible refine is_assign ?_); (refine At_plain hF (by (first | exact (rfl : _ = some (Value.int _ _)) | exact (rfl : _ = some (Value.slice _ _ _)))) ?_)) | ((with_reducible refine is_extract ?_); (refine At_plain hF (by (first | exact (rfl : _ = some (Value.int _ _)) | exact (rfl : _ = some (Value.slice _ _ _)))) ?_)) | with_reducible refine At_nil ?_)) | ((with_reducible refine is_At ?_); (first | with_reducible refine At_seq ?_; intro K hK | with_reducible refine At_region ?_ | with_reducible refine At_then_n ?_ | with_reducible refine At_go (by assumption) ?_))))
  refine At_callM hF E12 rfl (Post := fun u Rs => ∃ A c, u = .tuple #[rowV A lc.length c, .int .i64 0] ∧ Rs = [.row 37 3 enc37 A c lc]) (arg2 (by (first | exact (rfl : _ = (Value.int _ _)) | exact (rfl : _ = (Value.bool _)) | exact (rfl : _ = (Value.pointer _)) | exact (rfl : _ = (Value.slice _ _ _)) | exact (rfl : _ = (Value.map _)) | exact (rfl : _ = (Value.func _ _ _)) | exact (rfl : _ = (Value.tuple _)) | exact (rfl : _ = (Value.agg _)) | exact (rfl : _ = (Value.string _)) | exact (rfl : _ = (Value.nilFunc)) | exact (rfl : _ = (Value.nilIface)))) (by (first | exact (rfl : _ = (Value.int _ _)) | exact (rfl : _ = (Value.bool _)) | exact (rfl : _ = (Value.pointer _)) | exact (rfl : _ = (Value.slice _ _ _)) | exact (rfl : _ = (Value.map _)) | exact (rfl : _ = (Value.func _ _ _)) | exact (rfl : _ = (Value.tuple _)) | exact (rfl : _ = (Value.agg _)) | exact (rfl : _ = (Value.string _)) | exact (rfl : _ = (Value.nilFunc)) | exact (rfl : _ = (Value.nilIface))))) (fun w' hw' => h31 w') ?_
  rintro _ _ ⟨Ac, cc, rfl, rfl⟩
  simp only [List.cons_append, List.nil_append]
  (repeat (first | ((with_reducible refine is_AL ?_); (first | ((with_reducible refine is_move ?_); (refine At_plain hF (by (exact (rfl : _ = some (Value.tuple _)))) ?_)) | ((with_reducible refine is_assign ?_); (refine At_plain hF (by (first | exact (rfl : _ = some (Value.int _ _)) | exact (rfl : _ = some (Value.slice _ _ _)))) ?_)) | ((with_reducible refine is_extract ?_); (refine At_plain hF (by (first | exact (rfl : _ = some (Value.int _ _)) | exact (rfl : _ = some (Value.slice _ _ _)))) ?_)) | with_reducible refine At_nil ?_)) | ((with_reducible refine is_At ?_); (first | with_reducible refine At_seq ?_; intro K hK | with_reducible refine At_region ?_ | with_reducible refine At_then_n ?_ | with_reducible refine At_go (by assumption) ?_))))
  refine At_callB hF E12 rfl (u := .tuple #[.slice none 0 0, .int .i64 1]) (arg2 (by (first | exact (rfl : _ = (Value.int _ _)) | exact (rfl : _ = (Value.bool _)) | exact (rfl : _ = (Value.pointer _)) | exact (rfl : _ = (Value.slice _ _ _)) | exact (rfl : _ = (Value.map _)) | exact (rfl : _ = (Value.func _ _ _)) | exact (rfl : _ = (Value.tuple _)) | exact (rfl : _ = (Value.agg _)) | exact (rfl : _ = (Value.string _)) | exact (rfl : _ = (Value.nilFunc)) | exact (rfl : _ = (Value.nilIface)))) (by (first | exact (rfl : _ = (Value.int _ _)) | exact (rfl : _ = (Value.bool _)) | exact (rfl : _ = (Value.pointer _)) | exact (rfl : _ = (Value.slice _ _ _)) | exact (rfl : _ = (Value.map _)) | exact (rfl : _ = (Value.func _ _ _)) | exact (rfl : _ = (Value.tuple _)) | exact (rfl : _ = (Value.agg _)) | exact (rfl : _ = (Value.string _)) | exact (rfl : _ = (Value.nilFunc)) | exact (rfl : _ = (Value.nilIface))))) (fun w' hw' => h11 w') ?_
  (repeat (first | ((with_reducible refine is_AL ?_); (first | ((with_reducible refine is_move ?_); (refine At_plain hF (by (exact (rfl : _ = some (Value.tuple _)))) ?_)) | ((with_reducible refine is_assign ?_); (refine At_plain hF (by (first | exact (rfl : _ = some (Value.int _ _)) | exact (rfl : _ = some (Value.slice _ _ _)))) ?_)) | ((with_reducible refine is_extract ?_); (refine At_plain hF (by (first | exact (rfl : _ = some (Value.int _ _)) | exact (rfl : _ = some (Value.slice _ _ _)))) ?_)) | with_reducible refine At_nil ?_)) | ((with_reducible refine is_At ?_); (first | with_reducible refine At_seq ?_; intro K hK | with_reducible refine At_region ?_ | with_reducible refine At_then_n ?_ | with_reducible refine At_go (by assumption) ?_))))
  refine At_callB hF E12 rfl (u := .tuple #[.slice none 0 0, .int .i64 1]) (arg2 (by (first | exact (rfl : _ = (Value.int _ _)) | exact (rfl : _ = (Value.bool _)) | exact (rfl : _ = (Value.pointer _)) | exact (rfl : _ = (Value.slice _ _ _)) | exact (rfl : _ = (Value.map _)) | exact (rfl : _ = (Value.func _ _ _)) | exact (rfl : _ = (Value.tuple _)) | exact (rfl : _ = (Value.agg _)) | exact (rfl : _ = (Value.string _)) | exact (rfl : _ = (Value.nilFunc)) | exact (rfl : _ = (Value.nilIface)))) (by (first | exact (rfl : _ = (Value.int _ _)) | exact (rfl : _ = (Value.bool _)) | exact (rfl : _ = (Value.pointer _)) | exact (rfl : _ = (Value.slice _ _ _)) | exact (rfl : _ = (Value.map _)) | exact (rfl : _ = (Value.func _ _ _)) | exact (rfl : _ = (Value.tuple _)) | exact (rfl : _ = (Value.agg _)) | exact (rfl : _ = (Value.string _)) | exact (rfl : _ = (Value.nilFunc)) | exact (rfl : _ = (Value.nilIface))))) (fun w' hw' => h44 w') ?_
  (repeat (first | ((with_reducible refine is_AL ?_); (first | ((with_reducible refine is_move ?_); (refine At_plain hF (by (exact (rfl : _ = some (Value.tuple _)))) ?_)) | ((with_reducible refine is_assign ?_); (refine At_plain hF (by (first | exact (rfl : _ = some (Value.int _ _)) | exact (rfl : _ = some (Value.slice _ _ _)))) ?_)) | ((with_reducible refine is_extract ?_); (refine At_plain hF (by (first | exact (rfl : _ = some (Value.int _ _)) | exact (rfl : _ = some (Value.slice _ _ _)))) ?_)) | with_reducible refine At_nil ?_)) | ((with_reducible refine is_At ?_); (first | with_reducible refine At_seq ?_; intro K hK | with_reducible refine At_region ?_ | with_reducible refine At_then_n ?_ | with_reducible refine At_go (by assumption) ?_))))
  refine At_callB hF E10 rfl (u := .tuple #[.int .i64 5, .int .i64 0]) (arg2 (by (first | exact (rfl : _ = (Value.int _ _)) | exact (rfl : _ = (Value.bool _)) | exact (rfl : _ = (Value.pointer _)) | exact (rfl : _ = (Value.slice _ _ _)) | exact (rfl : _ = (Value.map _)) | exact (rfl : _ = (Value.func _ _ _)) | exact (rfl : _ = (Value.tuple _)) | exact (rfl : _ = (Value.agg _)) | exact (rfl : _ = (Value.string _)) | exact (rfl : _ = (Value.nilFunc)) | exact (rfl : _ = (Value.nilIface)))) (by (first | exact (rfl : _ = (Value.int _ _)) | exact (rfl : _ = (Value.bool _)) | exact (rfl : _ = (Value.pointer _)) | exact (rfl : _ = (Value.slice _ _ _)) | exact (rfl : _ = (Value.map _)) | exact (rfl : _ = (Value.func _ _ _)) | exact (rfl : _ = (Value.tuple _)) | exact (rfl : _ = (Value.agg _)) | exact (rfl : _ = (Value.string _)) | exact (rfl : _ = (Value.nilFunc)) | exact (rfl : _ = (Value.nilIface))))) (fun w' hw' => r51 w') ?_
  (repeat (first | ((with_reducible refine is_AL ?_); (first | ((with_reducible refine is_move ?_); (refine At_plain hF (by (exact (rfl : _ = some (Value.tuple _)))) ?_)) | ((with_reducible refine is_assign ?_); (refine At_plain hF (by (exact (rfl : _ = some (Value.int _ _)))) ?_)) | ((with_reducible refine is_extract ?_); (refine At_plain hF (by (exact (rfl : _ = some (Value.int _ _)))) ?_)) | with_reducible refine At_nil ?_)) | ((with_reducible refine is_At ?_); (first | with_reducible refine At_seq ?_; intro K hK | with_reducible refine At_region ?_ | with_reducible refine At_then_n ?_ | with_reducible refine At_go (by assumption) ?_))))
  refine At_callB hF E10 rfl (u := .tuple #[.int .i64 6, .int .i64 0]) (arg2 (by (first | exact (rfl : _ = (Value.int _ _)) | exact (rfl : _ = (Value.bool _)) | exact (rfl : _ = (Value.pointer _)) | exact (rfl : _ = (Value.slice _ _ _)) | exact (rfl : _ = (Value.map _)) | exact (rfl : _ = (Value.func _ _ _)) | exact (rfl : _ = (Value.tuple _)) | exact (rfl : _ = (Value.agg _)) | exact (rfl : _ = (Value.string _)) | exact (rfl : _ = (Value.nilFunc)) | exact (rfl : _ = (Value.nilIface)))) (by (first | exact (rfl : _ = (Value.int _ _)) | exact (rfl : _ = (Value.bool _)) | exact (rfl : _ = (Value.pointer _)) | exact (rfl : _ = (Value.slice _ _ _)) | exact (rfl : _ = (Value.map _)) | exact (rfl : _ = (Value.func _ _ _)) | exact (rfl : _ = (Value.tuple _)) | exact (rfl : _ = (Value.agg _)) | exact (rfl : _ = (Value.string _)) | exact (rfl : _ = (Value.nilFunc)) | exact (rfl : _ = (Value.nilIface))))) (fun w' hw' => r43 w') ?_
  (repeat (first | ((with_reducible refine is_AL ?_); (first | ((with_reducible refine is_guarded ?_); (refine At_guard_t rfl (by decide) rfl ?_)) | ((with_reducible refine is_move ?_); (refine At_plain hF (by (first | exact (rfl : _ = some (Value.int _ _)) | exact (rfl : _ = some (Value.bool _)) | exact (rfl : _ = some (Value.tuple _)))) ?_)) | ((with_reducible refine is_bin ?_); (refine At_plain hF (by (exact (rfl : _ = some (Value.bool _)))) ?_)) | ((with_reducible refine is_assign ?_); (refine At_plain hF (by (exact (rfl : _ = some (Value.int _ _)))) ?_)) | ((with_reducible refine is_pick ?_); (refine At_plain hF (by (exact (rfl : _ = some (Value.bool _)))) ?_)) | ((with_reducible refine is_extract ?_); (refine At_plain hF (by (exact (rfl : _ = some (Value.int _ _)))) ?_)) | with_reducible refine At_nil ?_)) | ((with_reducible refine is_At ?_); (first | with_reducible refine At_seq ?_; intro K hK | with_reducible refine At_region ?_ | with_reducible refine At_skip ?_ | with_reducible refine At_then_n ?_ | with_reducible refine At_go (by assumption) ?_ | ((with_reducible refine is_cond ?_); (refine At_cond_f rfl ?_))))))
  refine At_callB hF E15 rfl (u := .int .i64 200) (arg3 (by (first | exact (rfl : _ = (Value.int _ _)) | exact (rfl : _ = (Value.bool _)) | exact (rfl : _ = (Value.pointer _)) | exact (rfl : _ = (Value.slice _ _ _)) | exact (rfl : _ = (Value.map _)) | exact (rfl : _ = (Value.func _ _ _)) | exact (rfl : _ = (Value.tuple _)) | exact (rfl : _ = (Value.agg _)) | exact (rfl : _ = (Value.string _)) | exact (rfl : _ = (Value.nilFunc)) | exact (rfl : _ = (Value.nilIface)))) (by (first | exact (rfl : _ = (Value.int _ _)) | exact (rfl : _ = (Value.bool _)) | exact (rfl : _ = (Value.pointer _)) | exact (rfl : _ = (Value.slice _ _ _)) | exact (rfl : _ = (Value.map _)) | exact (rfl : _ = (Value.func _ _ _)) | exact (rfl : _ = (Value.tuple _)) | exact (rfl : _ = (Value.agg _)) | exact (rfl : _ = (Value.string _)) | exact (rfl : _ = (Value.nilFunc)) | exact (rfl : _ = (Value.nilIface)))) (by (first | exact (rfl : _ = (Value.int _ _)) | exact (rfl : _ = (Value.bool _)) | exact (rfl : _ = (Value.pointer _)) | exact (rfl : _ = (Value.slice _ _ _)) | exact (rfl : _ = (Value.map _)) | exact (rfl : _ = (Value.func _ _ _)) | exact (rfl : _ = (Value.tuple _)) | exact (rfl : _ = (Value.agg _)) | exact (rfl : _ = (Value.string _)) | exact (rfl : _ = (Value.nilFunc)) | exact (rfl : _ = (Value.nilIface))))) (fun w' hw' => c21 w' none 0 (C37_nil w')) ?_
  (repeat ((with_reducible refine is_AL ?_); (first | ((with_reducible refine is_guarded ?_); (refine At_guard_t rfl (by decide) rfl ?_)) | ((with_reducible refine is_move ?_); (refine At_plain hF (by (first | exact (rfl : _ = some (Value.bool _)) | exact (rfl : _ = some (Value.slice _ _ _)))) ?_)) | ((with_reducible refine is_bin ?_); (refine At_plain hF (by (exact (rfl : _ = some (Value.bool _)))) ?_)))))
  refine At_callB hF E15 rfl (u := .int .i64 0) (arg3 (by (first | exact (rfl : _ = (Value.int _ _)) | exact (rfl : _ = (Value.bool _)) | exact (rfl : _ = (Value.pointer _)) | exact (rfl : _ = (Value.slice _ _ _)) | exact (rfl : _ = (Value.map _)) | exact (rfl : _ = (Value.func _ _ _)) | exact (rfl : _ = (Value.tuple _)) | exact (rfl : _ = (Value.agg _)) | exact (rfl : _ = (Value.string _)) | exact (rfl : _ = (Value.nilFunc)) | exact (rfl : _ = (Value.nilIface)))) (by (first | exact (rfl : _ = (Value.int _ _)) | exact (rfl : _ = (Value.bool _)) | exact (rfl : _ = (Value.pointer _)) | exact (rfl : _ = (Value.slice _ _ _)) | exact (rfl : _ = (Value.map _)) | exact (rfl : _ = (Value.func _ _ _)) | exact (rfl : _ = (Value.tuple _)) | exact (rfl : _ = (Value.agg _)) | exact (rfl : _ = (Value.string _)) | exact (rfl : _ = (Value.nilFunc)) | exact (rfl : _ = (Value.nilIface)))) (by (first | exact (rfl : _ = (Value.int _ _)) | exact (rfl : _ = (Value.bool _)) | exact (rfl : _ = (Value.pointer _)) | exact (rfl : _ = (Value.slice _ _ _)) | exact (rfl : _ = (Value.map _)) | exact (rfl : _ = (Value.func _ _ _)) | exact (rfl : _ = (Value.tuple _)) | exact (rfl : _ = (Value.agg _)) | exact (rfl : _ = (Value.string _)) | exact (rfl : _ = (Value.nilFunc)) | exact (rfl : _ = (Value.nilIface))))) (fun w' hw' => c41 w' _ ca (C_ownI hw' 2 rfl)) ?_
  (repeat ((with_reducible refine is_AL ?_); (first | ((with_reducible refine is_guarded ?_); (refine At_guard_t rfl (by decide) rfl ?_)) | ((with_reducible refine is_move ?_); (refine At_plain hF (by (first | exact (rfl : _ = some (Value.bool _)) | exact (rfl : _ = some (Value.slice _ _ _)))) ?_)) | ((with_reducible refine is_bin ?_); (refine At_plain hF (by (exact (rfl : _ = some (Value.bool _)))) ?_)) | ((with_reducible refine is_pick ?_); (refine At_plain hF (by (exact (rfl : _ = some (Value.bool _)))) ?_)))))
  refine At_callB hF E15 rfl (u := .int .i64 0) (arg3 (by (first | exact (rfl : _ = (Value.int _ _)) | exact (rfl : _ = (Value.bool _)) | exact (rfl : _ = (Value.pointer _)) | exact (rfl : _ = (Value.slice _ _ _)) | exact (rfl : _ = (Value.map _)) | exact (rfl : _ = (Value.func _ _ _)) | exact (rfl : _ = (Value.tuple _)) | exact (rfl : _ = (Value.agg _)) | exact (rfl : _ = (Value.string _)) | exact (rfl : _ = (Value.nilFunc)) | exact (rfl : _ = (Value.nilIface)))) (by (first | exact (rfl : _ = (Value.int _ _)) | exact (rfl : _ = (Value.bool _)) | exact (rfl : _ = (Value.pointer _)) | exact (rfl : _ = (Value.slice _ _ _)) | exact (rfl : _ = (Value.map _)) | exact (rfl : _ = (Value.func _ _ _)) | exact (rfl : _ = (Value.tuple _)) | exact (rfl : _ = (Value.agg _)) | exact (rfl : _ = (Value.string _)) | exact (rfl : _ = (Value.nilFunc)) | exact (rfl : _ = (Value.nilIface)))) (by (first | exact (rfl : _ = (Value.int _ _)) | exact (rfl : _ = (Value.bool _)) | exact (rfl : _ = (Value.pointer _)) | exact (rfl : _ = (Value.slice _ _ _)) | exact (rfl : _ = (Value.map _)) | exact (rfl : _ = (Value.func _ _ _)) | exact (rfl : _ = (Value.tuple _)) | exact (rfl : _ = (Value.agg _)) | exact (rfl : _ = (Value.string _)) | exact (rfl : _ = (Value.nilFunc)) | exact (rfl : _ = (Value.nilIface))))) (fun w' hw' => c23 w' _ cb (C_ownI hw' 1 rfl)) ?_
  (repeat (first | ((with_reducible refine is_AL ?_); (first | ((with_reducible refine is_guarded ?_); (refine At_guard_t rfl (by decide) rfl ?_)) | ((with_reducible refine is_move ?_); (refine At_plain hF (by (exact (rfl : _ = some (Value.slice _ _ _)))) ?_)) | ((with_reducible refine is_bin ?_); (refine At_plain hF (by (exact (rfl : _ = some (Value.bool _)))) ?_)) | ((with_reducible refine is_pick ?_); (refine At_plain hF (by (exact (rfl : _ = some (Value.bool _)))) ?_)) | with_reducible refine At_nil ?_)) | ((with_reducible refine is_At ?_); (first | with_reducible refine At_seq ?_; intro K hK | with_reducible refine At_region ?_ | with_reducible refine At_skip ?_ | with_reducible refine At_then_n ?_ | with_reducible refine At_go (by assumption) ?_ | ((with_reducible refine is_cond ?_); (refine At_cond_f rfl ?_))))))
  refine At_build3 hF (by exact rfl) (by exact rfl) (by exact rfl) ?_
  skip
  refine At_build3 hF (by exact rfl) (by exact rfl) (by exact rfl) ?_
  skip
  refine At_build3 hF (by exact rfl) (by exact rfl) (by exact rfl) ?_
  skip
  refine At_build3 hF (by exact rfl) (by exact rfl) (by exact rfl) ?_
  skip
  refine At_build3 hF (by exact rfl) (by exact rfl) (by exact rfl) ?_
  skip
  refine At_build3 hF (by exact rfl) (by exact rfl) (by exact rfl) ?_
  skip
  refine At_slice37 hF l41 (by decide) rfl (by decide) (by exact rfl) ?_
  intro b6
  skip
  refine At_callM hF E19 rfl (Post := fun u Rs => ∃ A' c', u = rowV A' l41.length c' ∧ Rs = [.row 37 3 enc37 A' c' l41]) (arg1 (by (first | exact (rfl : _ = (Value.int _ _)) | exact (rfl : _ = (Value.bool _)) | exact (rfl : _ = (Value.pointer _)) | exact (rfl : _ = (Value.slice _ _ _)) | exact (rfl : _ = (Value.map _)) | exact (rfl : _ = (Value.func _ _ _)) | exact (rfl : _ = (Value.tuple _)) | exact (rfl : _ = (Value.agg _)) | exact (rfl : _ = (Value.string _)) | exact (rfl : _ = (Value.nilFunc)) | exact (rfl : _ = (Value.nilIface))))) (fun w' hw' => t1 w' _ 6 (C_ownI hw' 0 rfl)) ?_
  rintro _ _ ⟨A6, c6, rfl, rfl⟩
  simp only [List.cons_append, List.nil_append]
  skip
  refine At_callB hF E14 rfl (u := .bool true) (arg2 (by (first | exact (rfl : _ = (Value.int _ _)) | exact (rfl : _ = (Value.bool _)) | exact (rfl : _ = (Value.pointer _)) | exact (rfl : _ = (Value.slice _ _ _)) | exact (rfl : _ = (Value.map _)) | exact (rfl : _ = (Value.func _ _ _)) | exact (rfl : _ = (Value.tuple _)) | exact (rfl : _ = (Value.agg _)) | exact (rfl : _ = (Value.string _)) | exact (rfl : _ = (Value.nilFunc)) | exact (rfl : _ = (Value.nilIface)))) (by (first | exact (rfl : _ = (Value.int _ _)) | exact (rfl : _ = (Value.bool _)) | exact (rfl : _ = (Value.pointer _)) | exact (rfl : _ = (Value.slice _ _ _)) | exact (rfl : _ = (Value.map _)) | exact (rfl : _ = (Value.func _ _ _)) | exact (rfl : _ = (Value.tuple _)) | exact (rfl : _ = (Value.agg _)) | exact (rfl : _ = (Value.string _)) | exact (rfl : _ = (Value.nilFunc)) | exact (rfl : _ = (Value.nilIface))))) (fun w' hw' => s1 w' _ ca _ c6 (C_ownI hw' 4 rfl) (cap_ownI hw' 4 rfl) (C_ownI hw' 0 rfl) (cap_ownI hw' 0 rfl)) ?_
  (repeat (first | ((with_reducible refine is_AL ?_); (first | ((with_reducible refine is_guarded ?_); (refine At_guard_t rfl (by decide) rfl ?_)) | ((with_reducible refine is_move ?_); (refine At_plain hF (by (first | exact (rfl : _ = some (Value.bool _)) | exact (rfl : _ = some (Value.slice _ _ _)))) ?_)) | ((with_reducible refine is_assign ?_); (refine At_plain hF (by (exact (rfl : _ = some (Value.bool _)))) ?_)) | with_reducible refine At_nil ?_)) | ((with_reducible refine is_At ?_); (first | with_reducible refine At_seq ?_; intro K hK | with_reducible refine At_region ?_ | with_reducible refine At_then_n ?_ | with_reducible refine At_go (by assumption) ?_))))
  refine At_build3 hF (by exact rfl) (by exact rfl) (by exact rfl) ?_
  (repeat ((with_reducible refine is_AL ?_); ((with_reducible refine is_guarded ?_); (refine At_guard_t rfl (by decide) rfl ?_))))
  refine At_build3 hF (by exact rfl) (by exact rfl) (by exact rfl) ?_
  (repeat ((with_reducible refine is_AL ?_); ((with_reducible refine is_guarded ?_); (refine At_guard_t rfl (by decide) rfl ?_))))
  refine At_slice37 hF l22 (by decide) rfl (by decide) (by exact rfl) ?_
  intro b2
  (repeat ((with_reducible refine is_AL ?_); ((with_reducible refine is_guarded ?_); (refine At_guard_t rfl (by decide) rfl ?_))))
  refine At_callM hF E19 rfl (Post := fun u Rs => ∃ A' c', u = rowV A' l22.length c' ∧ Rs = [.row 37 3 enc37 A' c' l22]) (arg1 (by (first | exact (rfl : _ = (Value.int _ _)) | exact (rfl : _ = (Value.bool _)) | exact (rfl : _ = (Value.pointer _)) | exact (rfl : _ = (Value.slice _ _ _)) | exact (rfl : _ = (Value.map _)) | exact (rfl : _ = (Value.func _ _ _)) | exact (rfl : _ = (Value.tuple _)) | exact (rfl : _ = (Value.agg _)) | exact (rfl : _ = (Value.string _)) | exact (rfl : _ = (Value.nilFunc)) | exact (rfl : _ = (Value.nilIface))))) (fun w' hw' => t2 w' _ 2 (C_ownI hw' 0 rfl)) ?_
  rintro _ _ ⟨A2, c2, rfl, rfl⟩
  simp only [List.cons_append, List.nil_append]
  (repeat ((with_reducible refine is_AL ?_); ((with_reducible refine is_guarded ?_); (refine At_guard_t rfl (by decide) rfl ?_))))
  refine At_callB hF E14 rfl (u := .bool true) (arg2 (by (first | exact (rfl : _ = (Value.int _ _)) | exact (rfl : _ = (Value.bool _)) | exact (rfl : _ = (Value.pointer _)) | exact (rfl : _ = (Value.slice _ _ _)) | exact (rfl : _ = (Value.map _)) | exact (rfl : _ = (Value.func _ _ _)) | exact (rfl : _ = (Value.tuple _)) | exact (rfl : _ = (Value.agg _)) | exact (rfl : _ = (Value.string _)) | exact (rfl : _ = (Value.nilFunc)) | exact (rfl : _ = (Value.nilIface)))) (by (first | exact (rfl : _ = (Value.int _ _)) | exact (rfl : _ = (Value.bool _)) | exact (rfl : _ = (Value.pointer _)) | exact (rfl : _ = (Value.slice _ _ _)) | exact (rfl : _ = (Value.map _)) | exact (rfl : _ = (Value.func _ _ _)) | exact (rfl : _ = (Value.tuple _)) | exact (rfl : _ = (Value.agg _)) | exact (rfl : _ = (Value.string _)) | exact (rfl : _ = (Value.nilFunc)) | exact (rfl : _ = (Value.nilIface))))) (fun w' hw' => s2 w' _ cb _ c2 (C_ownI hw' 5 rfl) (cap_ownI hw' 5 rfl) (C_ownI hw' 0 rfl) (cap_ownI hw' 0 rfl)) ?_
  (repeat ((with_reducible refine is_AL ?_); (first | ((with_reducible refine is_guarded ?_); (refine At_guard_t rfl (by decide) rfl ?_)) | ((with_reducible refine is_move ?_); (refine At_plain hF (by (first | exact (rfl : _ = some (Value.bool _)) | exact (rfl : _ = some (Value.slice _ _ _)))) ?_)) | ((with_reducible refine is_pick ?_); (refine At_plain hF (by (exact (rfl : _ = some (Value.bool _)))) ?_)))))
  refine At_build3 hF (by exact rfl) (by exact rfl) (by exact rfl) ?_
  (repeat ((with_reducible refine is_AL ?_); ((with_reducible refine is_guarded ?_); (refine At_guard_t rfl (by decide) rfl ?_))))
  refine At_build3 hF (by exact rfl) (by exact rfl) (by exact rfl) ?_
  (repeat ((with_reducible refine is_AL ?_); ((with_reducible refine is_guarded ?_); (refine At_guard_t rfl (by decide) rfl ?_))))
  refine At_build3 hF (by exact rfl) (by exact rfl) (by exact rfl) ?_
  (repeat ((with_reducible refine is_AL ?_); ((with_reducible refine is_guarded ?_); (refine At_guard_t rfl (by decide) rfl ?_))))
  refine At_slice37 hF l31 (by decide) rfl (by decide) (by exact rfl) ?_
  intro b3
  (repeat ((with_reducible refine is_AL ?_); ((with_reducible refine is_guarded ?_); (refine At_guard_t rfl (by decide) rfl ?_))))
  refine At_callM hF E19 rfl (Post := fun u Rs => ∃ A' c', u = rowV A' l31.length c' ∧ Rs = [.row 37 3 enc37 A' c' l31]) (arg1 (by (first | exact (rfl : _ = (Value.int _ _)) | exact (rfl : _ = (Value.bool _)) | exact (rfl : _ = (Value.pointer _)) | exact (rfl : _ = (Value.slice _ _ _)) | exact (rfl : _ = (Value.map _)) | exact (rfl : _ = (Value.func _ _ _)) | exact (rfl : _ = (Value.tuple _)) | exact (rfl : _ = (Value.agg _)) | exact (rfl : _ = (Value.string _)) | exact (rfl : _ = (Value.nilFunc)) | exact (rfl : _ = (Value.nilIface))))) (fun w' hw' => t3 w' _ 3 (C_ownI hw' 0 rfl)) ?_
  rintro _ _ ⟨A3, c3, rfl, rfl⟩
  simp only [List.cons_append, List.nil_append]
  (repeat ((with_reducible refine is_AL ?_); ((with_reducible refine is_guarded ?_); (refine At_guard_t rfl (by decide) rfl ?_))))
  refine At_callB hF E14 rfl (u := .bool true) (arg2 (by (first | exact (rfl : _ = (Value.int _ _)) | exact (rfl : _ = (Value.bool _)) | exact (rfl : _ = (Value.pointer _)) | exact (rfl : _ = (Value.slice _ _ _)) | exact (rfl : _ = (Value.map _)) | exact (rfl : _ = (Value.func _ _ _)) | exact (rfl : _ = (Value.tuple _)) | exact (rfl : _ = (Value.agg _)) | exact (rfl : _ = (Value.string _)) | exact (rfl : _ = (Value.nilFunc)) | exact (rfl : _ = (Value.nilIface)))) (by (first | exact (rfl : _ = (Value.int _ _)) | exact (rfl : _ = (Value.bool _)) | exact (rfl : _ = (Value.pointer _)) | exact (rfl : _ = (Value.slice _ _ _)) | exact (rfl : _ = (Value.map _)) | exact (rfl : _ = (Value.func _ _ _)) | exact (rfl : _ = (Value.tuple _)) | exact (rfl : _ = (Value.agg _)) | exact (rfl : _ = (Value.string _)) | exact (rfl : _ = (Value.nilFunc)) | exact (rfl : _ = (Value.nilIface))))) (fun w' hw' => s3 w' _ cc _ c3 (C_ownI hw' 6 rfl) (cap_ownI hw' 6 rfl) (C_ownI hw' 0 rfl) (cap_ownI hw' 0 rfl)) ?_
  (repeat (first | ((with_reducible refine is_AL ?_); (first | ((with_reducible refine is_assign ?_); (refine At_plain hF (by (exact (rfl : _ = some (Value.bool _)))) ?_)) | ((with_reducible refine is_pick ?_); (refine At_plain hF (by (exact (rfl : _ = some (Value.bool _)))) ?_)) | with_reducible refine At_nil ?_)) | ((with_reducible refine is_At ?_); (first | with_reducible refine At_ret ?_ | with_reducible refine At_then_n ?_ | with_reducible refine At_go (by assumption) ?_))))
  exact At_ret1 rfl (rv_tmp (by decide)) (fun w' hw' => ⟨_, rfl, rfl, hw'.below⟩)
theorem mk_of (n : Nat) (kind : Int) (hn : 2 ≤ n ∧ n ≤ 20) (hk : 1 ≤ kind ∧ kind ≤ 3) : MkR n kind (mkM n kind) := fun w => (mkM_rets w n kind hn hk).mono (by
  rintro _ w2 ⟨_, rfl, A, c, rfl, h⟩
  exact ⟨_, rfl, _, ⟨A, c, rfl, rfl⟩, h⟩)
theorem chk_of (n : Nat) (kind : Int) (l : List S37) (r : Int) (hn : 2 ≤ n ∧ n ≤ 20) (hk : 1 ≤ kind ∧ kind ≤ 3) (hl : l.length ≤ 1000000) (h : chkM n kind l = r) : ChkR n kind l r := fun w A c hC => by
  have := chkM_rets w n kind hn hk A c l hC hl
  rw [h] at this
  exact this
theorem same_of (k : Nat) (l l' : List S37) (h : fastiref20_Same.f k l l' = some true) : SameR l l' := fun w A c A' c' hC hc hC' hc' => (fastiref20_Same.calls k A c l A' c' l' true w hC hc hC' hc' h).mono (by rintro _ w' ⟨rfl, hb⟩; exact ⟨_, rfl, rfl, hb.below⟩)
theorem rnds_of (n kind r : Int) (h : robin_Rounds.f n kind = some (r, 0)) : RndsR n kind r := fun w => (robin_Rounds.calls n kind r 0 w h).mono (by rintro e w' ⟨rfl, hb⟩; exact ⟨_, rfl, rfl, hb⟩)
theorem lst_of (l : List S37) (hl : l.length ≤ 1000000) : LstR l := fun w A c hC => (list_rets w A c l hC hl).mono (by
  rintro _ w2 ⟨_, rfl, A, c, rfl, h⟩
  exact ⟨_, rfl, _, ⟨A, c, rfl, rfl⟩, h⟩)
theorem mk_len41 : (mkM 4 1).length ≤ 1000000 := by decide +kernel
theorem mk_len22 : (mkM 2 2).length ≤ 1000000 := by decide +kernel
theorem c21_at : chkM 2 1 [] = 200 := by decide +kernel
theorem c41_at : chkM 4 1 (mkM 4 1) = 0 := by decide +kernel
theorem c23_at : chkM 2 3 (mkM 2 2) = 0 := by decide +kernel
theorem s1_at : fastiref20_Same.f 20 (mkM 4 1) l41 = some true := by decide +kernel
theorem s2_at : fastiref20_Same.f 20 (mkM 2 2) l22 = some true := by decide +kernel
theorem s3_at : fastiref20_Same.f 20 (mkM 3 1) l31 = some true := by decide +kernel
theorem r51_at : robin_Rounds.f 5 1 = some (5, 0) := by decide +kernel
theorem r43_at : robin_Rounds.f 4 3 = some (6, 0) := by decide +kernel
theorem sane_rets (w0 : World) : Rets Try.prog 9 #[] w0 fun u w' => u = .bool true ∧ Below w0.heap.size w0 w' :=
  sane_core w0 (mkM 4 1) (mkM 2 2) (mkM 3 1) (mk_of 4 1 (by omega) (by omega)) (mk_of 2 2 (by omega) (by omega)) (mk_of 3 1 (by omega) (by omega)) (fun w => make_bad w 1 1 (by omega)) (fun w => make_bad w 4 5 (by omega)) (rnds_of 5 1 5 r51_at) (rnds_of 4 3 6 r43_at)
    (chk_of 2 1 [] 200 (by omega) (by omega) (by simp) c21_at) (chk_of 4 1 _ 0 (by omega) (by omega) mk_len41 c41_at) (chk_of 2 3 _ 0 (by omega) (by omega) mk_len22 c23_at) (same_of 20 _ _ s1_at) (same_of 20 _ _ s2_at) (same_of 20 _ _ s3_at) (lst_of _ (by decide)) (lst_of _ (by decide)) (lst_of _ (by decide))
end Go.Proofs.Ythddaojdlfifeaa.P

/- The examples: contract. -/
namespace Go.Proofs.Ythddaojdlfifeaa.P
open Go.RowKit Go.Proofs.YthddaojdlfifeaaW.PrintWords Go.Proofs.YthddaojdlfifeaaW.PrintLast Go.Proofs.YthddaojdlfifeaaW.PrintMore
open XW RegInv
end Go.Proofs.Ythddaojdlfifeaa.P
