/- fastiref22.Rounds and Foes: the walks. -/
import Derived.Test.YtcjpghiceebkfaaGVal
import Derived.Test.YtcjpghiceebkfaaXB
namespace Go.Proofs.Ytcjpghiceebkfaa.P
open Go.RowKit Go.Proofs.YtcjpghiceebkfaaW.PrintWords Go.Proofs.YtcjpghiceebkfaaW.PrintLast Go.Proofs.YtcjpghiceebkfaaW.PrintMore
open XW RegInv
attribute [local irreducible] Addr.add
set_option linter.unusedSimpArgs false
set_option linter.unusedVariables false

theorem E25 : Enters Try.prog 25 := enters Try.func25 (by kernel_rfl) rfl
theorem E22 : Enters Try.prog 22 := enters Try.func22 (by kernel_rfl) rfl
/-- a meeting's three cells -/
theorem C45 {w : World} {A : Option Addr} {n : Nat} {m : List S45} (h : Kd.C k45 w A n m) (k : Nat) (hk : k < n) :
    ∃ ad, A = some ad ∧ w.cell? (ad.add (k * 3 + 0)) = some (.int .i64 (m.getD k z45).f0) ∧ w.cell? (ad.add (k * 3 + 1)) = some (.int .i64 (m.getD k z45).f1) ∧ w.cell? (ad.add (k * 3 + 2)) = some (.int .i64 (m.getD k z45).f2) := by
  obtain ⟨ad, hA, hc⟩ := C_flat (enc := enc45) (fun h => k45_open h) h z45 k hk
  refine ⟨ad, hA, ?_, ?_, ?_⟩
  · rw [← addr_add_add]; exact hc 0 _ rfl
  · rw [← addr_add_add]; exact hc 1 _ rfl
  · rw [← addr_add_add]; exact hc 2 _ rfl
def rndF (s : Int) (x : S45) : Int := max s (x.f0 + 1)
def roundsF (m : List S45) : Int := m.foldl rndF 0
theorem getD45 {m : List S45} {k : Nat} (h : k < m.length) : m.getD k z45 ∈ m := getD_mem' h
theorem rnd_bd (m : List S45) (h : ∀ x ∈ m, 0 ≤ x.f0 ∧ x.f0 ≤ 63) : ∀ s : Int, 0 ≤ s → s ≤ 64 → 0 ≤ m.foldl rndF s ∧ m.foldl rndF s ≤ 64 ∧ s ≤ m.foldl rndF s ∧ ∀ x ∈ m, x.f0 < m.foldl rndF s := by
  induction m with
  | nil => intro s h1 h2; exact ⟨h1, h2, Int.le_refl _, fun x h => by cases h⟩
  | cons x m ih =>
    intro s h1 h2
    have hx := h x (by simp)
    have hi := ih (fun y hy => h y (by simp [hy])) (rndF s x) (by unfold rndF; omega) (by unfold rndF; omega)
    rw [List.foldl_cons]
    refine ⟨hi.1, hi.2.1, ?_, fun y hy => ?_⟩
    · have := hi.2.2.1; unfold rndF at this; unfold rndF; omega
    · rcases List.mem_cons.1 hy with rfl | hy
      · have := hi.2.2.1; unfold rndF at this; unfold rndF; omega
      · exact hi.2.2.2 y hy
theorem rounds_rets {base w : World} {R : List Res} (hw : Mem base w R) (A : Option Addr) (c : Nat) (m : List S45) (hr : Kd.C k45 w A m.length m) (hc : m.length ≤ c) (hm : ∀ x ∈ m, 0 ≤ x.f0 ∧ x.f0 ≤ 63) :
    Rets Try.prog 25 #[.slice A m.length c] w fun u w' => u = .int .i64 (roundsF m) ∧ Below w.heap.size w w' := by
  have hF := wide_wide
  have hmx := hr.2.1
  refine rets_at (n := 20) Try.func25 rfl Try.ntmps25 (by simp) ?_
  (repeat (first | ((with_reducible refine is_AL ?_); (first | ((with_reducible refine is_assign ?_); (refine At_plain hF (by (exact (rfl : _ = some (Value.int _ _)))) ?_)) | with_reducible refine At_nil ?_)) | ((with_reducible refine is_At ?_); (first | with_reducible refine At_seq ?_; intro K hK | with_reducible refine At_block ?_ | with_reducible refine At_region ?_ | with_reducible refine At_then_n ?_ | with_reducible refine At_go (by assumption) ?_))))
  refine At_loop (fun st : Nat × Int => [(0, .slice A m.length c), (3, .int .i64 st.2), (4, .int .i64 st.1)]) (fun _ => []) (fun st => st.1 ≤ m.length ∧ st.2 = (m.take st.1).foldl rndF 0) (fun st => m.length - st.1) (0, 0) ?_ ?_ ⟨Nat.zero_le _, rfl⟩ ?_
  · (repeat (first | exact List.Sublist.refl _ | exact List.Sublist.slnil | refine List.Sublist.cons_cons _ ?_ | refine List.Sublist.cons _ ?_))
  · (repeat (first | exact True.intro | (refine And.intro ?_ ?_; focus (show _ = (_ : Value); first | exact rfl | (refine Eq.trans (b := Value.int IntKind.i64 _) rfl (congrArg (Value.int IntKind.i64) ?_); omega)))))
  rintro ⟨k, s⟩ ⟨hk, hs⟩ K hL ρ0
  simp only at hk hs
  try dsimp only
  (repeat (first | ((with_reducible refine is_AL ?_); (first | ((with_reducible refine is_move ?_); (refine At_plain hF (by (first | exact (rfl : _ = some (Value.int _ _)) | exact (rfl : _ = some (Value.slice _ _ _)))) ?_)) | ((with_reducible refine is_bin ?_); (refine At_plain hF (by (exact (rfl : _ = some (Value.bool _)))) ?_)) | ((with_reducible refine is_call ?_); (refine At_len hF rfl ?_)) | with_reducible refine At_nil ?_)) | ((with_reducible refine is_At ?_); (first | with_reducible refine At_seq ?_; intro K hK | with_reducible refine At_region ?_ | with_reducible refine At_then_n ?_ | with_reducible refine At_go (by assumption) ?_))))
  ((with_reducible refine is_cond ?_); (refine At_cond rfl ?_ ?_ <;> (intro hg; try (simp only [decide_eq_true_eq, decide_eq_false_iff_not, beq_iff_eq, bne_iff_ne, beq_eq_false_iff_ne, bne_eq_false_iff_eq, ne_eq, Bool.not_eq_true', Bool.not_eq_false', Bool.not_true, Bool.not_false, Decidable.not_not] at hg); try (exfalso; omega))))
  · have hlt : k < m.length := by omega
    obtain ⟨ad, hA, h0, h1, h2⟩ := C45 hr k hlt
    have hx := hm _ (getD45 hlt)
    (repeat (first | ((with_reducible refine is_AL ?_); (first | ((with_reducible refine is_move ?_); (refine At_plain hF (by (first | exact (rfl : _ = some (Value.int _ _)) | exact (rfl : _ = some (Value.slice _ _ _)))) ?_)) | ((with_reducible refine is_field ?_); (refine At_fieldC hF rfl ?_)) | ((with_reducible refine is_index ?_); (refine At_indexC hF rfl (by assumption) rfl (by omega) ?_)))) | ((with_reducible refine is_At ?_); (first | with_reducible refine At_seq ?_; intro K hK | with_reducible refine At_block ?_ | with_reducible refine At_region ?_ | with_reducible refine At_skip ?_ | with_reducible refine At_then_n ?_ | with_reducible refine At_go (by assumption) ?_))))
    refine At_loadC hF (by exact rfl) h0 ?_
    (repeat (first | ((with_reducible refine is_AL ?_); (first | ((with_reducible refine is_move ?_); (refine At_plain hF (by (exact (rfl : _ = some (Value.int _ _)))) ?_)) | ((with_reducible refine is_bin ?_); ((with_reducible refine is_badd ?_); (refine At_add hF rfl rfl (by omega) ?_))) | ((with_reducible refine is_assign ?_); (refine At_plain hF (by (exact (rfl : _ = some (Value.int _ _)))) ?_)) | ((with_reducible refine is_call ?_); (refine At_max hF rfl rfl ?_)) | with_reducible refine At_nil ?_)) | ((with_reducible refine is_At ?_); (first | with_reducible refine At_region ?_ | with_reducible refine At_then_n ?_ | with_reducible refine At_inb_n ?_ | with_reducible refine At_go (by assumption) ?_))))
    refine At.sub ?_ (hL (k + 1, max s ((m.getD k z45).f0 + 1)) _ ⟨hlt, by rw [take_snoc45 m k hlt, List.foldl_append, ← hs]; rfl⟩ (by simp only; omega) ?_)
    · (repeat (first | exact List.Sublist.refl _ | exact List.Sublist.slnil | refine List.Sublist.cons_cons _ ?_ | refine List.Sublist.cons _ ?_))
    · (repeat (first | exact True.intro | (refine And.intro ?_ ?_; focus (show _ = (_ : Value); first | exact rfl | (refine Eq.trans (b := Value.int IntKind.i64 _) rfl (congrArg (Value.int IntKind.i64) ?_); omega)))))
  · obtain rfl : k = m.length := by omega
    (repeat (first | ((with_reducible refine is_AL ?_); (first | ((with_reducible refine is_move ?_); (refine At_plain hF (by (exact (rfl : _ = some (Value.int _ _)))) ?_)) | ((with_reducible refine is_assign ?_); (refine At_plain hF (by (exact (rfl : _ = some (Value.int _ _)))) ?_)) | with_reducible refine At_nil ?_)) | ((with_reducible refine is_At ?_); (first | with_reducible refine At_seq ?_; intro K hK | with_reducible refine At_region ?_ | with_reducible refine At_ret ?_ | with_reducible refine At_exit ?_ | with_reducible refine At_then_n ?_ | with_reducible refine At_then_e ?_ | with_reducible refine At_inb_e rfl ?_ | with_reducible refine At_go (by assumption) ?_))))
    refine At_ret1 rfl (rv_tmp (by decide)) (fun w' hw' => ⟨_, rfl, ?_, hw'.below⟩)
    rw [roundsF, ← List.take_length (l := m), ← hs]; rfl
/-- both opponents written -/
def setFoe (M : List (List Int)) (x : S45) : List (List Int) :=
  let M1 := M.set x.f0.toNat ((M.getD x.f0.toNat []).set x.f1.toNat x.f2)
  M1.set x.f0.toNat ((M1.getD x.f0.toNat []).set x.f2.toNat x.f1)
def F0 (R N : Nat) : List (List Int) := List.replicate R (List.replicate N (-1))
def foesM (N : Nat) (m : List S45) : List (List Int) := m.foldl setFoe (F0 (roundsF m).toNat N)
structure Fine (N : Nat) (m : List S45) : Prop where
  n2 : 2 ≤ N
  n20 : N ≤ 20
  ok : ∀ x ∈ m, (0 ≤ x.f0 ∧ x.f0 ≤ 63) ∧ (0 ≤ x.f1 ∧ x.f1 < N) ∧ 0 ≤ x.f2 ∧ x.f2 < N
def Rect (R N : Nat) (M : List (List Int)) : Prop := M.length = R ∧ ∀ row ∈ M, row.length = N
theorem Rect.get {R N : Nat} {M : List (List Int)} (h : Rect R N M) {r : Nat} (hr : r < R) : (M.getD r []).length = N := h.2 _ (getD_mem' (by rw [h.1]; exact hr))
theorem Rect.set {R N : Nat} {M : List (List Int)} (h : Rect R N M) {r : Nat} {row : List Int} (hl : row.length = N) : Rect R N (M.set r row) := ⟨by rw [List.length_set]; exact h.1, fun row' hm => by
  rcases List.mem_or_eq_of_mem_set hm with hm | rfl
  · exact h.2 _ hm
  · exact hl⟩
theorem Rect.foe {R N : Nat} {M : List (List Int)} (h : Rect R N M) {x : S45} (hx : x.f0.toNat < R) : Rect R N (setFoe M x) := by
  have h1 : Rect R N (M.set x.f0.toNat ((M.getD x.f0.toNat []).set x.f1.toNat x.f2)) := h.set (by rw [List.length_set]; exact h.get hx)
  exact h1.set (by rw [List.length_set]; exact h1.get hx)
theorem Rect.rep (R N : Nat) : Rect R N (F0 R N) := ⟨by simp [F0], fun row h => by rw [F0, List.mem_replicate] at h; rw [h.2]; simp⟩

theorem At_rowSome {base : World} {R : List Res} {Φ : World → Prop} {α : Type} {e sz : Nat} {enc : α → List Value} {A : Option Nat} {c : Nat} {l : List α} (i : Nat) (hi : R[i]? = some (.row e sz enc A c l)) (h0 : 0 < l.length) (h : ∀ b, A = some b → At base R Φ) : At base R Φ := fun w hw => by
  obtain ⟨b, junk, h1, _⟩ := hw.open i hi h0
  exact h b h1 w hw

set_option maxHeartbeats 4000000 in
theorem foesM_rets {base w : World} {R : List Res} (hw : Mem base w R) (N : Nat) (A : Option Addr) (c : Nat) (m : List S45) (hr : Kd.C k45 w A m.length m) (hc : m.length ≤ c) (hm : m.length ≤ 1000000) (hf : Fine N m) :
    Rets Try.prog 22 #[.int .i64 N, .slice A m.length c] w fun u w' => ∃ Rs, (∃ bs A' c', bs.length = (roundsF m).toNat ∧ u = .slice (A'.map fun b => ⟨b, 0, none⟩) (roundsF m).toNat c' ∧ Rs = [.row 33 1 (sc (gvc N)) A' c' bs, .gridc 3 (Value.int .i64) bs (foesM N m)]) ∧ Mem w w' Rs := by
  have hF := wide_wide
  have hmx := hr.2.1
  have hn2 := hf.n2
  have hn20 := hf.n20
  have hrd := rnd_bd m (fun x hx => (hf.ok x hx).1) 0 (by omega) (by omega)
  obtain ⟨RR, hRR⟩ : ∃ RR : Nat, roundsF m = RR := ⟨(roundsF m).toNat, by have := hrd.1; unfold roundsF; omega⟩
  have hR64 : RR ≤ 64 := by have := hrd.2.1; unfold roundsF at hRR; omega
  have hlt0 : ∀ x ∈ m, x.f0 < RR := fun x hx => by have := hrd.2.2.2 x hx; unfold roundsF at hRR; omega
  unfold foesM
  rw [hRR, Int.toNat_natCast]
  refine rets_at (n := 75) Try.func22 rfl Try.ntmps22 (by simp) ?_
  (repeat (first | ((with_reducible refine is_AL ?_); (first | ((with_reducible refine is_assign ?_); (refine At_plain hF (by (exact (rfl : _ = some (Value.slice _ _ _)))) ?_)) | with_reducible refine At_nil ?_)) | ((with_reducible refine is_At ?_); (first | with_reducible refine At_seq ?_; intro K hK | with_reducible refine At_region ?_ | with_reducible refine At_then_n ?_ | with_reducible refine At_go (by assumption) ?_))))
  refine At_slice0 hF (sc (gvc N)) (fun _ => rfl) ?_
  intro bo
  (repeat (first | ((with_reducible refine is_AL ?_); (first | ((with_reducible refine is_assign ?_); (refine At_plain hF (by (first | exact (rfl : _ = some (Value.int _ _)) | exact (rfl : _ = some (Value.slice _ _ _)))) ?_)) | with_reducible refine At_nil ?_)) | ((with_reducible refine is_At ?_); (first | with_reducible refine At_seq ?_; intro K hK | with_reducible refine At_block ?_ | with_reducible refine At_region ?_ | with_reducible refine At_then_n ?_ | with_reducible refine At_go (by assumption) ?_))))
  refine At.gridcNew 3 (Value.int .i64) ?_
  refine At_loop (fun st : Nat × List (Nat × Nat) × Option Nat × Nat => [(0, .int .i64 N), (1, .slice A m.length c), (5, .slice (st.2.2.1.map fun b => ⟨b, 0, none⟩) st.1 st.2.2.2), (6, .int .i64 st.1)])
    (fun st => [.gridc 3 (Value.int .i64) st.2.1 (F0 st.1 N), .row 33 1 (sc (gvc N)) st.2.2.1 st.2.2.2 st.2.1]) (fun st => st.1 ≤ RR ∧ st.2.1.length = st.1) (fun st => RR - st.1) (0, [], some bo, 0) ?_ ?_ ⟨Nat.zero_le _, rfl⟩ ?_
  · (repeat (first | exact List.Sublist.refl _ | exact List.Sublist.slnil | refine List.Sublist.cons_cons _ ?_ | refine List.Sublist.cons _ ?_))
  · (repeat (first | exact True.intro | (refine And.intro ?_ ?_; focus (show _ = (_ : Value); first | exact rfl | (refine Eq.trans (b := Value.int IntKind.i64 _) rfl (congrArg (Value.int IntKind.i64) ?_); omega)))))
  rintro ⟨i, bs, Ao, co⟩ ⟨hi, hbs⟩ K hL ρ0
  simp only at hi hbs
  try dsimp only
  (repeat (first | ((with_reducible refine is_AL ?_); ((with_reducible refine is_move ?_); (refine At_plain hF (by (first | exact (rfl : _ = some (Value.int _ _)) | exact (rfl : _ = some (Value.slice _ _ _)))) ?_))) | ((with_reducible refine is_At ?_); (first | with_reducible refine At_seq ?_; intro K hK | with_reducible refine At_region ?_))))
  refine At_callB hF E25 rfl (arg1 (by (first | exact (rfl : _ = (Value.int _ _)) | exact (rfl : _ = (Value.bool _)) | exact (rfl : _ = (Value.pointer _)) | exact (rfl : _ = (Value.slice _ _ _)) | exact (rfl : _ = (Value.map _)) | exact (rfl : _ = (Value.func _ _ _)) | exact (rfl : _ = (Value.tuple _)) | exact (rfl : _ = (Value.agg _)) | exact (rfl : _ = (Value.string _)) | exact (rfl : _ = (Value.nilFunc)) | exact (rfl : _ = (Value.nilIface))))) (fun w' hw' => rounds_rets hw' A c m (Kd.C_below hr hw'.below) hc (fun x hx => (hf.ok x hx).1)) ?_
  rw [hRR]
  (repeat (first | ((with_reducible refine is_AL ?_); (first | ((with_reducible refine is_bin ?_); (refine At_plain hF (by (exact (rfl : _ = some (Value.bool _)))) ?_)) | with_reducible refine At_nil ?_)) | ((with_reducible refine is_At ?_); (first | with_reducible refine At_then_n ?_ | with_reducible refine At_go (by assumption) ?_))))
  ((with_reducible refine is_cond ?_); (refine At_cond rfl ?_ ?_ <;> (intro hg; try (simp only [decide_eq_true_eq, decide_eq_false_iff_not, beq_iff_eq, bne_iff_ne, beq_eq_false_iff_ne, bne_eq_false_iff_eq, ne_eq, Bool.not_eq_true', Bool.not_eq_false', Bool.not_true, Bool.not_false, Decidable.not_not] at hg); try (exfalso; omega))))
  · have hlt : i < RR := by omega
    (repeat ((with_reducible refine is_At ?_); (first | with_reducible refine At_seq ?_; intro K hK | with_reducible refine At_block ?_ | with_reducible refine At_region ?_ | with_reducible refine At_skip ?_ | with_reducible refine At_then_n ?_ | with_reducible refine At_go (by assumption) ?_)))
    refine At_slice0 hF (sc (Value.int .i64)) (fun _ => rfl) ?_
    intro br
    (repeat (first | ((with_reducible refine is_AL ?_); (first | ((with_reducible refine is_assign ?_); (refine At_plain hF (by (first | exact (rfl : _ = some (Value.int _ _)) | exact (rfl : _ = some (Value.slice _ _ _)))) ?_)) | with_reducible refine At_nil ?_)) | ((with_reducible refine is_At ?_); (first | with_reducible refine At_seq ?_; intro K hK | with_reducible refine At_block ?_ | with_reducible refine At_region ?_ | with_reducible refine At_then_n ?_ | with_reducible refine At_go (by assumption) ?_))))
    refine At_loop (fun st : Nat × Option Nat × Nat => [(0, .int .i64 N), (1, .slice A m.length c), (5, .slice (Ao.map fun b => ⟨b, 0, none⟩) i co), (6, .int .i64 i), (7, .slice (st.2.1.map fun b => ⟨b, 0, none⟩) st.1 st.2.2), (8, .int .i64 st.1)])
      (fun st => [.row 3 1 (sc (Value.int .i64)) st.2.1 st.2.2 (List.replicate st.1 (-1)), .gridc 3 (Value.int .i64) bs (F0 i N), .row 33 1 (sc (gvc N)) Ao co bs]) (fun st => st.1 ≤ N) (fun st => N - st.1) (0, some br, 0) ?_ ?_ (Nat.zero_le _) ?_
    · (repeat (first | exact List.Sublist.refl _ | exact List.Sublist.slnil | refine List.Sublist.cons_cons _ ?_ | refine List.Sublist.cons _ ?_))
    · (repeat (first | exact True.intro | (refine And.intro ?_ ?_; focus (show _ = (_ : Value); first | exact rfl | (refine Eq.trans (b := Value.int IntKind.i64 _) rfl (congrArg (Value.int IntKind.i64) ?_); omega)))))
    rintro ⟨t, At_, ct⟩ ht K hI ρ1
    simp only at ht
    try dsimp only
    (repeat (first | ((with_reducible refine is_AL ?_); (first | ((with_reducible refine is_move ?_); (refine At_plain hF (by (exact (rfl : _ = some (Value.int _ _)))) ?_)) | ((with_reducible refine is_bin ?_); (refine At_plain hF (by (exact (rfl : _ = some (Value.bool _)))) ?_)) | with_reducible refine At_nil ?_)) | ((with_reducible refine is_At ?_); (first | with_reducible refine At_seq ?_; intro K hK | with_reducible refine At_region ?_ | with_reducible refine At_then_n ?_ | with_reducible refine At_go (by assumption) ?_))))
    ((with_reducible refine is_cond ?_); (refine At_cond rfl ?_ ?_ <;> (intro hg; try (simp only [decide_eq_true_eq, decide_eq_false_iff_not, beq_iff_eq, bne_iff_ne, beq_eq_false_iff_ne, bne_eq_false_iff_eq, ne_eq, Bool.not_eq_true', Bool.not_eq_false', Bool.not_true, Bool.not_false, Decidable.not_not] at hg); try (exfalso; omega))))
    · have hlt2 : t < N := by omega
      ((repeat (first | ((with_reducible refine is_AL ?_); ((with_reducible refine is_move ?_); (refine At_plain hF (by (exact (rfl : _ = some (Value.slice _ _ _)))) ?_))) | ((with_reducible refine is_At ?_); (first | with_reducible refine At_seq ?_; intro K hK | with_reducible refine At_block ?_ | with_reducible refine At_region ?_ | with_reducible refine At_skip ?_ | with_reducible refine At_then_n ?_ | with_reducible refine At_go (by assumption) ?_)))); ((with_reducible refine is_bslice ?_); (refine At_slice1_1 hF (by decide) (by (exact (rfl : _ = (Value.int _ _)))) rfl ?_; intro bl)); (repeat (first | ((with_reducible refine is_AL ?_); ((with_reducible refine is_move ?_); (refine At_plain hF (by (exact (rfl : _ = some (Value.slice _ _ _)))) ?_))) | ((with_reducible refine is_At ?_); (first | with_reducible refine At_seq ?_; intro K hK | with_reducible refine At_block ?_ | with_reducible refine At_region ?_ | with_reducible refine At_skip ?_ | with_reducible refine At_then_n ?_ | with_reducible refine At_go (by assumption) ?_)))))
      refine At_append_1 hF 0 rfl rfl (by simp) rfl (x0 := (-1 : Int)) rfl (by decide) (by simp [Value.one1]) (by simp only [List.length_replicate, TS.bytes]; omega) (by simp; omega) ?_
      intro A2 c2
      (repeat (first | ((with_reducible refine is_AL ?_); (first | ((with_reducible refine is_move ?_); (refine At_plain hF (by (exact (rfl : _ = some (Value.int _ _)))) ?_)) | ((with_reducible refine is_bin ?_); ((with_reducible refine is_badd ?_); (refine At_add hF rfl rfl (by omega) ?_))) | ((with_reducible refine is_assign ?_); (refine At_plain hF (by (first | exact (rfl : _ = some (Value.int _ _)) | exact (rfl : _ = some (Value.slice _ _ _)))) ?_)) | with_reducible refine At_nil ?_)) | ((with_reducible refine is_At ?_); (first | with_reducible refine At_region ?_ | with_reducible refine At_then_n ?_ | with_reducible refine At_inb_n ?_ | with_reducible refine At_go (by assumption) ?_))))
      rw [List.length_replicate, show List.replicate t (-1 : Int) ++ [-1] = List.replicate (t + 1) (-1) from (List.replicate_succ' ..).symm]
      refine At.sub ?_ (hI (t + 1, A2, c2) _ hlt2 (by simp only; omega) ?_)
      · (repeat (first | exact List.Sublist.refl _ | exact List.Sublist.slnil | refine List.Sublist.cons_cons _ ?_ | refine List.Sublist.cons _ ?_))
      · (repeat (first | exact True.intro | (refine And.intro ?_ ?_; focus (show _ = (_ : Value); first | exact rfl | (refine Eq.trans (b := Value.int IntKind.i64 _) rfl (congrArg (Value.int IntKind.i64) ?_); omega)))))
    · obtain rfl : t = N := by omega
      refine At_rowSome 0 rfl (by simp; omega) ?_
      rintro b rfl
      ((repeat (first | ((with_reducible refine is_AL ?_); ((with_reducible refine is_move ?_); (refine At_plain hF (by (exact (rfl : _ = some (Value.slice _ _ _)))) ?_))) | ((with_reducible refine is_At ?_); (first | with_reducible refine At_region ?_ | with_reducible refine At_exit ?_ | with_reducible refine At_then_n ?_ | with_reducible refine At_then_e ?_ | with_reducible refine At_inb_e rfl ?_ | with_reducible refine At_go (by assumption) ?_)))); ((with_reducible refine is_bslice ?_); (refine At_slice1_1 hF (by decide) (by (exact (rfl : _ = (Value.slice _ _ _)))) rfl ?_; intro bl)); (repeat (first | ((with_reducible refine is_AL ?_); ((with_reducible refine is_move ?_); (refine At_plain hF (by (exact (rfl : _ = some (Value.slice _ _ _)))) ?_))) | ((with_reducible refine is_At ?_); (first | with_reducible refine At_region ?_ | with_reducible refine At_exit ?_ | with_reducible refine At_then_n ?_ | with_reducible refine At_then_e ?_ | with_reducible refine At_inb_e rfl ?_ | with_reducible refine At_go (by assumption) ?_)))))
      refine At_append_3 hF 0 rfl rfl (by simp [hbs]) rfl (x0 := (b, ct)) rfl (by decide) (by simp [Value.one1, gvc]) (by simp only [TS.bytes]; omega) (by omega) ?_
      intro A2 c2
      (repeat (first | ((with_reducible refine is_AL ?_); (first | ((with_reducible refine is_move ?_); (refine At_plain hF (by (exact (rfl : _ = some (Value.int _ _)))) ?_)) | ((with_reducible refine is_bin ?_); ((with_reducible refine is_badd ?_); (refine At_add hF rfl rfl (by omega) ?_))) | ((with_reducible refine is_assign ?_); (refine At_plain hF (by (first | exact (rfl : _ = some (Value.int _ _)) | exact (rfl : _ = some (Value.slice _ _ _)))) ?_)) | with_reducible refine At_nil ?_)) | ((with_reducible refine is_At ?_); (first | with_reducible refine At_region ?_ | with_reducible refine At_then_n ?_ | with_reducible refine At_inb_n ?_ | with_reducible refine At_go (by assumption) ?_))))
      (refine At.pick [1, 2, 3] (by decide) (R' := [_, _, _]) rfl ?_)
      refine At.gridcPush ?_
      rw [hbs, show F0 i t ++ [List.replicate t (-1 : Int)] = F0 (i + 1) t from (List.replicate_succ' ..).symm]
      refine At.sub ?_ (hL (i + 1, bs ++ [(b, ct)], A2, c2) _ ⟨hlt, by simp [hbs]⟩ (by simp only; omega) ?_)
      · (repeat (first | exact List.Sublist.refl _ | exact List.Sublist.slnil | refine List.Sublist.cons_cons _ ?_ | refine List.Sublist.cons _ ?_))
      · (repeat (first | exact True.intro | (refine And.intro ?_ ?_; focus (show _ = (_ : Value); first | exact rfl | (refine Eq.trans (b := Value.int IntKind.i64 _) rfl (congrArg (Value.int IntKind.i64) ?_); omega)))))
  · obtain rfl : i = RR := by omega
    (repeat (first | ((with_reducible refine is_AL ?_); (first | ((with_reducible refine is_assign ?_); (refine At_plain hF (by (exact (rfl : _ = some (Value.int _ _)))) ?_)) | with_reducible refine At_nil ?_)) | ((with_reducible refine is_At ?_); (first | with_reducible refine At_seq ?_; intro K hK | with_reducible refine At_block ?_ | with_reducible refine At_region ?_ | with_reducible refine At_exit ?_ | with_reducible refine At_then_n ?_ | with_reducible refine At_then_e ?_ | with_reducible refine At_inb_e rfl ?_ | with_reducible refine At_go (by assumption) ?_))))
    refine At_loop (fun st : Nat × List (List Int) => [(0, .int .i64 N), (1, .slice A m.length c), (5, .slice (Ao.map fun b => ⟨b, 0, none⟩) i co), (9, .int .i64 st.1)])
      (fun st => [.gridc 3 (Value.int .i64) bs st.2, .row 33 1 (sc (gvc N)) Ao co bs]) (fun st => st.1 ≤ m.length ∧ st.2 = (m.take st.1).foldl setFoe (F0 i N) ∧ Rect i N st.2) (fun st => m.length - st.1) (0, F0 i N) ?_ ?_ ⟨Nat.zero_le _, rfl, Rect.rep i N⟩ ?_
    · (repeat (first | exact List.Sublist.refl _ | exact List.Sublist.slnil | refine List.Sublist.cons_cons _ ?_ | refine List.Sublist.cons _ ?_))
    · (repeat (first | exact True.intro | (refine And.intro ?_ ?_; focus (show _ = (_ : Value); first | exact rfl | (refine Eq.trans (b := Value.int IntKind.i64 _) rfl (congrArg (Value.int IntKind.i64) ?_); omega)))))
    rintro ⟨k, M⟩ ⟨hk, hM, hRect⟩ K hI ρ1
    simp only at hk hM hRect
    try dsimp only
    (repeat (first | ((with_reducible refine is_AL ?_); (first | ((with_reducible refine is_move ?_); (refine At_plain hF (by (first | exact (rfl : _ = some (Value.int _ _)) | exact (rfl : _ = some (Value.slice _ _ _)))) ?_)) | ((with_reducible refine is_bin ?_); (refine At_plain hF (by (exact (rfl : _ = some (Value.bool _)))) ?_)) | ((with_reducible refine is_call ?_); (refine At_len hF rfl ?_)) | with_reducible refine At_nil ?_)) | ((with_reducible refine is_At ?_); (first | with_reducible refine At_seq ?_; intro K hK | with_reducible refine At_region ?_ | with_reducible refine At_then_n ?_ | with_reducible refine At_go (by assumption) ?_))))
    ((with_reducible refine is_cond ?_); (refine At_cond rfl ?_ ?_ <;> (intro hg; try (simp only [decide_eq_true_eq, decide_eq_false_iff_not, beq_iff_eq, bne_iff_ne, beq_eq_false_iff_ne, bne_eq_false_iff_eq, ne_eq, Bool.not_eq_true', Bool.not_eq_false', Bool.not_true, Bool.not_false, Decidable.not_not] at hg); try (exfalso; omega))))
    · have hlt : k < m.length := by omega
      obtain ⟨ad, hA, h0, h1, h2⟩ := C45 hr k hlt
      have hxm := getD45 hlt
      have hx := hf.ok _ hxm
      have hx0 := hlt0 _ hxm
      have hsn : (m.take (k + 1)).foldl setFoe (F0 i N) = setFoe M (m.getD k z45) := by rw [take_snoc45 m k hlt, List.foldl_append, ← hM]; rfl
      generalize m.getD k z45 = x at *
      refine At_open 1 rfl (by omega) ?_
      rintro bA junk rfl hj1 hj2 hj3
      simp only [List.set_cons_succ, List.set_cons_zero]
      (repeat ((with_reducible refine is_At ?_); (first | with_reducible refine At_seq ?_; intro K hK | with_reducible refine At_block ?_ | with_reducible refine At_skip ?_ | with_reducible refine At_then_n ?_ | with_reducible refine At_go (by assumption) ?_)))
      have hRx : x.f0.toNat < bs.length := by omega
      have hr0 := hRect.get (r := x.f0.toNat) (by omega)
      refine At_draw hF 18 (by kernel_rfl) (by decide +kernel) ?_; simp only [List.take_succ_cons, List.take_zero, List.drop_succ_cons, List.drop_zero]; (repeat ((with_reducible refine is_AQc ?_); refine AQ_cons (by intro K Q hK; (repeat (first | ((with_reducible refine is_move ?_); (refine At_plain hF (by (first | exact (rfl : _ = some (Value.int _ _)) | exact (rfl : _ = some (Value.slice _ _ _)))) ?_)) | ((with_reducible refine is_field ?_); (refine At_fieldC hF rfl ?_)) | ((with_reducible refine is_index ?_); (refine At_indexC hF rfl (by assumption) rfl (by omega) ?_)))); exact At_nilK hK) ?_))
      refine AQ_cons (by intro K Q hK; refine At_loadC hF (by exact rfl) h0 ?_; exact At_nilK hK) ?_
      (repeat ((with_reducible refine is_AQc ?_); refine AQ_cons (by intro K Q hK; (repeat (first | ((with_reducible refine is_move ?_); (refine At_plain hF (by (first | exact (rfl : _ = some (Value.int _ _)) | exact (rfl : _ = some (Value.slice _ _ _)))) ?_)) | ((with_reducible refine is_field ?_); (refine At_fieldC hF rfl ?_)) | ((with_reducible refine is_load ?_); (refine At_load hF 1 rfl rfl (by (exact buf_getI _ (by omega))) ?_)) | ((with_reducible refine is_index ?_); (first | refine At_indexS1i hF rfl rfl rfl (by omega) (by omega) ?_ | refine At_indexC hF rfl (by assumption) rfl (by omega) ?_)))); exact At_nilK hK) ?_))
      refine AQ_cons (by intro K Q hK; refine At_loadC hF (by exact rfl) h1 ?_; exact At_nilK hK) ?_
      (repeat ((with_reducible refine is_AQc ?_); refine AQ_cons (by intro K Q hK; (repeat (first | ((with_reducible refine is_move ?_); (refine At_plain hF (by (first | exact (rfl : _ = some (Value.int _ _)) | exact (rfl : _ = some (Value.slice _ _ _)))) ?_)) | ((with_reducible refine is_field ?_); (refine At_fieldC hF rfl ?_)) | ((with_reducible refine is_index ?_); (refine At_indexC hF rfl (by assumption) rfl (by omega) ?_)))); exact At_nilK hK) ?_))
      refine AQ_cons (by intro K Q hK; refine At_loadC hF (by exact rfl) h2 ?_; exact At_nilK hK) ?_
      (repeat ((with_reducible refine is_AQc ?_); refine AQ_cons (by intro K Q hK; skip; exact At_nilK hK) ?_)); refine AQ_done ?_
      (repeat ((with_reducible refine is_AL ?_); ((with_reducible refine is_index ?_); (refine At_indexS1i hF rfl rfl rfl (by omega) (by omega) ?_))))
      refine At_storeGridc (r := x.f0.toNat) (a := x.f2) hF 0 (by exact rfl) (by exact rfl) rfl rfl rfl rfl hRx (by omega) ?_
      have hRect1 : Rect i N (M.set x.f0.toNat ((M.getD x.f0.toNat []).set x.f1.toNat x.f2)) := hRect.set (by rw [List.length_set]; exact hr0)
      have hr1 := hRect1.get (r := x.f0.toNat) (by omega)
      have hR2 : Rect i N (setFoe M x) := hRect.foe (by omega)
      have hset : setFoe M x = (M.set x.f0.toNat ((M.getD x.f0.toNat []).set x.f1.toNat x.f2)).set x.f0.toNat (((M.set x.f0.toNat ((M.getD x.f0.toNat []).set x.f1.toNat x.f2)).getD x.f0.toNat []).set x.f2.toNat x.f1) := rfl
      generalize M.set x.f0.toNat ((M.getD x.f0.toNat []).set x.f1.toNat x.f2) = M1 at *
      simp only [List.set_cons_succ, List.set_cons_zero]
      (repeat (first | ((with_reducible refine is_AL ?_); (with_reducible refine At_nil ?_)) | ((with_reducible refine is_At ?_); (first | with_reducible refine At_then_n ?_ | with_reducible refine At_go (by assumption) ?_))))
      refine At_draw hF 18 (by kernel_rfl) (by decide +kernel) ?_; simp only [List.take_succ_cons, List.take_zero, List.drop_succ_cons, List.drop_zero]; (repeat ((with_reducible refine is_AQc ?_); refine AQ_cons (by intro K Q hK; (repeat (first | ((with_reducible refine is_move ?_); (refine At_plain hF (by (first | exact (rfl : _ = some (Value.int _ _)) | exact (rfl : _ = some (Value.slice _ _ _)))) ?_)) | ((with_reducible refine is_field ?_); (refine At_fieldC hF rfl ?_)) | ((with_reducible refine is_index ?_); (refine At_indexC hF rfl (by assumption) rfl (by omega) ?_)))); exact At_nilK hK) ?_))
      refine AQ_cons (by intro K Q hK; refine At_loadC hF (by exact rfl) h0 ?_; exact At_nilK hK) ?_
      (repeat ((with_reducible refine is_AQc ?_); refine AQ_cons (by intro K Q hK; (repeat (first | ((with_reducible refine is_move ?_); (refine At_plain hF (by (first | exact (rfl : _ = some (Value.int _ _)) | exact (rfl : _ = some (Value.slice _ _ _)))) ?_)) | ((with_reducible refine is_field ?_); (refine At_fieldC hF rfl ?_)) | ((with_reducible refine is_load ?_); (refine At_load hF 1 rfl rfl (by (exact buf_getI _ (by omega))) ?_)) | ((with_reducible refine is_index ?_); (first | refine At_indexS1i hF rfl rfl rfl (by omega) (by omega) ?_ | refine At_indexC hF rfl (by assumption) rfl (by omega) ?_)))); exact At_nilK hK) ?_))
      refine AQ_cons (by intro K Q hK; refine At_loadC hF (by exact rfl) h2 ?_; exact At_nilK hK) ?_
      (repeat ((with_reducible refine is_AQc ?_); refine AQ_cons (by intro K Q hK; (repeat (first | ((with_reducible refine is_move ?_); (refine At_plain hF (by (first | exact (rfl : _ = some (Value.int _ _)) | exact (rfl : _ = some (Value.slice _ _ _)))) ?_)) | ((with_reducible refine is_field ?_); (refine At_fieldC hF rfl ?_)) | ((with_reducible refine is_index ?_); (refine At_indexC hF rfl (by assumption) rfl (by omega) ?_)))); exact At_nilK hK) ?_))
      refine AQ_cons (by intro K Q hK; refine At_loadC hF (by exact rfl) h1 ?_; exact At_nilK hK) ?_
      (repeat ((with_reducible refine is_AQc ?_); refine AQ_cons (by intro K Q hK; skip; exact At_nilK hK) ?_)); refine AQ_done ?_
      (repeat ((with_reducible refine is_AL ?_); ((with_reducible refine is_index ?_); (refine At_indexS1i hF rfl rfl rfl (by omega) (by omega) ?_))))
      refine At_storeGridc (r := x.f0.toNat) (a := x.f1) hF 0 (by exact rfl) (by exact rfl) rfl rfl rfl rfl hRx (by omega) ?_
      rw [← hset]
      simp only [List.set_cons_succ, List.set_cons_zero]
      (repeat (first | ((with_reducible refine is_AL ?_); (first | ((with_reducible refine is_move ?_); (refine At_plain hF (by (exact (rfl : _ = some (Value.int _ _)))) ?_)) | ((with_reducible refine is_bin ?_); ((with_reducible refine is_badd ?_); (refine At_add hF rfl rfl (by omega) ?_))) | ((with_reducible refine is_assign ?_); (refine At_plain hF (by (exact (rfl : _ = some (Value.int _ _)))) ?_)) | with_reducible refine At_nil ?_)) | ((with_reducible refine is_At ?_); (first | with_reducible refine At_region ?_ | with_reducible refine At_then_n ?_ | with_reducible refine At_inb_n ?_ | with_reducible refine At_go (by assumption) ?_))))
      refine At_close 1 rfl (sc_len _) hj1 hj2 hj3 ?_
      refine At.sub ?_ (hI (k + 1, setFoe M x) _ ⟨hlt, hsn.symm, hR2⟩ (by simp only; omega) ?_)
      · (repeat (first | exact List.Sublist.refl _ | exact List.Sublist.slnil | refine List.Sublist.cons_cons _ ?_ | refine List.Sublist.cons _ ?_))
      · (repeat (first | exact True.intro | (refine And.intro ?_ ?_; focus (show _ = (_ : Value); first | exact rfl | (refine Eq.trans (b := Value.int IntKind.i64 _) rfl (congrArg (Value.int IntKind.i64) ?_); omega)))))
    · obtain rfl : k = m.length := by omega
      (repeat (first | ((with_reducible refine is_AL ?_); (first | ((with_reducible refine is_move ?_); (refine At_plain hF (by (exact (rfl : _ = some (Value.slice _ _ _)))) ?_)) | ((with_reducible refine is_assign ?_); (refine At_plain hF (by (exact (rfl : _ = some (Value.slice _ _ _)))) ?_)) | with_reducible refine At_nil ?_)) | ((with_reducible refine is_At ?_); (first | with_reducible refine At_seq ?_; intro K hK | with_reducible refine At_region ?_ | with_reducible refine At_ret ?_ | with_reducible refine At_exit ?_ | with_reducible refine At_then_n ?_ | with_reducible refine At_then_e ?_ | with_reducible refine At_inb_e rfl ?_ | with_reducible refine At_go (by assumption) ?_))))
      (refine At.pick [1, 0] (by decide) (R' := [_, _]) rfl ?_)
      refine At_ret1 rfl (rv_tmp (by decide)) (fun w' hw' => ⟨_, rfl, _, ⟨bs, Ao, co, hbs, by rfl, ?_⟩, hw'⟩)
      rw [hM, List.take_length]
end Go.Proofs.Ytcjpghiceebkfaa.P
