import Derived.Test.YtecgklfcblpkdaaVioW
import Derived.Test.YtecgklfcblpkdaaXStr
/- fastilaw21.order: plain. -/
namespace Go.Proofs.Ytecgklfcblpkdaa.P
open Go.RowKit Go.Proofs.YtecgklfcblpkdaaW.PrintWords Go.Proofs.YtecgklfcblpkdaaW.PrintLast Go.Proofs.YtecgklfcblpkdaaW.PrintMore
open XW
set_option linter.unusedSimpArgs false
set_option linter.unusedVariables false
def kAt (l : List Int) (i m : Nat) : Nat := if i < l.length then ((l.getD i 0) % (m : Int)).toNat else 0
def ordS (n : Nat) (l : List Int) : Nat → List Int × List Int
  | 0 => ((List.range n).map fun x : Nat => (x : Int), [])
  | i + 1 => ((ordS n l i).1.eraseIdx (kAt l i (ordS n l i).1.length), (ordS n l i).2 ++ [(ordS n l i).1.getD (kAt l i (ordS n l i).1.length) 0])
def ordF (n : Nat) (l : List Int) : List Int := (ordS n l n).2
theorem kAt_lt (l : List Int) (i m : Nat) (h : 0 < m) (hl : ∀ x ∈ l, 0 ≤ x ∧ x ≤ 255) : kAt l i m < m := by
  unfold kAt
  split
  · have h1 := Int.emod_nonneg (l.getD i 0) (show (m : Int) ≠ 0 by omega)
    have h2 := Int.emod_lt_of_pos (l.getD i 0) (show (0 : Int) < m by omega)
    omega
  · exact h
theorem ordS_len (n : Nat) (l : List Int) (hl : ∀ x ∈ l, 0 ≤ x ∧ x ≤ 255) : ∀ i, i ≤ n → (ordS n l i).1.length = n - i ∧ (ordS n l i).2.length = i
  | 0, _ => by simp [ordS]
  | i + 1, h => by
    have ih := ordS_len n l hl i (by omega)
    have hk := kAt_lt l i (ordS n l i).1.length (by omega) hl
    simp only [ordS]
    rw [List.length_eraseIdx_of_lt hk, List.length_append]
    simp; omega
theorem erase_perm {l : List Int} : ∀ {k : Nat}, k < l.length → (l.eraseIdx k ++ [l.getD k 0]).Perm l := by
  induction l with
  | nil => intro k h; simp at h
  | cons x l ih =>
    intro k h
    cases k with
    | zero => simp only [List.eraseIdx_cons_zero, List.getD_cons_zero]; exact List.perm_append_comm
    | succ k => simp only [List.eraseIdx_cons_succ, List.getD_cons_succ, List.cons_append]; exact (ih (by simpa using h)).cons x
theorem ordS_perm (n : Nat) (l : List Int) (hl : ∀ x ∈ l, 0 ≤ x ∧ x ≤ 255) : ∀ i, i ≤ n → ((ordS n l i).2 ++ (ordS n l i).1).Perm ((List.range n).map fun x : Nat => (x : Int))
  | 0, _ => by simp [ordS]
  | i + 1, h => by
    have ih := ordS_perm n l hl i (by omega)
    have hlen := (ordS_len n l hl i (by omega)).1
    have hk := kAt_lt l i (ordS n l i).1.length (by omega) hl
    simp only [ordS]
    refine List.Perm.trans ?_ ih
    rw [List.append_assoc]
    refine List.Perm.append_left _ ?_
    exact List.perm_append_comm.trans (erase_perm hk)
theorem ordF_perm (n : Nat) (l : List Int) (hl : ∀ x ∈ l, 0 ≤ x ∧ x ≤ 255) : (ordF n l).Perm ((List.range n).map fun x : Nat => (x : Int)) := by
  have h := ordS_perm n l hl n (Nat.le_refl _)
  have hl2 := (ordS_len n l hl n (Nat.le_refl _)).1
  rw [List.eq_nil_of_length_eq_zero (by omega : (ordS n l n).1.length = 0), List.append_nil] at h
  exact h
theorem ordF_len (n : Nat) (l : List Int) (hl : ∀ x ∈ l, 0 ≤ x ∧ x ≤ 255) : (ordF n l).length = n := (ordS_len n l hl n (Nat.le_refl _)).2
theorem eraseIdx_cut {α : Type} (l : List α) (k : Nat) : l.eraseIdx k = l.take k ++ l.drop (k + 1) := List.eraseIdx_eq_take_drop_succ l k
end Go.Proofs.Ytecgklfcblpkdaa.P

/- fastilaw21.order: walked. -/
namespace Go.Proofs.Ytecgklfcblpkdaa.P
open Go.RowKit Go.Proofs.YtecgklfcblpkdaaW.PrintWords Go.Proofs.YtecgklfcblpkdaaW.PrintLast Go.Proofs.YtecgklfcblpkdaaW.PrintMore
open XW RegInv
attribute [local irreducible] Addr.add
set_option linter.unusedSimpArgs false
set_option linter.unusedVariables false

theorem C8 {w : World} {A : Option Addr} {n : Nat} {xs : List Int} (h : Kd.C (Kd.int .u8) w A n xs) (k : Nat) (hk : k < n) : ∃ ad, A = some ad ∧ w.cell? (ad.add k) = some (.int .u8 (xs.getD k 0)) := by
  obtain ⟨ad, c, hA, _, hK, hc⟩ := Kd.C_get h 0 (k : Int) (by omega) (by omega)
  rw [Int.toNat_natCast] at hK hc
  refine ⟨ad, hA, ?_⟩
  have e : c = [.int .u8 (xs.getD k 0)] := hK
  have := hc 0 _ (by rw [e]; rfl)
  simpa [Kd.int, Kd.scalar] using this
theorem cutA_zero (b m s : Nat) : cutA (some ⟨b, 0, none⟩) 0 m s = some ⟨b, 0, none⟩ := by
  unfold cutA; split
  · rfl
  · show some ((⟨b, 0, none⟩ : Addr).add (0 * s)) = _
    rw [XW.add_plain]; simp
theorem cutA_at (b l m : Nat) (h : m ≠ l) : cutA (some ⟨b, 0, none⟩) l m 1 = some ⟨b, l, none⟩ := by
  unfold cutA; rw [if_neg h]
  show some ((⟨b, 0, none⟩ : Addr).add (l * 1)) = _
  rw [XW.add_plain]; simp
theorem buf_split {α : Type} (enc : α → List Value) (l : List α) (junk : List Value) (k : Nat) : buf enc l junk = buf enc (l.take k) ((l.drop k).flatMap enc ++ junk) := by
  unfold buf
  rw [← List.append_assoc, ← List.flatMap_append, List.take_append_drop]
theorem ints_get {l : List Int} {junk : List Value} {j : Nat} {u : Value} (o : Nat) (h : ((l.drop o).flatMap (sc (Value.int .i64)))[j]? = some u) : (buf (sc (Value.int .i64)) l junk)[o + j]? = some u := by
  have e : ∀ l : List Int, l.flatMap (sc (Value.int .i64)) = l.map (Value.int .i64) := fun l => by
    induction l with
    | nil => rfl
    | cons x l ih => rw [List.flatMap_cons, ih]; rfl
  rw [e, List.map_drop, List.getElem?_drop] at h
  simp only [buf, List.getElem?_toArray]
  rw [List.getElem?_append_left (by rw [e]; exact (List.getElem?_eq_some_iff.1 h).1), e]; exact h
theorem take_get {l : List Int} {j k : Nat} {u : Value} (h : ((l.take k).flatMap (sc (Value.int .i64)))[j]? = some u) : (l.flatMap (sc (Value.int .i64)))[j]? = some u := by
  have e : ∀ l : List Int, l.flatMap (sc (Value.int .i64)) = l.map (Value.int .i64) := fun l => by
    induction l with
    | nil => rfl
    | cons x l ih => rw [List.flatMap_cons, ih]; rfl
  rw [e] at h ⊢
  rw [List.map_take, List.getElem?_take] at h
  split at h
  · exact h
  · cases h
theorem range_snocI (t : Nat) : ((List.range (t + 1)).map fun x : Nat => (x : Int)) = ((List.range t).map fun x : Nat => (x : Int)) ++ [(t : Int)] := by rw [List.range_succ, List.map_append]; rfl
theorem rangeI_len (t : Nat) : ((List.range t).map fun x : Nat => (x : Int)).length = t := by simp
theorem wrap64_ino {x : Int} (h0 : -9223372036854775808 ≤ x) (h1 : x ≤ 9223372036854775807) : IntKind.i64.wrap x = x := wrap64_in h0 h1
set_option maxHeartbeats 16000000 in
theorem order_walk {base : World} (n : Nat) (hn : 1 ≤ n ∧ n ≤ 64) (A : Option Addr) (c : Nat) (l : List Int) (hr : Kd.C (Kd.int .u8) base A l.length l) (hc : l.length ≤ c) (hl : ∀ x ∈ l, 0 ≤ x ∧ x ≤ 255) :
    Rets Try.prog 22 #[.int .i64 n, .slice A l.length c] base fun u w' => ∃ A' c', u = rowV A' n c' ∧ Mem base w' [.row 3 1 (sc (Value.int .i64)) A' c' (ordF n l)] := by
  have hF := wide_wide
  have hmx := hr.2.1
  refine rets_at (n := 53) Try.func22 rfl Try.ntmps22 (by simp) ?_
  refine At.newNil 3 1 (sc (Value.int .i64)) (fun _ => rfl) ?_
  refine At.newNil 3 1 (sc (Value.int .i64)) (fun _ => rfl) ?_
  (repeat (first | ((with_reducible refine is_AL ?_); (first | ((with_reducible refine is_move ?_); (refine At_plain hF (by (exact (rfl : _ = some (Value.int _ _)))) ?_)) | ((with_reducible refine is_assign ?_); (refine At_plain hF (by (exact (rfl : _ = some (Value.slice _ _ _)))) ?_)) | with_reducible refine At_nil ?_)) | ((with_reducible refine is_At ?_); (first | with_reducible refine At_seq ?_; intro K hK | with_reducible refine At_block ?_ | with_reducible refine At_region ?_ | with_reducible refine At_then_n ?_ | with_reducible refine At_go (by assumption) ?_))))
  refine At_loop (fun st : Nat × Option Nat × Nat => [(0, .int .i64 n), (1, .slice A l.length c), (5, rowV st.2.1 st.1 st.2.2), (6, rowV none 0 0), (10, .int .i64 n), (11, .int .i64 st.1)])
    (fun st => [.row 3 1 (sc (Value.int .i64)) st.2.1 st.2.2 ((List.range st.1).map fun x : Nat => (x : Int)), .row 3 1 (sc (Value.int .i64)) none 0 []]) (fun st => st.1 ≤ n) (fun st => n - st.1) (0, none, 0) ?_ ?_ (Nat.zero_le _) ?_
  · (repeat (first | exact List.Sublist.refl _ | exact List.Sublist.slnil | refine List.Sublist.cons_cons _ ?_ | refine List.Sublist.cons _ ?_))
  · (repeat (first | exact True.intro | (refine And.intro ?_ ?_; focus (show _ = (_ : Value); first | exact rfl | (refine Eq.trans (b := Value.int IntKind.i64 _) rfl (congrArg (Value.int IntKind.i64) ?_); omega)))))
  rintro ⟨t, A1, c1⟩ ht K hL ρ1
  simp only at ht
  try dsimp only
  (repeat (first | ((with_reducible refine is_AL ?_); (first | ((with_reducible refine is_bin ?_); (refine At_plain hF (by (exact (rfl : _ = some (Value.bool _)))) ?_)) | with_reducible refine At_nil ?_)) | ((with_reducible refine is_At ?_); (first | with_reducible refine At_seq ?_; intro K hK | with_reducible refine At_region ?_ | with_reducible refine At_then_n ?_ | with_reducible refine At_go (by assumption) ?_))))
  ((with_reducible refine is_cond ?_); (refine At_cond rfl ?_ ?_ <;> (intro hg; try (simp only [decide_eq_true_eq, decide_eq_false_iff_not, beq_iff_eq, bne_iff_ne, beq_eq_false_iff_ne, bne_eq_false_iff_eq, ne_eq, Bool.not_eq_true', Bool.not_eq_false', Bool.not_true, Bool.not_false, Decidable.not_not] at hg); try (exfalso; first | omega | exact hg True.intro))))
  · have hlt : t < n := by omega
    ((repeat (first | ((with_reducible refine is_AL ?_); (first | ((with_reducible refine is_move ?_); (refine At_plain hF (by (first | exact (rfl : _ = some (Value.int _ _)) | exact (rfl : _ = some (Value.slice _ _ _)))) ?_)) | ((with_reducible refine is_assign ?_); (refine At_plain hF (by (exact (rfl : _ = some (Value.int _ _)))) ?_)) | with_reducible refine At_nil ?_)) | ((with_reducible refine is_At ?_); (first | with_reducible refine At_seq ?_; intro K hK | with_reducible refine At_block ?_ | with_reducible refine At_region ?_ | with_reducible refine At_skip ?_ | with_reducible refine At_then_n ?_ | with_reducible refine At_go (by assumption) ?_)))); ((with_reducible refine is_bslice ?_); (refine At_slice1_1 hF (by decide) (by (exact (rfl : _ = (Value.int _ _)))) rfl ?_; intro bl)); (repeat (first | ((with_reducible refine is_AL ?_); (first | ((with_reducible refine is_move ?_); (refine At_plain hF (by (first | exact (rfl : _ = some (Value.int _ _)) | exact (rfl : _ = some (Value.slice _ _ _)))) ?_)) | ((with_reducible refine is_assign ?_); (refine At_plain hF (by (exact (rfl : _ = some (Value.int _ _)))) ?_)) | with_reducible refine At_nil ?_)) | ((with_reducible refine is_At ?_); (first | with_reducible refine At_seq ?_; intro K hK | with_reducible refine At_block ?_ | with_reducible refine At_region ?_ | with_reducible refine At_skip ?_ | with_reducible refine At_then_n ?_ | with_reducible refine At_go (by assumption) ?_)))))
    refine At_append_1 hF 0 rfl rfl (by simp) rfl (x0 := (t : Int)) rfl (by decide) (by simp [Value.one1]) (by simp only [TS.bytes, List.length_map, List.length_range]; omega) (by simp only [List.length_map, List.length_range]; omega) ?_
    intro A3 c3
    rw [← range_snocI]
    simp only [List.length_map, List.length_range]
    (repeat (first | ((with_reducible refine is_AL ?_); (first | ((with_reducible refine is_move ?_); (refine At_plain hF (by (exact (rfl : _ = some (Value.int _ _)))) ?_)) | ((with_reducible refine is_bin ?_); ((with_reducible refine is_badd ?_); (refine At_add hF rfl rfl (by omega) ?_))) | ((with_reducible refine is_assign ?_); (refine At_plain hF (by (exact (rfl : _ = some (Value.slice _ _ _)))) ?_)) | with_reducible refine At_nil ?_)) | ((with_reducible refine is_At ?_); (first | with_reducible refine At_region ?_ | with_reducible refine At_then_n ?_ | with_reducible refine At_inb_n ?_ | with_reducible refine At_go (by assumption) ?_))))
    refine At.sub ?_ (hL (t + 1, A3, c3) _ hlt (by simp only; omega) ?_)
    · (repeat (first | exact List.Sublist.refl _ | exact List.Sublist.slnil | refine List.Sublist.cons_cons _ ?_ | refine List.Sublist.cons _ ?_))
    · (repeat (first | exact True.intro | (refine And.intro ?_ ?_; focus (show _ = (_ : Value); first | exact rfl | (refine Eq.trans (b := Value.int IntKind.i64 _) rfl (congrArg (Value.int IntKind.i64) ?_); omega)))))
  obtain rfl : t = n := by omega
  clear hL
  refine At_open 0 rfl (by simp; omega) ?_
  rintro b5 junk rfl hj1 hj2 hj3
  rw [rangeI_len] at hj1 hj2
  simp only [List.set_cons_zero]
  (repeat (first | ((with_reducible refine is_AL ?_); (first | ((with_reducible refine is_move ?_); (refine At_plain hF (by (exact (rfl : _ = some (Value.int _ _)))) ?_)) | with_reducible refine At_nil ?_)) | ((with_reducible refine is_At ?_); (first | with_reducible refine At_seq ?_; intro K hK | with_reducible refine At_block ?_ | with_reducible refine At_region ?_ | with_reducible refine At_exit ?_ | with_reducible refine At_then_n ?_ | with_reducible refine At_then_e ?_ | with_reducible refine At_inb_e rfl ?_ | with_reducible refine At_go (by assumption) ?_))))
  refine At_loop (fun st : Nat × (Option Nat × Nat) × (Nat × Nat × List Value) => [(0, .int .i64 t), (1, .slice A l.length c), (5, .slice (some ⟨st.2.2.1, 0, none⟩) (t - st.1) st.2.2.2.1), (6, rowV st.2.1.1 st.1 st.2.1.2), (19, .int .i64 t), (20, .int .i64 st.1)])
    (fun st => [.obj st.2.2.1 (.cells (buf (sc (Value.int .i64)) (ordS t l st.1).1 st.2.2.2.2) 3 (0, 0)), .row 3 1 (sc (Value.int .i64)) st.2.1.1 st.2.1.2 (ordS t l st.1).2]) (fun st => st.1 ≤ t ∧ t - st.1 ≤ st.2.2.2.1 ∧ st.2.2.2.1 ≤ maxLen) (fun st => t - st.1) (0, (none, 0), (b5, c1, junk)) ?_ ?_ ⟨Nat.zero_le _, hj2, hj3⟩ ?_
  · (repeat (first | exact List.Sublist.refl _ | exact List.Sublist.slnil | refine List.Sublist.cons_cons _ ?_ | refine List.Sublist.cons _ ?_))
  · (repeat (first | exact True.intro | (refine And.intro ?_ ?_; focus (show _ = (_ : Value); first | exact rfl | (refine Eq.trans (b := Value.int IntKind.i64 _) rfl (congrArg (Value.int IntKind.i64) ?_); omega)))))
  rintro ⟨i, ⟨A6, c6⟩, ⟨b, cr, jk⟩⟩ hi K hL ρ2
  simp only at hi
  obtain ⟨hi, hcr, hcm⟩ := hi
  try dsimp only
  (repeat (first | ((with_reducible refine is_AL ?_); (first | ((with_reducible refine is_bin ?_); (refine At_plain hF (by (exact (rfl : _ = some (Value.bool _)))) ?_)) | with_reducible refine At_nil ?_)) | ((with_reducible refine is_At ?_); (first | with_reducible refine At_seq ?_; intro K hK | with_reducible refine At_region ?_ | with_reducible refine At_then_n ?_ | with_reducible refine At_go (by assumption) ?_))))
  ((with_reducible refine is_cond ?_); (refine At_cond rfl ?_ ?_ <;> (intro hg; try (simp only [decide_eq_true_eq, decide_eq_false_iff_not, beq_iff_eq, bne_iff_ne, beq_eq_false_iff_ne, bne_eq_false_iff_eq, ne_eq, Bool.not_eq_true', Bool.not_eq_false', Bool.not_true, Bool.not_false, Decidable.not_not] at hg); try (exfalso; first | omega | exact hg True.intro))))
  · have hlt : i < t := by omega
    obtain ⟨hlen1, hlen2⟩ := ordS_len t l hl i hi
    have hk := kAt_lt l i (ordS t l i).1.length (by omega) hl
    have hs1 : (ordS t l (i + 1)).1 = (ordS t l i).1.eraseIdx (kAt l i (ordS t l i).1.length) := rfl
    have hs2 : (ordS t l (i + 1)).2 = (ordS t l i).2 ++ [(ordS t l i).1.getD (kAt l i (ordS t l i).1.length) 0] := rfl
    have hke : ∀ (h : i < l.length), (l.getD i 0) % ((t - i : Nat) : Int) = (kAt l i (ordS t l i).1.length : Nat) := fun h => by
      rw [kAt, if_pos h, hlen1]
      exact (Int.toNat_of_nonneg (Int.emod_nonneg _ (by omega))).symm
    have hkz : ¬ i < l.length → (kAt l i (ordS t l i).1.length : Nat) = 0 := fun h => by rw [kAt, if_neg h]
    rw [hlen1] at hk hs1 hs2 hke hkz
    generalize kAt l i (t - i) = k at *
    generalize hrst : (ordS t l i).1 = rst at *
    generalize hout : (ordS t l i).2 = out at *
    (repeat (first | ((with_reducible refine is_AL ?_); (first | ((with_reducible refine is_move ?_); (refine At_plain hF (by (first | exact (rfl : _ = some (Value.int _ _)) | exact (rfl : _ = some (Value.slice _ _ _)))) ?_)) | ((with_reducible refine is_bin ?_); (refine At_plain hF (by (exact (rfl : _ = some (Value.bool _)))) ?_)) | ((with_reducible refine is_assign ?_); (refine At_plain hF (by (exact (rfl : _ = some (Value.int _ _)))) ?_)) | ((with_reducible refine is_call ?_); (refine At_len hF rfl ?_)) | with_reducible refine At_nil ?_)) | ((with_reducible refine is_At ?_); (first | with_reducible refine At_seq ?_; intro K hK | with_reducible refine At_block ?_ | with_reducible refine At_region ?_ | with_reducible refine At_skip ?_ | with_reducible refine At_then_n ?_ | with_reducible refine At_go (by assumption) ?_))))
    refine At_merge [(0, .int .i64 t), (1, .slice A l.length c), (5, .slice (some ⟨b, 0, none⟩) (t - i) cr), (6, rowV A6 i c6), (8, .int .i64 i), (9, .int .i64 k), (19, .int .i64 t), (20, .int .i64 i)] [.obj b (.cells (buf (sc (Value.int .i64)) rst jk) 3 (0, 0)), .row 3 1 (sc (Value.int .i64)) A6 c6 out] ?_ ?_
    · intro K' hK'
      ((with_reducible refine is_cond ?_); (refine At_cond rfl ?_ ?_ <;> (intro hg; try (simp only [decide_eq_true_eq, decide_eq_false_iff_not, beq_iff_eq, bne_iff_ne, beq_eq_false_iff_ne, bne_eq_false_iff_eq, ne_eq, Bool.not_eq_true', Bool.not_eq_false', Bool.not_true, Bool.not_false, Decidable.not_not] at hg); try (exfalso; first | omega | exact hg True.intro))))
      · have hil : i < l.length := by omega
        obtain ⟨adl, hAl, hcell⟩ := C8 hr i hil
        have hx := hl _ (getD_mem' (d := (0 : Int)) hil)
        have hke := hke hil
        generalize l.getD i 0 = x at *
        have hwx : IntKind.i64.wrap x = x := wrap64_ino (by omega) (by omega)
        (repeat (first | ((with_reducible refine is_AL ?_); (first | ((with_reducible refine is_move ?_); (refine At_plain hF (by (first | exact (rfl : _ = some (Value.int _ _)) | exact (rfl : _ = some (Value.slice _ _ _)))) ?_)) | ((with_reducible refine is_index ?_); (refine At_indexC1 hF rfl (by assumption) rfl rfl (by omega) ?_)))) | ((with_reducible refine is_At ?_); (with_reducible refine At_region ?_))))
        refine At_loadC hF (by exact rfl) hcell ?_
        refine At_conv hF Try.underlying5 Try.underlying3 (by exact rfl) ?_
        rw [hwx]
        (repeat (first | ((with_reducible refine is_AL ?_); (first | ((with_reducible refine is_move ?_); (refine At_plain hF (by (exact (rfl : _ = some (Value.slice _ _ _)))) ?_)) | ((with_reducible refine is_bin ?_); ((with_reducible refine is_brem ?_); (refine At_rem hF rfl rfl (by omega) ?_))) | ((with_reducible refine is_assign ?_); (refine At_plain hF (by (exact (rfl : _ = some (Value.int _ _)))) ?_)) | ((with_reducible refine is_call ?_); (refine At_len hF rfl ?_)) | with_reducible refine At_nil ?_)) | ((with_reducible refine is_At ?_); (with_reducible refine At_then_n ?_))))
        rw [hke]
        refine At.sub ?_ (hK' _ ?_)
        · (repeat (first | exact List.Sublist.refl _ | exact List.Sublist.slnil | refine List.Sublist.cons_cons _ ?_ | refine List.Sublist.cons _ ?_))
        · (repeat (first | exact True.intro | (refine And.intro ?_ ?_; focus (show _ = (_ : Value); first | exact rfl | (refine Eq.trans (b := Value.int IntKind.i64 _) rfl (congrArg (Value.int IntKind.i64) ?_); omega)))))
      · have hkz := hkz (by omega)
        subst hkz
        (repeat ((with_reducible refine is_At ?_); (first | with_reducible refine At_skip ?_ | with_reducible refine At_then_n ?_)))
        refine At.sub ?_ (hK' _ ?_)
        · (repeat (first | exact List.Sublist.refl _ | exact List.Sublist.slnil | refine List.Sublist.cons_cons _ ?_ | refine List.Sublist.cons _ ?_))
        · (repeat (first | exact True.intro | (refine And.intro ?_ ?_; focus (show _ = (_ : Value); first | exact rfl | (refine Eq.trans (b := Value.int IntKind.i64 _) rfl (congrArg (Value.int IntKind.i64) ?_); omega)))))
    clear hke hkz
    intro ρ3
    try dsimp only
    have hkr : k < rst.length := by omega
    ((repeat (first | ((with_reducible refine is_AL ?_); (first | ((with_reducible refine is_move ?_); (refine At_plain hF (by (first | exact (rfl : _ = some (Value.int _ _)) | exact (rfl : _ = some (Value.slice _ _ _)))) ?_)) | ((with_reducible refine is_load ?_); (refine At_load hF 0 (by exact rfl) rfl (by (exact buf_getI _ (by omega))) ?_)) | ((with_reducible refine is_index ?_); (refine At_indexS1 hF rfl rfl rfl (by omega) ?_)))) | ((with_reducible refine is_At ?_); (first | with_reducible refine At_seq ?_; intro K hK | with_reducible refine At_region ?_ | with_reducible refine At_go (by assumption) ?_)))); ((with_reducible refine is_bslice ?_); (refine At_slice1_1 hF (by decide) (by (exact (rfl : _ = (Value.int _ _)))) rfl ?_; intro bl)); (repeat (first | ((with_reducible refine is_AL ?_); (first | ((with_reducible refine is_move ?_); (refine At_plain hF (by (first | exact (rfl : _ = some (Value.int _ _)) | exact (rfl : _ = some (Value.slice _ _ _)))) ?_)) | ((with_reducible refine is_load ?_); (refine At_load hF 0 (by exact rfl) rfl (by (exact buf_getI _ (by omega))) ?_)) | ((with_reducible refine is_index ?_); (refine At_indexS1 hF rfl rfl rfl (by omega) ?_)))) | ((with_reducible refine is_At ?_); (first | with_reducible refine At_seq ?_; intro K hK | with_reducible refine At_region ?_ | with_reducible refine At_go (by assumption) ?_)))))
    refine At_append_2 hF 0 rfl rfl hlen2.symm rfl (x0 := rst.getD k 0) rfl (by decide) (by simp [Value.one1]) (by simp only [TS.bytes]; omega) (by omega) ?_
    intro A7 c7
    rw [hlen2, ← hs2]
    clear hs2 hout hlen2
    (repeat (first | ((with_reducible refine is_AL ?_); (first | ((with_reducible refine is_assign ?_); (refine At_plain hF (by (exact (rfl : _ = some (Value.slice _ _ _)))) ?_)) | with_reducible refine At_nil ?_)) | ((with_reducible refine is_At ?_); (first | with_reducible refine At_then_n ?_ | with_reducible refine At_go (by assumption) ?_))))
    have hm64 : 64 ≤ maxLen := by decide
    have e1 : (rst.take k).length = k := by rw [List.length_take]; omega
    have e2 : (rst.drop (k + 1)).length = t - i - (k + 1) := by rw [List.length_drop]; omega
    have e3 : (rst.take k).length + (rst.drop (k + 1)).length = t - (i + 1) := by omega
    refine At_drawE hF 9 [0, 1, 2, 3, 4, 5, 6, 7] [] [8] ([]) (by kernel_rfl) (by decide +kernel) (by decide +kernel) ?_; simp only [List.drop_succ_cons, List.drop_zero]; (repeat ((with_reducible refine is_AQF ?_); first | refine AQF_early (by decide) (by exact (rfl : _ = some (Oper.mk _ _ _ _ _ _))) (by intro K Q hK; (repeat ((with_reducible refine is_move ?_); (refine At_plain hF (by (first | exact (rfl : _ = some (Value.int _ _)) | exact (rfl : _ = some (Value.slice _ _ _)))) ?_))); exact At_nilK hK) ?_ | refine AQF_late (by decide) (by exact (rfl : _ = some (Oper.mk _ _ _ _ _ _))) (by intro E K Q hK; simp only [List.cons_append, List.nil_append] at hK ⊢; (repeat ((with_reducible refine is_move ?_); (refine At_plain hF (by (first | exact (rfl : _ = some (Value.int _ _)) | exact (rfl : _ = some (Value.slice _ _ _)))) ?_))); exact At_nilK hK) ?_))
    refine AQF_late (by decide) (by exact (rfl : _ = some (Oper.mk _ _ _ _ _ _))) (by intro E K Q hK; simp only [List.cons_append, List.nil_append] at hK ⊢; refine At_cut_hm hF (by exact rfl) (by exact rfl) (by exact rfl) (Nat.le_refl k) (by omega) ?_; rw [cutA_zero]; exact At_nilK hK) ?_
    (repeat ((with_reducible refine is_AQF ?_); first | refine AQF_early (by decide) (by exact (rfl : _ = some (Oper.mk _ _ _ _ _ _))) (by intro K Q hK; (repeat (first | ((with_reducible refine is_move ?_); (refine At_plain hF (by (first | exact (rfl : _ = some (Value.int _ _)) | exact (rfl : _ = some (Value.slice _ _ _)))) ?_)) | ((with_reducible refine is_bin ?_); ((with_reducible refine is_badd ?_); (refine At_add hF rfl rfl (by omega) ?_))))); exact At_nilK hK) ?_ | refine AQF_late (by decide) (by exact (rfl : _ = some (Oper.mk _ _ _ _ _ _))) (by intro E K Q hK; simp only [List.cons_append, List.nil_append] at hK ⊢; (repeat (first | ((with_reducible refine is_move ?_); (refine At_plain hF (by (first | exact (rfl : _ = some (Value.int _ _)) | exact (rfl : _ = some (Value.slice _ _ _)))) ?_)) | ((with_reducible refine is_bin ?_); ((with_reducible refine is_badd ?_); (refine At_add hF rfl rfl (by omega) ?_))))); exact At_nilK hK) ?_))
    refine AQF_late (by decide) (by exact (rfl : _ = some (Oper.mk _ _ _ _ _ _))) (by intro E K Q hK; simp only [List.cons_append, List.nil_append] at hK ⊢; refine At_cut_l (l := k + 1) hF (by exact rfl) (by exact rfl) (by omega) ?_; exact At_nilK hK) ?_
    refine AQF_done ?_
    (refine WAt_cons ?_ (by exact (rfl : _ = some (Oper.mk _ _ _ _ _ _))) ?_; (focus (repeat (first | exact List.Sublist.refl _ | exact List.Sublist.slnil | refine List.Sublist.cons_cons _ ?_ | refine List.Sublist.cons _ ?_))); intro K Q hK)
    refine At_spreadNew (sz := 1) (enc := sc (Value.int .i64)) (l := rst.take k) (ys := rst.drop (k + 1)) hF (by exact rfl) e1.symm rfl (by exact rfl) e2.symm (fun w hw => Lies.obj (hw.at_ 1 rfl) (fun j u hu => ints_get 0 (take_get hu))) (fun w hw => by
      by_cases h : cr = k + 1
      · exact .inl (by rw [List.drop_of_length_le (by omega)]; rfl)
      · rw [show TS.sz Try.prog 29 = 1 from rfl, cutA_at _ _ _ h]
        exact Lies.obj (hw.at_ 1 rfl) (fun j u hu => ints_get (k + 1) hu)) (fun _ => rfl) (by decide) (by simp only [TS.bytes]; omega) (by omega) ?_ ?_
    · intro hnil
      have hk1 : t - (i + 1) = k := by rw [hnil] at e3; simp only [List.length_nil] at e3; omega
      refine At_nilK (hK _ _ ?_)
      (refine WAt_nil ?_ ?_; (focus (repeat (first | exact List.Sublist.refl _ | exact List.Sublist.slnil | refine List.Sublist.cons_cons _ ?_ | refine List.Sublist.cons _ ?_))))
      (repeat (first | ((with_reducible refine is_AL ?_); (first | ((with_reducible refine is_move ?_); (refine At_plain hF (by (exact (rfl : _ = some (Value.int _ _)))) ?_)) | ((with_reducible refine is_bin ?_); ((with_reducible refine is_badd ?_); (refine At_add hF rfl rfl (by omega) ?_))) | ((with_reducible refine is_assign ?_); (refine At_plain hF (by (exact (rfl : _ = some (Value.slice _ _ _)))) ?_)) | with_reducible refine At_nil ?_)) | ((with_reducible refine is_At ?_); (first | with_reducible refine At_region ?_ | with_reducible refine At_then_n ?_ | with_reducible refine At_inb_n ?_ | with_reducible refine At_go (by assumption) ?_))))
      (refine At.pick [1, 2] (by decide) (R' := [_, _]) rfl ?_)
      rw [buf_split (sc (Value.int .i64)) rst jk k]
      have hs3 : rst.take k = (ordS t l (i + 1)).1 := by rw [hs1, eraseIdx_cut, hnil, List.append_nil]
      rw [hs3]
      refine At.sub ?_ (hL (i + 1, (A7, c7), (b, k, (rst.drop k).flatMap (sc (Value.int .i64)) ++ jk)) _ ⟨hlt, by simp only; omega, by simp only; omega⟩ (by simp only; omega) ?_)
      · (repeat (first | exact List.Sublist.refl _ | exact List.Sublist.slnil | refine List.Sublist.cons_cons _ ?_ | refine List.Sublist.cons _ ?_))
      · simp only [hk1]
        (repeat (first | exact True.intro | (refine And.intro ?_ ?_; focus (show _ = (_ : Value); first | exact rfl | (refine Eq.trans (b := Value.int IntKind.i64 _) rfl (congrArg (Value.int IntKind.i64) ?_); omega)))))
    · intro hne b' c'
      rw [e3]
      refine At_nilK (hK _ _ ?_)
      (refine WAt_nil ?_ ?_; (focus (repeat (first | exact List.Sublist.refl _ | exact List.Sublist.slnil | refine List.Sublist.cons_cons _ ?_ | refine List.Sublist.cons _ ?_))))
      (repeat (first | ((with_reducible refine is_AL ?_); (first | ((with_reducible refine is_move ?_); (refine At_plain hF (by (exact (rfl : _ = some (Value.int _ _)))) ?_)) | ((with_reducible refine is_bin ?_); ((with_reducible refine is_badd ?_); (refine At_add hF rfl rfl (by omega) ?_))) | ((with_reducible refine is_assign ?_); (refine At_plain hF (by (exact (rfl : _ = some (Value.slice _ _ _)))) ?_)) | with_reducible refine At_nil ?_)) | ((with_reducible refine is_At ?_); (first | with_reducible refine At_region ?_ | with_reducible refine At_then_n ?_ | with_reducible refine At_inb_n ?_ | with_reducible refine At_go (by assumption) ?_))))
      refine At_open 0 rfl (by rw [List.length_append]; have := List.length_pos_iff.2 hne; omega) ?_
      intro b2 jk2 hb2 hq1 hq2 hq3
      obtain rfl : b' = b2 := Option.some.inj hb2
      simp only [List.set_cons_zero]
      (refine At.pick [0, 3] (by decide) (R' := [_, _]) rfl ?_)
      rw [List.length_append] at hq2
      rw [← eraseIdx_cut, ← hs1]
      refine At.sub ?_ (hL (i + 1, (A7, c7), (b', c', jk2)) _ ⟨hlt, by simp only; omega, hq3⟩ (by simp only; omega) ?_)
      · (repeat (first | exact List.Sublist.refl _ | exact List.Sublist.slnil | refine List.Sublist.cons_cons _ ?_ | refine List.Sublist.cons _ ?_))
      · (repeat (first | exact True.intro | (refine And.intro ?_ ?_; focus (show _ = (_ : Value); first | exact rfl | (refine Eq.trans (b := Value.int IntKind.i64 _) rfl (congrArg (Value.int IntKind.i64) ?_); omega)))))
  obtain rfl : i = t := by omega
  (repeat (first | ((with_reducible refine is_AL ?_); (first | ((with_reducible refine is_move ?_); (refine At_plain hF (by (exact (rfl : _ = some (Value.slice _ _ _)))) ?_)) | ((with_reducible refine is_assign ?_); (refine At_plain hF (by (exact (rfl : _ = some (Value.slice _ _ _)))) ?_)) | with_reducible refine At_nil ?_)) | ((with_reducible refine is_At ?_); (first | with_reducible refine At_seq ?_; intro K hK | with_reducible refine At_region ?_ | with_reducible refine At_ret ?_ | with_reducible refine At_exit ?_ | with_reducible refine At_then_n ?_ | with_reducible refine At_then_e ?_ | with_reducible refine At_inb_e rfl ?_ | with_reducible refine At_go (by assumption) ?_))))
  (refine At.pick [1] (by decide) (R' := [_]) rfl ?_)
  exact At_ret1 rfl (rv_tmp (by decide)) (fun w' hw' => ⟨_, rfl, A6, c6, rfl, hw'⟩)
end Go.Proofs.Ytecgklfcblpkdaa.P

/- fastilaw21.order: the contract. -/
namespace Go.Proofs.Ytecgklfcblpkdaa.P
open Go.RowKit Go.Proofs.YtecgklfcblpkdaaW.PrintWords Go.Proofs.YtecgklfcblpkdaaW.PrintLast Go.Proofs.YtecgklfcblpkdaaW.PrintMore
open XW
end Go.Proofs.Ytecgklfcblpkdaa.P
