/- CarryRenamed: the law's walk. -/
import Derived.Test.YtcjpghiceebkfaaRenP
import Derived.Test.YtcjpghiceebkfaaRightLaw
namespace Go.Proofs.Ytcjpghiceebkfaa.P
open Go.RowKit Go.Proofs.YtcjpghiceebkfaaW.PrintWords Go.Proofs.YtcjpghiceebkfaaW.PrintLast Go.Proofs.YtcjpghiceebkfaaW.PrintMore
open XW RegInv
attribute [local irreducible] Addr.add
set_option linter.unusedSimpArgs false
set_option linter.unusedVariables false

/-! ### a row of one's own, as a callee reads it; a row that a callee made -/
theorem mem_of_R {w w' : World} {e : TypeId} {v : Value} {xs : List Int} (h : Kd.R (Kd.int .i64) e w' w.heap.size (fun _ => True) v xs) (hb : Below w.heap.size w w') : ∃ A c, v = rowV A xs.length c ∧ Mem w w' [.row e 1 (sc (Value.int .i64)) A c xs] := by
  obtain ⟨_, inner, hown, hreps⟩ := h
  have hi : inner = xs.flatMap (sc (Value.int .i64)) := by
    have h1 := hreps.1
    rw [show (Kd.int IntKind.i64).sz = 1 from rfl, Nat.mul_one] at h1
    refine List.ext_getElem? fun j => ?_
    rw [flat_int, encs, List.getElem?_map]
    by_cases hj : j < xs.length
    · have := hreps.2 j xs[j] (List.getElem?_eq_getElem hj)
      rw [show (Kd.int IntKind.i64).sz = 1 from rfl, Nat.mul_one, List.drop_eq_getElem_cons (by omega)] at this
      have h2 : inner[j] = .int .i64 xs[j] := by
        have h3 : [inner[j]] = [Value.int .i64 xs[j]] := this
        simpa using h3
      rw [List.getElem?_eq_getElem (by omega), List.getElem?_eq_getElem hj, h2]; rfl
    · rw [List.getElem?_eq_none (by omega), List.getElem?_eq_none (by omega)]; rfl
  subst hi
  obtain ⟨A, c, hv, hok, hA⟩ := rowOk_of (enc := sc (Value.int .i64)) (sz := 1) (fun _ => rfl) hown
  refine ⟨A, c, hv, hb, fun r hr => ?_, fun r hr k hk => ?_, by simp⟩
  · rw [List.mem_singleton] at hr; subst hr; exact hok
  · rw [List.mem_singleton] at hr; subst hr
    have hk' : A = some k := hk
    have h4 := (hA k).1 hk'
    subst hv
    rcases hown.2 with ⟨h5, _⟩ | ⟨g, cp, cur, h5, h6, h7, _⟩
    · rw [h5] at h4; simp [Value.ownBlock] at h4
    · rw [h5] at h4
      simp [Value.ownBlock] at h4
      subst h4
      exact ⟨h6, (Array.getElem?_eq_some_iff.1 h7).1⟩
theorem C_of_row {base w : World} {R : List Res} {e : TypeId} {A : Option Nat} {c : Nat} {xs : List Int} (hw : Mem base w R) (hm : Res.row e 1 (sc (Value.int .i64)) A c xs ∈ R) : Kd.C (Kd.int .i64) w (A.map fun b => ⟨b, 0, none⟩) xs.length xs := by
  have h0 : RowOk e 1 (sc (Value.int .i64)) A c xs w := hw.ok _ hm
  have h2 := ownsRow_of (B := base.heap.size) h0 (fun k hk => (hw.bd _ hm k hk).1)
  rw [flat_int] at h2
  exact (Kd.R_reads' (Kd.R_of_own h2 (fun _ _ => trivial))).2.2
theorem C45_of_row {base w : World} {R : List Res} {A : Option Nat} {c : Nat} {xs : List S45} (hw : Mem base w R) (hm : Res.row 45 3 enc45 A c xs ∈ R) : Kd.C k45 w (A.map fun b => ⟨b, 0, none⟩) xs.length xs := by
  have h0 : RowOk 45 3 enc45 A c xs w := hw.ok _ hm
  have h2 := ownsRow_of (B := base.heap.size) h0 (fun k hk => (hw.bd _ hm k hk).1)
  have h3 : Kd.R k45 45 w base.heap.size (fun _ => True) (rowV A xs.length c) xs := ⟨fun _ _ => trivial, _, h2, reps45 _ _ _ _⟩
  exact (Kd.R_reads' h3).2.2
theorem row_len {base w : World} {R : List Res} {α : Type} {e sz : Nat} {enc : α → List Value} {A : Option Nat} {c : Nat} {xs : List α} (hw : Mem base w R) (hm : Res.row e sz enc A c xs ∈ R) : xs.length ≤ c := (hw.ok _ hm : RowOk e sz enc A c xs w).2.1
theorem order_rets (N : Nat) (hN : 2 ≤ N ∧ N ≤ 20) (A : Option Addr) (c : Nat) (l : List Int) (w : World) (hr : Kd.C (Kd.int .u8) w A l.length l) (hc : l.length ≤ c) (hl : ∀ x ∈ l, 0 ≤ x ∧ x ≤ 255) (hlen : l.length ≤ 100) :
    Rets Try.prog 23 #[.int .i64 N, .slice A l.length c] w fun u w' => ∃ Rs, (∃ A' c' tos, Ord N tos ∧ u = rowV A' N c' ∧ Rs = [.row 3 1 (sc (Value.int .i64)) A' c' tos]) ∧ Mem w w' Rs := by
  obtain ⟨out, h1, h2⟩ := order_f N hN l hl hlen
  refine (fastilaw22_order.calls 200 N A c l out w hr hc h1).mono ?_
  rintro e w' ⟨v, rfl, hR, hb⟩
  obtain ⟨A', c', rfl, hmem⟩ := mem_of_R hR hb
  exact ⟨_, rfl, _, ⟨A', c', out, h2, by rw [h2.len], rfl⟩, hmem⟩
theorem named_of {N : Nat} {m : List S45} {es : Ent} {r : Int} {tos : List Int} (ho : Ord N tos) (hf : foesF N m = some (es, r)) : Named tos m := fun x hx => by
  have := (foesF_inv hf).2.1 x hx
  have hl := ho.len
  unfold bad at this
  omega

theorem C_boolv {w : World} {A : Option Addr} {n : Nat} {xs : List Bool} (h : Kd.C Kd.bool w A n xs) (k : Nat) (hk : k < n) : ∃ ad, A = some ad ∧ w.cell? (ad.add k) = some (.bool (xs.getD k false)) := by
  obtain ⟨ad, c, hA, _, hK, hc⟩ := Kd.C_get h false (k : Int) (by omega) (by omega)
  rw [Int.toNat_natCast] at hK hc
  obtain rfl : c = [Value.bool (xs.getD k false)] := hK
  refine ⟨ad, hA, ?_⟩
  have := hc 0 _ rfl
  rw [show Kd.bool.sz = 1 from rfl, Nat.mul_one, Nat.add_zero] at this
  exact this
theorem E9r : Enters Try.prog 9 := enters Try.func9 (by kernel_rfl) rfl
theorem E21r : Enters Try.prog 21 := enters Try.func21 (by kernel_rfl) rfl
theorem E13r : Enters Try.prog 13 := enters Try.func13 (by kernel_rfl) rfl
theorem E23 : Enters Try.prog 23 := enters Try.func23 (by kernel_rfl) rfl
theorem E24 : Enters Try.prog 24 := enters Try.func24 (by kernel_rfl) rfl
theorem sane_retsr (w : World) : Rets Try.prog 9 #[] w fun u w' => u = .bool true ∧ Below w.heap.size w w' :=
  (fastilaw22_sane.calls 20 true w sane_at).mono (by rintro e w'' ⟨rfl, hb⟩; exact ⟨_, rfl, rfl, hb⟩)
theorem right_retsr (n : Int) (A : Option Addr) (c : Nat) (m : List S45) (w : World) (hr : Kd.C k45 w A m.length m) (hc : m.length ≤ c) : Rets Try.prog 21 #[.int .i64 n, .slice A m.length c] w fun u w' => u = .bool (decide ((m.length : Int) ≤ 700) && rightB n m) ∧ Below w.heap.size w w' :=
  (fastilaw22_right.calls (2 * m.length + 2) n A c m _ w hr hc (Pure.right_law _ n m (Nat.le_refl _))).mono (by rintro e w'' ⟨rfl, hb⟩; exact ⟨_, rfl, rfl, hb⟩)
/-- the two stores of an exchange of venues -/
theorem turn_set (xs : List S45) (k : Nat) (hk : k < xs.length) : (ents ((xs.set k ⟨(xs.getD k z45).f0, (xs.getD k z45).f2, (xs.getD k z45).f2⟩).set k ⟨(xs.getD k z45).f0, (xs.getD k z45).f2, (xs.getD k z45).f1⟩)).Perm (ents xs) := by
  rw [List.set_set]
  refine ents_set hk _ ?_
  exact List.Perm.swap ..

set_option maxHeartbeats 8000000 in
theorem renamed_law (n : Int) (A : Option Addr) (c : Nat) (m : List S45) (A2 : Option Addr) (c2 : Nat) (l : List Int) (A3 : Option Addr) (c3 : Nat) (tn : List Bool) (w : World) (hr : Kd.C k45 w A m.length m) (hc : m.length ≤ c) (hr2 : Kd.C (Kd.int .u8) w A2 l.length l) (hc2 : l.length ≤ c2) (hl8 : ∀ x ∈ l, 0 ≤ x ∧ x ≤ 255) (hr3 : Kd.C Kd.bool w A3 tn.length tn) (hc3 : tn.length ≤ c3) :
    Rets Try.prog 6 #[.int .i64 n, .slice A m.length c, .slice A2 l.length c2, .slice A3 tn.length c3] w fun u w' => u = .bool true ∧ Below w.heap.size w w' := by
  have hF := wide_wide
  have hmx := hr.2.1
  have hmx2 := hr2.2.1
  have hmx3 := hr3.2.1
  refine rets_at (n := 205) Try.func6 rfl Try.ntmps6 (by simp) ?_
  (repeat (first | ((with_reducible refine is_AL ?_); (first | ((with_reducible refine is_assign ?_); (refine At_plain hF (by (exact (rfl : _ = some (Value.bool _)))) ?_)) | with_reducible refine At_nil ?_)) | ((with_reducible refine is_At ?_); (first | with_reducible refine At_seq ?_; intro K hK | with_reducible refine At_region ?_ | with_reducible refine At_then_n ?_ | with_reducible refine At_go (by assumption) ?_))))
  refine At_callB hF E9r rfl (vs := #[]) (by simp) (fun w' hw' => sane_retsr w') ?_
  (repeat (first | ((with_reducible refine is_AL ?_); (first | ((with_reducible refine is_move ?_); (refine At_plain hF (by (first | exact (rfl : _ = some (Value.int _ _)) | exact (rfl : _ = some (Value.slice _ _ _)))) ?_)) | ((with_reducible refine is_un ?_); (refine At_plain hF (by (exact (rfl : _ = some (Value.bool _)))) ?_)) | with_reducible refine At_nil ?_)) | ((with_reducible refine is_At ?_); (first | with_reducible refine At_seq ?_; intro K hK | with_reducible refine At_region ?_ | with_reducible refine At_skip ?_ | with_reducible refine At_then_n ?_ | with_reducible refine At_go (by assumption) ?_ | ((with_reducible refine is_cond ?_); (refine At_cond_f rfl ?_))))))
  refine At_callB hF E21r rfl (arg2 (by (first | exact (rfl : _ = (Value.int _ _)) | exact (rfl : _ = (Value.bool _)) | exact (rfl : _ = (Value.pointer _)) | exact (rfl : _ = (Value.slice _ _ _)) | exact (rfl : _ = (Value.map _)) | exact (rfl : _ = (Value.func _ _ _)) | exact (rfl : _ = (Value.tuple _)) | exact (rfl : _ = (Value.agg _)) | exact (rfl : _ = (Value.string _)) | exact (rfl : _ = (Value.nilFunc)) | exact (rfl : _ = (Value.nilIface)))) (by (first | exact (rfl : _ = (Value.int _ _)) | exact (rfl : _ = (Value.bool _)) | exact (rfl : _ = (Value.pointer _)) | exact (rfl : _ = (Value.slice _ _ _)) | exact (rfl : _ = (Value.map _)) | exact (rfl : _ = (Value.func _ _ _)) | exact (rfl : _ = (Value.tuple _)) | exact (rfl : _ = (Value.agg _)) | exact (rfl : _ = (Value.string _)) | exact (rfl : _ = (Value.nilFunc)) | exact (rfl : _ = (Value.nilIface))))) (fun w' hw' => right_retsr n A c m w' (Kd.C_below hr hw'.below) hc) ?_
  cases hrt : (decide ((m.length : Int) ≤ 700) && rightB n m) with
  | false =>
    (repeat (first | ((with_reducible refine is_AL ?_); (first | ((with_reducible refine is_guarded ?_); (refine At_guard_f hF rfl (by decide) rfl rfl ?_)) | ((with_reducible refine is_move ?_); (refine At_plain hF (by (exact (rfl : _ = some (Value.bool _)))) ?_)) | ((with_reducible refine is_assign ?_); (refine At_plain hF (by (exact (rfl : _ = some (Value.bool _)))) ?_)) | ((with_reducible refine is_pick ?_); (refine At_plain hF (by (exact (rfl : _ = some (Value.bool _)))) ?_)) | ((with_reducible refine is_un ?_); (refine At_plain hF (by (exact (rfl : _ = some (Value.bool _)))) ?_)) | with_reducible refine At_nil ?_)) | ((with_reducible refine is_At ?_); (first | with_reducible refine At_seq ?_; intro K hK | with_reducible refine At_region ?_ | with_reducible refine At_ret ?_ | with_reducible refine At_then_n ?_ | with_reducible refine At_then_r ?_ | with_reducible refine At_go (by assumption) ?_ | ((with_reducible refine is_cond ?_); (refine At_cond_t rfl ?_))))))
    exact At_ret1 rfl (rv_tmp (by decide)) (fun w' hw' => ⟨_, rfl, rfl, hw'.below⟩)
  | true =>
    obtain ⟨hm, es, r, hff⟩ := Pure.few_inv hrt
    have hrb : rightB n m = true := by simp only [Bool.and_eq_true] at hrt; exact hrt.2
    have hm1 : m.length ≤ 1000000 := by omega
    have hok := fun es r hf => foes_ok n m hm1 es r hf
    obtain ⟨hf, hn2⟩ := fine_of hrb
    obtain ⟨N, rfl⟩ : ∃ N : Nat, n = N := ⟨n.toNat, by omega⟩
    simp only [Int.toNat_natCast] at *
    have hn20 := hf.n20
    (repeat (first | ((with_reducible refine is_AL ?_); (first | ((with_reducible refine is_guarded ?_); (refine At_guard_t rfl (by decide) rfl ?_)) | ((with_reducible refine is_move ?_); (refine At_plain hF (by (first | exact (rfl : _ = some (Value.bool _)) | exact (rfl : _ = some (Value.slice _ _ _)))) ?_)) | ((with_reducible refine is_bin ?_); (refine At_plain hF (by (exact (rfl : _ = some (Value.bool _)))) ?_)) | ((with_reducible refine is_pick ?_); (refine At_plain hF (by (exact (rfl : _ = some (Value.bool _)))) ?_)) | ((with_reducible refine is_un ?_); (refine At_plain hF (by (exact (rfl : _ = some (Value.bool _)))) ?_)) | ((with_reducible refine is_call ?_); (refine At_len hF rfl ?_)) | with_reducible refine At_nil ?_)) | ((with_reducible refine is_At ?_); (first | with_reducible refine At_then_n ?_ | with_reducible refine At_go (by assumption) ?_))))
    ((with_reducible refine is_cond ?_); (refine At_cond rfl ?_ ?_ <;> (intro hg; try (simp only [decide_eq_true_eq, decide_eq_false_iff_not, beq_iff_eq, bne_iff_ne, beq_eq_false_iff_ne, bne_eq_false_iff_eq, ne_eq, Bool.not_eq_true', Bool.not_eq_false', Bool.not_true, Bool.not_false, Decidable.not_not] at hg); try (exfalso; first | omega | exact hg True.intro))))
    · (repeat (first | ((with_reducible refine is_AL ?_); (first | ((with_reducible refine is_assign ?_); (refine At_plain hF (by (exact (rfl : _ = some (Value.bool _)))) ?_)) | with_reducible refine At_nil ?_)) | ((with_reducible refine is_At ?_); (first | with_reducible refine At_seq ?_; intro K hK | with_reducible refine At_region ?_ | with_reducible refine At_ret ?_ | with_reducible refine At_then_n ?_ | with_reducible refine At_then_r ?_ | with_reducible refine At_go (by assumption) ?_))))
      exact At_ret1 rfl (rv_tmp (by decide)) (fun w' hw' => ⟨_, rfl, rfl, hw'.below⟩)
    (repeat (first | ((with_reducible refine is_AL ?_); ((with_reducible refine is_move ?_); (refine At_plain hF (by (first | exact (rfl : _ = some (Value.int _ _)) | exact (rfl : _ = some (Value.slice _ _ _)))) ?_))) | ((with_reducible refine is_At ?_); (first | with_reducible refine At_seq ?_; intro K hK | with_reducible refine At_region ?_ | with_reducible refine At_skip ?_ | with_reducible refine At_then_n ?_ | with_reducible refine At_go (by assumption) ?_))))
    refine At_callM hF E23 rfl (arg2 (by (first | exact (rfl : _ = (Value.int _ _)) | exact (rfl : _ = (Value.bool _)) | exact (rfl : _ = (Value.pointer _)) | exact (rfl : _ = (Value.slice _ _ _)) | exact (rfl : _ = (Value.map _)) | exact (rfl : _ = (Value.func _ _ _)) | exact (rfl : _ = (Value.tuple _)) | exact (rfl : _ = (Value.agg _)) | exact (rfl : _ = (Value.string _)) | exact (rfl : _ = (Value.nilFunc)) | exact (rfl : _ = (Value.nilIface)))) (by (first | exact (rfl : _ = (Value.int _ _)) | exact (rfl : _ = (Value.bool _)) | exact (rfl : _ = (Value.pointer _)) | exact (rfl : _ = (Value.slice _ _ _)) | exact (rfl : _ = (Value.map _)) | exact (rfl : _ = (Value.func _ _ _)) | exact (rfl : _ = (Value.tuple _)) | exact (rfl : _ = (Value.agg _)) | exact (rfl : _ = (Value.string _)) | exact (rfl : _ = (Value.nilFunc)) | exact (rfl : _ = (Value.nilIface))))) (fun w' hw' => order_rets N ⟨by omega, hn20⟩ A2 c2 l w' (Kd.C_below hr2 hw'.below) hc2 hl8 (by omega)) ?_
    rintro u Rs ⟨At', ct, tos, ho, rfl, rfl⟩
    simp only [List.cons_append, List.nil_append]
    have htl := ho.len
    refine AL_at (At_rowSome 0 rfl (by omega) ?_)
    rintro bt rfl
    refine At_al ?_
    (repeat (first | ((with_reducible refine is_AL ?_); (first | ((with_reducible refine is_move ?_); (refine At_plain hF (by (first | exact (rfl : _ = some (Value.int _ _)) | exact (rfl : _ = some (Value.slice _ _ _)))) ?_)) | ((with_reducible refine is_assign ?_); (refine At_plain hF (by (exact (rfl : _ = some (Value.slice _ _ _)))) ?_)) | with_reducible refine At_nil ?_)) | ((with_reducible refine is_At ?_); (first | with_reducible refine At_seq ?_; intro K hK | with_reducible refine At_region ?_ | with_reducible refine At_then_n ?_ | with_reducible refine At_go (by assumption) ?_))))
    refine At_callM (Post := fun u Rs => ∃ A' c', u = rowV A' m.length c' ∧ Rs = [Res.row 45 3 enc45 A' c' (m.map (renS tos))]) hF E24 rfl (arg3 (by (first | exact (rfl : _ = (Value.int _ _)) | exact (rfl : _ = (Value.bool _)) | exact (rfl : _ = (Value.pointer _)) | exact (rfl : _ = (Value.slice _ _ _)) | exact (rfl : _ = (Value.map _)) | exact (rfl : _ = (Value.func _ _ _)) | exact (rfl : _ = (Value.tuple _)) | exact (rfl : _ = (Value.agg _)) | exact (rfl : _ = (Value.string _)) | exact (rfl : _ = (Value.nilFunc)) | exact (rfl : _ = (Value.nilIface)))) (by (first | exact (rfl : _ = (Value.int _ _)) | exact (rfl : _ = (Value.bool _)) | exact (rfl : _ = (Value.pointer _)) | exact (rfl : _ = (Value.slice _ _ _)) | exact (rfl : _ = (Value.map _)) | exact (rfl : _ = (Value.func _ _ _)) | exact (rfl : _ = (Value.tuple _)) | exact (rfl : _ = (Value.agg _)) | exact (rfl : _ = (Value.string _)) | exact (rfl : _ = (Value.nilFunc)) | exact (rfl : _ = (Value.nilIface)))) (by (first | exact (rfl : _ = (Value.int _ _)) | exact (rfl : _ = (Value.bool _)) | exact (rfl : _ = (Value.pointer _)) | exact (rfl : _ = (Value.slice _ _ _)) | exact (rfl : _ = (Value.map _)) | exact (rfl : _ = (Value.func _ _ _)) | exact (rfl : _ = (Value.tuple _)) | exact (rfl : _ = (Value.agg _)) | exact (rfl : _ = (Value.string _)) | exact (rfl : _ = (Value.nilFunc)) | exact (rfl : _ = (Value.nilIface))))) (fun w' hw' => by
      have h1 := C_of_row hw' (List.mem_cons_self ..)
      have h2 := row_len hw' (List.mem_cons_self ..)
      have h3 := renamed_rets N (some ⟨bt, 0, none⟩) ct tos A c m w' h1 h2 (Kd.C_below hr hw'.below) hc hm1 (named_of ho hff)
      rw [htl] at h3
      exact h3.mono (by rintro e w'' ⟨u, rfl, A', c', rfl, h⟩; exact ⟨_, rfl, _, ⟨A', c', rfl, rfl⟩, h⟩)) ?_
    rintro u Rs ⟨Ax, cx, rfl, rfl⟩
    simp only [List.cons_append, List.nil_append]
    (repeat (first | ((with_reducible refine is_AL ?_); (first | ((with_reducible refine is_move ?_); (refine At_plain hF (by (first | exact (rfl : _ = some (Value.int _ _)) | exact (rfl : _ = some (Value.slice _ _ _)))) ?_)) | ((with_reducible refine is_assign ?_); (refine At_plain hF (by (exact (rfl : _ = some (Value.slice _ _ _)))) ?_)) | ((with_reducible refine is_call ?_); (refine At_len hF rfl ?_)) | with_reducible refine At_nil ?_)) | ((with_reducible refine is_At ?_); (first | with_reducible refine At_seq ?_; intro K hK | with_reducible refine At_block ?_ | with_reducible refine At_region ?_ | with_reducible refine At_then_n ?_ | with_reducible refine At_go (by assumption) ?_))))
    refine At_loop (fun st : Nat × List S45 => [(0, .int .i64 N), (1, .slice A m.length c), (3, .slice A3 tn.length c3), (9, .slice (some ⟨bt, 0, none⟩) N ct), (10, rowV Ax m.length cx), (43, .int .i64 m.length), (44, .int .i64 st.1)])
      (fun st => [.row 45 3 enc45 Ax cx st.2, .row 3 1 (sc (Value.int .i64)) (some bt) ct tos]) (fun st => st.1 ≤ m.length ∧ st.2.length = m.length ∧ (ents st.2).Perm (ents (m.map (renS tos)))) (fun st => m.length - st.1) (0, m.map (renS tos)) ?_ ?_ ⟨Nat.zero_le _, by simp, List.Perm.refl _⟩ ?_
    · (repeat (first | exact List.Sublist.refl _ | exact List.Sublist.slnil | refine List.Sublist.cons_cons _ ?_ | refine List.Sublist.cons _ ?_))
    · (repeat (first | exact True.intro | (refine And.intro ?_ ?_; focus (show _ = (_ : Value); first | exact rfl | (refine Eq.trans (b := Value.int IntKind.i64 _) rfl (congrArg (Value.int IntKind.i64) ?_); omega)))))
    rintro ⟨k, xs⟩ ⟨hk, hxl, hxp⟩ K hL ρ0
    simp only at hk hxl hxp
    try dsimp only
    (repeat (first | ((with_reducible refine is_AL ?_); (first | ((with_reducible refine is_bin ?_); (refine At_plain hF (by (exact (rfl : _ = some (Value.bool _)))) ?_)) | with_reducible refine At_nil ?_)) | ((with_reducible refine is_At ?_); (first | with_reducible refine At_seq ?_; intro K hK | with_reducible refine At_region ?_ | with_reducible refine At_then_n ?_ | with_reducible refine At_go (by assumption) ?_))))
    ((with_reducible refine is_cond ?_); (refine At_cond rfl ?_ ?_ <;> (intro hg; try (simp only [decide_eq_true_eq, decide_eq_false_iff_not, beq_iff_eq, bne_iff_ne, beq_eq_false_iff_ne, bne_eq_false_iff_eq, ne_eq, Bool.not_eq_true', Bool.not_eq_false', Bool.not_true, Bool.not_false, Decidable.not_not] at hg); try (exfalso; first | omega | exact hg True.intro))))
    · have hlt : k < m.length := by omega
      (repeat (first | ((with_reducible refine is_AL ?_); (first | ((with_reducible refine is_move ?_); (refine At_plain hF (by (first | exact (rfl : _ = some (Value.int _ _)) | exact (rfl : _ = some (Value.bool _)) | exact (rfl : _ = some (Value.slice _ _ _)))) ?_)) | ((with_reducible refine is_bin ?_); (refine At_plain hF (by (exact (rfl : _ = some (Value.bool _)))) ?_)) | ((with_reducible refine is_assign ?_); (refine At_plain hF (by (exact (rfl : _ = some (Value.int _ _)))) ?_)) | ((with_reducible refine is_call ?_); (refine At_len hF rfl ?_)) | with_reducible refine At_nil ?_)) | ((with_reducible refine is_At ?_); (first | with_reducible refine At_seq ?_; intro K hK | with_reducible refine At_block ?_ | with_reducible refine At_region ?_ | with_reducible refine At_skip ?_ | with_reducible refine At_then_n ?_ | with_reducible refine At_go (by assumption) ?_))))
      ((with_reducible refine is_guarded ?_); (refine At_guard hF rfl (by decide) rfl ?_ ?_ <;> (intro hg; try (simp only [decide_eq_true_eq, decide_eq_false_iff_not, beq_iff_eq, bne_iff_ne, beq_eq_false_iff_ne, bne_eq_false_iff_eq, ne_eq, Bool.not_eq_true', Bool.not_eq_false', Bool.not_true, Bool.not_false, Decidable.not_not] at hg); try (exfalso; first | omega | exact hg True.intro))))
      · obtain ⟨ad, hA, hcell⟩ := C_boolv hr3 k (by omega)
        (repeat ((with_reducible refine is_AL ?_); (first | ((with_reducible refine is_guarded ?_); (refine At_guard_t rfl (by decide) rfl ?_)) | ((with_reducible refine is_move ?_); (refine At_plain hF (by (first | exact (rfl : _ = some (Value.int _ _)) | exact (rfl : _ = some (Value.slice _ _ _)))) ?_)) | ((with_reducible refine is_index ?_); (refine At_indexC1 hF rfl (by assumption) rfl rfl (by omega) ?_)))))
        refine At_loadC hF (by exact rfl) (by exact hcell) ?_
        clear hA hcell
        cases hb : tn.getD k false with
        | false =>
          (repeat (first | ((with_reducible refine is_AL ?_); (first | ((with_reducible refine is_move ?_); (refine At_plain hF (by (exact (rfl : _ = some (Value.int _ _)))) ?_)) | ((with_reducible refine is_bin ?_); ((with_reducible refine is_badd ?_); (refine At_add hF rfl rfl (by omega) ?_))) | ((with_reducible refine is_pick ?_); (refine At_plain hF (by (exact (rfl : _ = some (Value.bool _)))) ?_)) | with_reducible refine At_nil ?_)) | ((with_reducible refine is_At ?_); (first | with_reducible refine At_region ?_ | with_reducible refine At_skip ?_ | with_reducible refine At_then_n ?_ | with_reducible refine At_inb_n ?_ | with_reducible refine At_go (by assumption) ?_ | ((with_reducible refine is_cond ?_); (refine At_cond_f rfl ?_))))))
          refine At.sub ?_ (hL (k + 1, xs) _ ⟨hlt, hxl, hxp⟩ (by simp only; omega) ?_)
          · (repeat (first | exact List.Sublist.refl _ | exact List.Sublist.slnil | refine List.Sublist.cons_cons _ ?_ | refine List.Sublist.cons _ ?_))
          · (repeat (first | exact True.intro | (refine And.intro ?_ ?_; focus (show _ = (_ : Value); first | exact rfl | (refine Eq.trans (b := Value.int IntKind.i64 _) rfl (congrArg (Value.int IntKind.i64) ?_); omega)))))
        | true =>
          (repeat (first | ((with_reducible refine is_AL ?_); (first | ((with_reducible refine is_pick ?_); (refine At_plain hF (by (exact (rfl : _ = some (Value.bool _)))) ?_)) | with_reducible refine At_nil ?_)) | ((with_reducible refine is_At ?_); (first | with_reducible refine At_then_n ?_ | with_reducible refine At_go (by assumption) ?_ | ((with_reducible refine is_cond ?_); (refine At_cond_t rfl ?_))))))
          refine At_open 0 rfl (by omega) ?_
          rintro bx junk rfl hj1 hj2 hj3
          simp only [List.set_cons_zero]
          have hkx : k < xs.length := by omega
          have hts := turn_set xs k hkx
          have hg1 : (xs.set k ⟨(xs.getD k z45).f0, (xs.getD k z45).f2, (xs.getD k z45).f2⟩).getD k z45 = ⟨(xs.getD k z45).f0, (xs.getD k z45).f2, (xs.getD k z45).f2⟩ := by rw [List.getD_eq_getElem?_getD, List.getElem?_set_self hkx]; rfl
          refine At_drawE hF 20 [0, 1, 2, 3, 4, 5, 6, 7, 8, 9, 10, 11, 12, 13, 14, 15, 17, 18] [0, 1, 4, 5, 6, 7, 8, 9, 10, 11, 12, 13, 14, 15] [16, 19] ([.row 3 1 (sc (Value.int .i64)) (some bt) ct tos]) (by kernel_rfl) (by decide +kernel) (by decide +kernel) ?_; simp only [List.drop_succ_cons, List.drop_zero]; (repeat ((with_reducible refine is_AQF ?_); first | refine AQF_early (by decide) (by exact (rfl : _ = some (Oper.mk _ _ _ _ _ _))) (by intro K Q hK; (repeat (first | ((with_reducible refine is_move ?_); (refine At_plain hF (by (first | exact (rfl : _ = some (Value.int _ _)) | exact (rfl : _ = some (Value.slice _ _ _)))) ?_)) | ((with_reducible refine is_field ?_); (refine At_field hF rfl ?_)) | ((with_reducible refine is_index ?_); (refine At_indexS hF rfl rfl (by omega) ?_)))); exact At_nilK hK) ?_ | refine AQF_late (by decide) (by exact (rfl : _ = some (Oper.mk _ _ _ _ _ _))) (by intro E K Q hK; simp only [List.cons_append, List.nil_append] at hK ⊢; (repeat (first | ((with_reducible refine is_move ?_); (refine At_plain hF (by (first | exact (rfl : _ = some (Value.int _ _)) | exact (rfl : _ = some (Value.slice _ _ _)))) ?_)) | ((with_reducible refine is_field ?_); (refine At_field hF rfl ?_)) | ((with_reducible refine is_index ?_); (refine At_indexS hF rfl rfl (by omega) ?_)))); exact At_nilK hK) ?_))
          refine AQF_early (by decide) (by exact (rfl : _ = some (Oper.mk _ _ _ _ _ _))) (by intro K Q hK; refine At_load hF 0 (by exact rfl) rfl (by exact buf_get (sz := 3) enc45_len z45 (j := 2) hkx rfl) ?_; exact At_nilK hK) ?_
          (repeat ((with_reducible refine is_AQF ?_); first | refine AQF_early (by decide) (by exact (rfl : _ = some (Oper.mk _ _ _ _ _ _))) (by intro K Q hK; (repeat (first | ((with_reducible refine is_move ?_); (refine At_plain hF (by (first | exact (rfl : _ = some (Value.int _ _)) | exact (rfl : _ = some (Value.slice _ _ _)))) ?_)) | ((with_reducible refine is_field ?_); (refine At_field hF rfl ?_)) | ((with_reducible refine is_index ?_); (refine At_indexS hF rfl rfl (by omega) ?_)))); exact At_nilK hK) ?_ | refine AQF_late (by decide) (by exact (rfl : _ = some (Oper.mk _ _ _ _ _ _))) (by intro E K Q hK; simp only [List.cons_append, List.nil_append] at hK ⊢; (repeat (first | ((with_reducible refine is_move ?_); (refine At_plain hF (by (first | exact (rfl : _ = some (Value.int _ _)) | exact (rfl : _ = some (Value.slice _ _ _)))) ?_)) | ((with_reducible refine is_field ?_); (refine At_field hF rfl ?_)) | ((with_reducible refine is_index ?_); (refine At_indexS hF rfl rfl (by omega) ?_)))); exact At_nilK hK) ?_))
          refine AQF_early (by decide) (by exact (rfl : _ = some (Oper.mk _ _ _ _ _ _))) (by intro K Q hK; refine At_load hF 0 (by exact rfl) rfl (by exact buf_get (sz := 3) enc45_len z45 (j := 1) hkx rfl) ?_; exact At_nilK hK) ?_
          (repeat ((with_reducible refine is_AQF ?_); first | refine AQF_early (by decide) (by exact (rfl : _ = some (Oper.mk _ _ _ _ _ _))) (by intro K Q hK; (repeat (first | ((with_reducible refine is_field ?_); (refine At_field hF rfl ?_)) | ((with_reducible refine is_index ?_); (refine At_indexS hF rfl rfl (by omega) ?_)))); exact At_nilK hK) ?_ | refine AQF_late (by decide) (by exact (rfl : _ = some (Oper.mk _ _ _ _ _ _))) (by intro E K Q hK; simp only [List.cons_append, List.nil_append] at hK ⊢; (repeat (first | ((with_reducible refine is_field ?_); (refine At_field hF rfl ?_)) | ((with_reducible refine is_index ?_); (refine At_indexS hF rfl rfl (by omega) ?_)))); exact At_nilK hK) ?_))
          refine AQF_done ?_
          (refine WAt_cons ?_ (by exact (rfl : _ = some (Oper.mk _ _ _ _ _ _))) ?_; (focus (repeat (first | exact List.Sublist.refl _ | exact List.Sublist.slnil | refine List.Sublist.cons_cons _ ?_ | refine List.Sublist.cons _ ?_))); intro K Q hK)
          refine At_store hF 0 (by exact rfl) (by exact rfl) rfl (by show k * 3 + 1 < _; rw [buf_size enc45_len]; omega) rfl rfl (by exact buf_set (sz := 3) enc45_len z45 (j := 1) (by decide) (x' := ⟨(xs.getD k z45).f0, (xs.getD k z45).f2, (xs.getD k z45).f2⟩) hkx rfl) ?_
          simp only [List.set_cons_zero]
          refine At_nilK (hK _ _ ?_)
          (refine WAt_cons ?_ (by exact (rfl : _ = some (Oper.mk _ _ _ _ _ _))) ?_; (focus (repeat (first | exact List.Sublist.refl _ | exact List.Sublist.slnil | refine List.Sublist.cons_cons _ ?_ | refine List.Sublist.cons _ ?_))); intro K Q hK)
          refine At_store hF 0 (by exact rfl) (by exact rfl) rfl (by show k * 3 + 2 < _; rw [buf_size enc45_len, List.length_set]; omega) rfl rfl (by exact buf_set (sz := 3) enc45_len z45 (j := 2) (by decide) (x' := ⟨(xs.getD k z45).f0, (xs.getD k z45).f2, (xs.getD k z45).f1⟩) (by rw [List.length_set]; exact hkx) (by rw [hg1]; rfl)) ?_
          simp only [List.set_cons_zero]
          refine At_nilK (hK _ _ ?_)
          (refine WAt_nil ?_ ?_; (focus (repeat (first | exact List.Sublist.refl _ | exact List.Sublist.slnil | refine List.Sublist.cons_cons _ ?_ | refine List.Sublist.cons _ ?_))))
          (repeat (first | ((with_reducible refine is_AL ?_); (first | ((with_reducible refine is_move ?_); (refine At_plain hF (by (exact (rfl : _ = some (Value.int _ _)))) ?_)) | ((with_reducible refine is_bin ?_); ((with_reducible refine is_badd ?_); (refine At_add hF rfl rfl (by omega) ?_))) | with_reducible refine At_nil ?_)) | ((with_reducible refine is_At ?_); (first | with_reducible refine At_region ?_ | with_reducible refine At_then_n ?_ | with_reducible refine At_inb_n ?_ | with_reducible refine At_go (by assumption) ?_))))
          refine At_close 0 rfl enc45_len (by rw [List.length_set, List.length_set]; exact hj1) (by rw [List.length_set, List.length_set]; exact hj2) hj3 ?_
          refine At.sub ?_ (hL (k + 1, _) _ ⟨hlt, by rw [List.length_set, List.length_set]; exact hxl, hts.trans hxp⟩ (by simp only; omega) ?_)
          · (repeat (first | exact List.Sublist.refl _ | exact List.Sublist.slnil | refine List.Sublist.cons_cons _ ?_ | refine List.Sublist.cons _ ?_))
          · (repeat (first | exact True.intro | (refine And.intro ?_ ?_; focus (show _ = (_ : Value); first | exact rfl | (refine Eq.trans (b := Value.int IntKind.i64 _) rfl (congrArg (Value.int IntKind.i64) ?_); omega)))))
      · (repeat (first | ((with_reducible refine is_AL ?_); (first | ((with_reducible refine is_guarded ?_); (refine At_guard_f hF rfl (by decide) rfl rfl ?_)) | ((with_reducible refine is_move ?_); (refine At_plain hF (by (exact (rfl : _ = some (Value.int _ _)))) ?_)) | ((with_reducible refine is_bin ?_); ((with_reducible refine is_badd ?_); (refine At_add hF rfl rfl (by omega) ?_))) | ((with_reducible refine is_pick ?_); (refine At_plain hF (by (exact (rfl : _ = some (Value.bool _)))) ?_)) | with_reducible refine At_nil ?_)) | ((with_reducible refine is_At ?_); (first | with_reducible refine At_region ?_ | with_reducible refine At_skip ?_ | with_reducible refine At_then_n ?_ | with_reducible refine At_inb_n ?_ | with_reducible refine At_go (by assumption) ?_ | ((with_reducible refine is_cond ?_); (refine At_cond_f rfl ?_))))))
        refine At.sub ?_ (hL (k + 1, xs) _ ⟨hlt, hxl, hxp⟩ (by simp only; omega) ?_)
        · (repeat (first | exact List.Sublist.refl _ | exact List.Sublist.slnil | refine List.Sublist.cons_cons _ ?_ | refine List.Sublist.cons _ ?_))
        · (repeat (first | exact True.intro | (refine And.intro ?_ ?_; focus (show _ = (_ : Value); first | exact rfl | (refine Eq.trans (b := Value.int IntKind.i64 _) rfl (congrArg (Value.int IntKind.i64) ?_); omega)))))
    · obtain rfl : k = m.length := by omega
      (repeat (first | ((with_reducible refine is_AL ?_); (first | ((with_reducible refine is_move ?_); (refine At_plain hF (by (exact (rfl : _ = some (Value.slice _ _ _)))) ?_)) | ((with_reducible refine is_bin ?_); ((with_reducible refine is_bsub ?_); (refine At_sub hF rfl rfl (by omega) ?_))) | ((with_reducible refine is_assign ?_); (refine At_plain hF (by (exact (rfl : _ = some (Value.int _ _)))) ?_)) | ((with_reducible refine is_call ?_); (refine At_len hF rfl ?_)) | with_reducible refine At_nil ?_)) | ((with_reducible refine is_At ?_); (first | with_reducible refine At_seq ?_; intro K hK | with_reducible refine At_block ?_ | with_reducible refine At_region ?_ | with_reducible refine At_exit ?_ | with_reducible refine At_then_n ?_ | with_reducible refine At_then_e ?_ | with_reducible refine At_inb_e rfl ?_ | with_reducible refine At_go (by assumption) ?_))))
      refine At_loop (fun st : Nat × Int × List S45 => [(0, .int .i64 N), (1, .slice A m.length c), (9, .slice (some ⟨bt, 0, none⟩) N ct), (10, rowV Ax m.length cx), (12, .int .i64 st.1), (13, .int .i64 st.2.1)])
        (fun st => [.row 45 3 enc45 Ax cx st.2.2, .row 3 1 (sc (Value.int .i64)) (some bt) ct tos]) (fun st => st.1 ≤ m.length ∧ st.2.1 = (m.length : Int) - 1 - st.1 ∧ st.2.2.length = m.length ∧ (ents st.2.2).Perm (ents (m.map (renS tos)))) (fun st => m.length - st.1) (0, (m.length : Int) - 1, xs) ?_ ?_ ⟨Nat.zero_le _, by simp, hxl, hxp⟩ ?_
      · (repeat (first | exact List.Sublist.refl _ | exact List.Sublist.slnil | refine List.Sublist.cons_cons _ ?_ | refine List.Sublist.cons _ ?_))
      · (repeat (first | exact True.intro | (refine And.intro ?_ ?_; focus (show _ = (_ : Value); first | exact rfl | (refine Eq.trans (b := Value.int IntKind.i64 _) rfl (congrArg (Value.int IntKind.i64) ?_); omega)))))
      clear hxl hxp
      rintro ⟨i, j, xs⟩ ⟨hi, hj, hxl, hxp⟩ K hL ρ1
      simp only at hi hj hxl hxp
      try dsimp only
      (repeat (first | ((with_reducible refine is_AL ?_); (first | ((with_reducible refine is_move ?_); (refine At_plain hF (by (exact (rfl : _ = some (Value.int _ _)))) ?_)) | ((with_reducible refine is_bin ?_); (refine At_plain hF (by (exact (rfl : _ = some (Value.bool _)))) ?_)) | with_reducible refine At_nil ?_)) | ((with_reducible refine is_At ?_); (first | with_reducible refine At_seq ?_; intro K hK | with_reducible refine At_region ?_ | with_reducible refine At_then_n ?_ | with_reducible refine At_go (by assumption) ?_))))
      ((with_reducible refine is_cond ?_); (refine At_cond rfl ?_ ?_ <;> (intro hg; try (simp only [decide_eq_true_eq, decide_eq_false_iff_not, beq_iff_eq, bne_iff_ne, beq_eq_false_iff_ne, bne_eq_false_iff_eq, ne_eq, Bool.not_eq_true', Bool.not_eq_false', Bool.not_true, Bool.not_false, Decidable.not_not] at hg); try (exfalso; first | omega | exact hg True.intro))))
      · obtain ⟨jn, rfl⟩ : ∃ jn : Nat, j = jn := ⟨j.toNat, by omega⟩
        have hix : i < xs.length := by omega
        have hjx : jn < xs.length := by omega
        refine At_open 0 rfl (by omega) ?_
        rintro bx junk rfl hj1 hj2 hj3
        simp only [List.set_cons_zero]
        have hsw := ents_perm (swap_set hix hjx (by omega) z45)
        (repeat ((with_reducible refine is_At ?_); (first | with_reducible refine At_seq ?_; intro K hK | with_reducible refine At_block ?_ | with_reducible refine At_skip ?_ | with_reducible refine At_then_n ?_ | with_reducible refine At_go (by assumption) ?_)))
        refine At_drawE hF 16 [0, 1, 2, 3, 4, 5, 6, 7, 8, 9, 10, 11, 12, 14] [0, 1, 4, 5, 6, 7, 8, 9, 10, 11, 12] [13, 15] ([.row 3 1 (sc (Value.int .i64)) (some bt) ct tos]) (by kernel_rfl) (by decide +kernel) (by decide +kernel) ?_; simp only [List.drop_succ_cons, List.drop_zero]; (repeat ((with_reducible refine is_AQF ?_); first | refine AQF_early (by decide) (by exact (rfl : _ = some (Oper.mk _ _ _ _ _ _))) (by intro K Q hK; (repeat (first | ((with_reducible refine is_move ?_); (refine At_plain hF (by (first | exact (rfl : _ = some (Value.int _ _)) | exact (rfl : _ = some (Value.slice _ _ _)))) ?_)) | ((with_reducible refine is_index ?_); (refine At_indexS hF rfl rfl (by omega) ?_)))); exact At_nilK hK) ?_ | refine AQF_late (by decide) (by exact (rfl : _ = some (Oper.mk _ _ _ _ _ _))) (by intro E K Q hK; simp only [List.cons_append, List.nil_append] at hK ⊢; (repeat (first | ((with_reducible refine is_move ?_); (refine At_plain hF (by (first | exact (rfl : _ = some (Value.int _ _)) | exact (rfl : _ = some (Value.slice _ _ _)))) ?_)) | ((with_reducible refine is_index ?_); (refine At_indexS hF rfl rfl (by omega) ?_)))); exact At_nilK hK) ?_))
        refine AQF_early (by decide) (by exact (rfl : _ = some (Oper.mk _ _ _ _ _ _))) (by intro K Q hK; refine At_loadS hF 0 (enc45 (xs.getD jn z45)) (by exact rfl) rfl (by exact rfl) (fun q u hq => buf_get (sz := 3) enc45_len z45 hjx hq) ?_; exact At_nilK hK) ?_
        (repeat ((with_reducible refine is_AQF ?_); first | refine AQF_early (by decide) (by exact (rfl : _ = some (Oper.mk _ _ _ _ _ _))) (by intro K Q hK; (repeat (first | ((with_reducible refine is_move ?_); (refine At_plain hF (by (first | exact (rfl : _ = some (Value.int _ _)) | exact (rfl : _ = some (Value.slice _ _ _)))) ?_)) | ((with_reducible refine is_index ?_); (refine At_indexS hF rfl rfl (by omega) ?_)))); exact At_nilK hK) ?_ | refine AQF_late (by decide) (by exact (rfl : _ = some (Oper.mk _ _ _ _ _ _))) (by intro E K Q hK; simp only [List.cons_append, List.nil_append] at hK ⊢; (repeat (first | ((with_reducible refine is_move ?_); (refine At_plain hF (by (first | exact (rfl : _ = some (Value.int _ _)) | exact (rfl : _ = some (Value.slice _ _ _)))) ?_)) | ((with_reducible refine is_index ?_); (refine At_indexS hF rfl rfl (by omega) ?_)))); exact At_nilK hK) ?_))
        refine AQF_early (by decide) (by exact (rfl : _ = some (Oper.mk _ _ _ _ _ _))) (by intro K Q hK; refine At_loadS hF 0 (enc45 (xs.getD i z45)) (by exact rfl) rfl (by exact rfl) (fun q u hq => buf_get (sz := 3) enc45_len z45 hix hq) ?_; exact At_nilK hK) ?_
        (repeat ((with_reducible refine is_AQF ?_); first | refine AQF_early (by decide) (by exact (rfl : _ = some (Oper.mk _ _ _ _ _ _))) (by intro K Q hK; (repeat ((with_reducible refine is_index ?_); (refine At_indexS hF rfl rfl (by omega) ?_))); exact At_nilK hK) ?_ | refine AQF_late (by decide) (by exact (rfl : _ = some (Oper.mk _ _ _ _ _ _))) (by intro E K Q hK; simp only [List.cons_append, List.nil_append] at hK ⊢; (repeat ((with_reducible refine is_index ?_); (refine At_indexS hF rfl rfl (by omega) ?_))); exact At_nilK hK) ?_))
        refine AQF_done ?_
        (refine WAt_cons ?_ (by exact (rfl : _ = some (Oper.mk _ _ _ _ _ _))) ?_; (focus (repeat (first | exact List.Sublist.refl _ | exact List.Sublist.slnil | refine List.Sublist.cons_cons _ ?_ | refine List.Sublist.cons _ ?_))); intro K Q hK)
        refine At_storeS hF 0 (by exact rfl) (by exact rfl) rfl (by exact rfl) (by show i * 3 + 3 ≤ _; rw [buf_size enc45_len]; omega) (by simp [enc45, Value.one1]) (by exact over_buf (sz := 3) enc45_len hix (xs.getD jn z45)) ?_
        simp only [List.set_cons_zero]
        refine At_nilK (hK _ _ ?_)
        (refine WAt_cons ?_ (by exact (rfl : _ = some (Oper.mk _ _ _ _ _ _))) ?_; (focus (repeat (first | exact List.Sublist.refl _ | exact List.Sublist.slnil | refine List.Sublist.cons_cons _ ?_ | refine List.Sublist.cons _ ?_))); intro K Q hK)
        refine At_storeS hF 0 (by exact rfl) (by exact rfl) rfl (by exact rfl) (by show jn * 3 + 3 ≤ _; rw [buf_size enc45_len, List.length_set]; omega) (by simp [enc45, Value.one1]) (by exact over_buf (sz := 3) enc45_len (by rw [List.length_set]; exact hjx) (xs.getD i z45)) ?_
        simp only [List.set_cons_zero]
        refine At_nilK (hK _ _ ?_)
        (refine WAt_nil ?_ ?_; (focus (repeat (first | exact List.Sublist.refl _ | exact List.Sublist.slnil | refine List.Sublist.cons_cons _ ?_ | refine List.Sublist.cons _ ?_))))
        (repeat (first | ((with_reducible refine is_AL ?_); (first | ((with_reducible refine is_move ?_); (refine At_plain hF (by (exact (rfl : _ = some (Value.int _ _)))) ?_)) | ((with_reducible refine is_bin ?_); (first | ((with_reducible refine is_badd ?_); (refine At_add hF rfl rfl (by omega) ?_)) | ((with_reducible refine is_bsub ?_); (refine At_sub hF rfl rfl (by omega) ?_)))) | ((with_reducible refine is_assign ?_); (refine At_plain hF (by (exact (rfl : _ = some (Value.int _ _)))) ?_)) | with_reducible refine At_nil ?_)) | ((with_reducible refine is_At ?_); (first | with_reducible refine At_region ?_ | with_reducible refine At_then_n ?_ | with_reducible refine At_inb_n ?_ | with_reducible refine At_go (by assumption) ?_))))
        refine At_close 0 rfl enc45_len (by rw [List.length_set, List.length_set]; exact hj1) (by rw [List.length_set, List.length_set]; exact hj2) hj3 ?_
        refine At.sub ?_ (hL (i + 1, (jn : Int) - 1, _) _ ⟨by omega, by simp only; omega, by rw [List.length_set, List.length_set]; exact hxl, hsw.trans hxp⟩ (by simp only; omega) ?_)
        · (repeat (first | exact List.Sublist.refl _ | exact List.Sublist.slnil | refine List.Sublist.cons_cons _ ?_ | refine List.Sublist.cons _ ?_))
        · (repeat (first | exact True.intro | (refine And.intro ?_ ?_; focus (show _ = (_ : Value); first | exact rfl | (refine Eq.trans (b := Value.int IntKind.i64 _) rfl (congrArg (Value.int IntKind.i64) ?_); omega)))))
      · clear hi hj
        obtain ⟨hffx, hpp⟩ := ren_foes ho hff hxp
        have hokx := fun es r hf => foes_ok N xs (by omega) es r hf
        (repeat (first | ((with_reducible refine is_AL ?_); ((with_reducible refine is_move ?_); (refine At_plain hF (by (first | exact (rfl : _ = some (Value.int _ _)) | exact (rfl : _ = some (Value.slice _ _ _)))) ?_))) | ((with_reducible refine is_At ?_); (first | with_reducible refine At_seq ?_; intro K hK | with_reducible refine At_region ?_ | with_reducible refine At_exit ?_ | with_reducible refine At_then_n ?_ | with_reducible refine At_then_e ?_ | with_reducible refine At_inb_e rfl ?_ | with_reducible refine At_go (by assumption) ?_))))
        refine At_callM hF E11 rfl (arg2 (by (first | exact (rfl : _ = (Value.int _ _)) | exact (rfl : _ = (Value.bool _)) | exact (rfl : _ = (Value.pointer _)) | exact (rfl : _ = (Value.slice _ _ _)) | exact (rfl : _ = (Value.map _)) | exact (rfl : _ = (Value.func _ _ _)) | exact (rfl : _ = (Value.tuple _)) | exact (rfl : _ = (Value.agg _)) | exact (rfl : _ = (Value.string _)) | exact (rfl : _ = (Value.nilFunc)) | exact (rfl : _ = (Value.nilIface)))) (by (first | exact (rfl : _ = (Value.int _ _)) | exact (rfl : _ = (Value.bool _)) | exact (rfl : _ = (Value.pointer _)) | exact (rfl : _ = (Value.slice _ _ _)) | exact (rfl : _ = (Value.map _)) | exact (rfl : _ = (Value.func _ _ _)) | exact (rfl : _ = (Value.tuple _)) | exact (rfl : _ = (Value.agg _)) | exact (rfl : _ = (Value.string _)) | exact (rfl : _ = (Value.nilFunc)) | exact (rfl : _ = (Value.nilIface))))) (fun w' hw' => matrix_rets N A c m w' (Kd.C_below hr hw'.below) hc hok) ?_
        intro u Rs hp
        unfold matPost at hp
        rw [hff] at hp
        obtain ⟨bc, bs, M, ys, hall, hM, hbs, rfl, rfl⟩ := hp
        obtain ⟨_, _, hes⟩ := hok es r hff
        simp only [Int.toNat_natCast] at hM hbs
        have hM' : M = cntM N (es.filterMap (nxt es r)) := hM.trans (mat_eq hes hall)
        rw [Int.toNat_natCast, buf_map]
        simp only [List.cons_append, List.nil_append]
        (repeat (first | ((with_reducible refine is_AL ?_); (first | ((with_reducible refine is_move ?_); (refine At_plain hF (by (first | exact (rfl : _ = some (Value.int _ _)) | exact (rfl : _ = some (Value.slice _ _ _)) | exact (rfl : _ = some (Value.tuple _)))) ?_)) | ((with_reducible refine is_assign ?_); (refine At_plain hF (by (first | exact (rfl : _ = some (Value.int _ _)) | exact (rfl : _ = some (Value.slice _ _ _)))) ?_)) | ((with_reducible refine is_extract ?_); (refine At_plain hF (by (first | exact (rfl : _ = some (Value.int _ _)) | exact (rfl : _ = some (Value.slice _ _ _)))) ?_)) | with_reducible refine At_nil ?_)) | ((with_reducible refine is_At ?_); (first | with_reducible refine At_seq ?_; intro K hK | with_reducible refine At_region ?_ | with_reducible refine At_then_n ?_ | with_reducible refine At_go (by assumption) ?_))))
        refine At_callM (Post := fun u Rs => matPost N xs u Rs) hF E11 rfl (arg2 (by (first | exact (rfl : _ = (Value.int _ _)) | exact (rfl : _ = (Value.bool _)) | exact (rfl : _ = (Value.pointer _)) | exact (rfl : _ = (Value.slice _ _ _)) | exact (rfl : _ = (Value.map _)) | exact (rfl : _ = (Value.func _ _ _)) | exact (rfl : _ = (Value.tuple _)) | exact (rfl : _ = (Value.agg _)) | exact (rfl : _ = (Value.string _)) | exact (rfl : _ = (Value.nilFunc)) | exact (rfl : _ = (Value.nilIface)))) (by (first | exact (rfl : _ = (Value.int _ _)) | exact (rfl : _ = (Value.bool _)) | exact (rfl : _ = (Value.pointer _)) | exact (rfl : _ = (Value.slice _ _ _)) | exact (rfl : _ = (Value.map _)) | exact (rfl : _ = (Value.func _ _ _)) | exact (rfl : _ = (Value.tuple _)) | exact (rfl : _ = (Value.agg _)) | exact (rfl : _ = (Value.string _)) | exact (rfl : _ = (Value.nilFunc)) | exact (rfl : _ = (Value.nilIface))))) (fun w' hw' => by
          have h1 := C45_of_row (A := Ax) (c := cx) (xs := xs) hw' (List.mem_cons_of_mem _ (List.mem_cons_of_mem _ (List.mem_cons_self ..)))
          have h2 := row_len (A := Ax) (c := cx) (xs := xs) (e := 45) (sz := 3) (enc := enc45) hw' (List.mem_cons_of_mem _ (List.mem_cons_of_mem _ (List.mem_cons_self ..)))
          have h3 := matrix_rets N (Ax.map fun b => ⟨b, 0, none⟩) cx xs w' h1 h2 hokx
          rw [hxl] at h3
          exact h3) ?_
        intro u Rs hp
        unfold matPost at hp
        rw [hffx] at hp
        obtain ⟨bc2, bs2, M2, ys2, hall2, hM2, hbs2, rfl, rfl⟩ := hp
        obtain ⟨_, _, hes2⟩ := hokx _ _ hffx
        simp only [Int.toNat_natCast] at hM2 hbs2
        have hM2' : M2 = cntM N ((ents xs).filterMap (nxt (ents xs) r)) := hM2.trans (mat_eq hes2 hall2)
        rw [Int.toNat_natCast, buf_map]
        simp only [List.cons_append, List.nil_append]
        (repeat (first | ((with_reducible refine is_AL ?_); (first | ((with_reducible refine is_move ?_); (refine At_plain hF (by (first | exact (rfl : _ = some (Value.int _ _)) | exact (rfl : _ = some (Value.slice _ _ _)) | exact (rfl : _ = some (Value.tuple _)))) ?_)) | ((with_reducible refine is_assign ?_); (refine At_plain hF (by (first | exact (rfl : _ = some (Value.int _ _)) | exact (rfl : _ = some (Value.slice _ _ _)))) ?_)) | ((with_reducible refine is_extract ?_); (refine At_plain hF (by (first | exact (rfl : _ = some (Value.int _ _)) | exact (rfl : _ = some (Value.slice _ _ _)))) ?_)) | with_reducible refine At_nil ?_)) | ((with_reducible refine is_At ?_); (first | with_reducible refine At_seq ?_; intro K hK | with_reducible refine At_region ?_ | with_reducible refine At_then_n ?_ | with_reducible refine At_go (by assumption) ?_))))
        refine At_callB hF E13r rfl (arg2 (by (first | exact (rfl : _ = (Value.int _ _)) | exact (rfl : _ = (Value.bool _)) | exact (rfl : _ = (Value.pointer _)) | exact (rfl : _ = (Value.slice _ _ _)) | exact (rfl : _ = (Value.map _)) | exact (rfl : _ = (Value.func _ _ _)) | exact (rfl : _ = (Value.tuple _)) | exact (rfl : _ = (Value.agg _)) | exact (rfl : _ = (Value.string _)) | exact (rfl : _ = (Value.nilFunc)) | exact (rfl : _ = (Value.nilIface)))) (by (first | exact (rfl : _ = (Value.int _ _)) | exact (rfl : _ = (Value.bool _)) | exact (rfl : _ = (Value.pointer _)) | exact (rfl : _ = (Value.slice _ _ _)) | exact (rfl : _ = (Value.map _)) | exact (rfl : _ = (Value.func _ _ _)) | exact (rfl : _ = (Value.tuple _)) | exact (rfl : _ = (Value.agg _)) | exact (rfl : _ = (Value.string _)) | exact (rfl : _ = (Value.nilFunc)) | exact (rfl : _ = (Value.nilIface))))) (fun w' hw' => value_rets N A c m w' (Kd.C_below hr hw'.below) hc hm1) ?_
        rw [hff]
        dsimp only
        rw [Int.toNat_natCast]
        (repeat (first | ((with_reducible refine is_AL ?_); (first | ((with_reducible refine is_move ?_); (refine At_plain hF (by (first | exact (rfl : _ = some (Value.int _ _)) | exact (rfl : _ = some (Value.slice _ _ _)) | exact (rfl : _ = some (Value.tuple _)))) ?_)) | ((with_reducible refine is_assign ?_); (refine At_plain hF (by (exact (rfl : _ = some (Value.int _ _)))) ?_)) | ((with_reducible refine is_extract ?_); (refine At_plain hF (by (exact (rfl : _ = some (Value.int _ _)))) ?_)) | with_reducible refine At_nil ?_)) | ((with_reducible refine is_At ?_); (first | with_reducible refine At_seq ?_; intro K hK | with_reducible refine At_region ?_ | with_reducible refine At_then_n ?_ | with_reducible refine At_go (by assumption) ?_))))
        refine At_callB hF E13r rfl (arg2 (by (first | exact (rfl : _ = (Value.int _ _)) | exact (rfl : _ = (Value.bool _)) | exact (rfl : _ = (Value.pointer _)) | exact (rfl : _ = (Value.slice _ _ _)) | exact (rfl : _ = (Value.map _)) | exact (rfl : _ = (Value.func _ _ _)) | exact (rfl : _ = (Value.tuple _)) | exact (rfl : _ = (Value.agg _)) | exact (rfl : _ = (Value.string _)) | exact (rfl : _ = (Value.nilFunc)) | exact (rfl : _ = (Value.nilIface)))) (by (first | exact (rfl : _ = (Value.int _ _)) | exact (rfl : _ = (Value.bool _)) | exact (rfl : _ = (Value.pointer _)) | exact (rfl : _ = (Value.slice _ _ _)) | exact (rfl : _ = (Value.map _)) | exact (rfl : _ = (Value.func _ _ _)) | exact (rfl : _ = (Value.tuple _)) | exact (rfl : _ = (Value.agg _)) | exact (rfl : _ = (Value.string _)) | exact (rfl : _ = (Value.nilFunc)) | exact (rfl : _ = (Value.nilIface))))) (fun w' hw' => by
          have h1 := C45_of_row (A := Ax) (c := cx) (xs := xs) hw' (List.mem_cons_of_mem _ (List.mem_cons_of_mem _ (List.mem_cons_of_mem _ (List.mem_cons_of_mem _ (List.mem_cons_self ..)))))
          have h2 := row_len (A := Ax) (c := cx) (xs := xs) (e := 45) (sz := 3) (enc := enc45) hw' (List.mem_cons_of_mem _ (List.mem_cons_of_mem _ (List.mem_cons_of_mem _ (List.mem_cons_of_mem _ (List.mem_cons_self ..)))))
          have h3 := value_rets N (Ax.map fun b => ⟨b, 0, none⟩) cx xs w' h1 h2 (by omega)
          rw [hxl] at h3
          exact h3) ?_
        rw [hffx]
        dsimp only
        rw [Int.toNat_natCast]
        have hxs : ∀ x ∈ es.filterMap (nxt es r), (0 ≤ x.1 ∧ x.1 < (N : Int)) ∧ 0 ≤ x.2 ∧ x.2 < (N : Int) := fun x hx => by
          obtain ⟨e, he, hx⟩ := List.mem_filterMap.1 hx
          exact nxt_rng hes he hx
        have hval : sqsM (cntM N ((ents xs).filterMap (nxt (ents xs) r))) = sqsM (cntM N (es.filterMap (nxt es r))) := ren_val ho hxs hpp
        have hcell : ∀ i j : Nat, i < N → j < N → (M.getD i []).getD j default = (M2.getD (tos.getD i default).toNat []).getD (tos.getD j default).toNat default := fun i j hi hj => by
          have r1 := nm_rng ho (t := (i : Int)) (by omega)
          have r2 := nm_rng ho (t := (j : Int)) (by omega)
          have e1 : nm tos (i : Int) = tos.getD i default := by unfold nm; rw [Int.toNat_natCast]; rfl
          have e2 : nm tos (j : Int) = tos.getD j default := by unfold nm; rw [Int.toNat_natCast]; rfl
          have hc := count_ren ho (i : Int) (j : Int) (by omega) (by omega) _ hxs
          rw [← hpp.count_eq, e1, e2] at hc
          rw [e1] at r1; rw [e2] at r2
          rw [hM', hM2', cntM_get _ _ i hi, cntM_get _ _ _ (by omega), List.getD_eq_getElem?_getD, List.getElem?_map, List.getElem?_range hj, List.getD_eq_getElem?_getD, List.getElem?_map, List.getElem?_range (by omega)]
          simp only [Option.map_some, Option.getD_some]
          rw [Int.toNat_of_nonneg r1.1, Int.toNat_of_nonneg r2.1, hc]
        have htr : ∀ i : Nat, i < N → 0 ≤ tos.getD i default ∧ tos.getD i default < N := fun i hi => by
          have := nm_rng ho (t := (i : Int)) (by omega)
          unfold nm at this; rw [Int.toNat_natCast] at this; exact this
        have hMl : M.length = N := by rw [hM', cntM_len]
        have hM2l : M2.length = N := by rw [hM2', cntM_len]
        have hMr : ∀ i : Nat, i < N → (M.getD i []).length = N := fun i hi => by rw [hM']; exact cntM_row _ _ _ (getD_mem' (by rw [cntM_len]; exact hi))
        have hM2r : ∀ i : Nat, i < N → (M2.getD i []).length = N := fun i hi => by rw [hM2']; exact cntM_row _ _ _ (getD_mem' (by rw [cntM_len]; exact hi))
        rw [hval]
        generalize sqsM (cntM N (es.filterMap (nxt es r))) = vv
        clear hval hM hM' hM2 hM2' hall hall2 hpp hok hokx
        (repeat' (first | ((with_reducible refine is_AL ?_); (first | ((with_reducible refine is_guarded ?_); (refine At_guard_t rfl (by decide) rfl ?_)) | ((with_reducible refine is_move ?_); (refine At_plain hF (by (first | exact (rfl : _ = some (Value.int _ _)) | exact (rfl : _ = some (Value.bool _)) | exact (rfl : _ = some (Value.slice _ _ _)) | exact (rfl : _ = some (Value.tuple _)))) ?_)) | ((with_reducible refine is_bin ?_); (refine At_plain hF (by (exact (rfl : _ = some (Value.bool _)))) ?_)) | ((with_reducible refine is_assign ?_); (refine At_plain hF (by (exact (rfl : _ = some (Value.int _ _)))) ?_)) | ((with_reducible refine is_pick ?_); (refine At_plain hF (by (exact (rfl : _ = some (Value.bool _)))) ?_)) | ((with_reducible refine is_extract ?_); (refine At_plain hF (by (exact (rfl : _ = some (Value.int _ _)))) ?_)) | ((with_reducible refine is_call ?_); (refine At_len hF rfl ?_)) | with_reducible refine At_nil ?_)) | ((with_reducible refine is_At ?_); (first | with_reducible refine At_seq ?_; intro K hK | with_reducible refine At_block ?_ | with_reducible refine At_region ?_ | with_reducible refine At_skip ?_ | with_reducible refine At_then_n ?_ | with_reducible refine At_go (by assumption) ?_)) | (first | ((with_reducible refine is_guarded ?_); (refine At_guard hF rfl (by decide) rfl ?_ ?_ <;> (intro hg; try (simp only [decide_eq_true_eq, decide_eq_false_iff_not, beq_iff_eq, bne_iff_ne, beq_eq_false_iff_ne, bne_eq_false_iff_eq, ne_eq, Bool.not_eq_true', Bool.not_eq_false', Bool.not_true, Bool.not_false, Decidable.not_not] at hg); try (exfalso; first | omega | exact hg True.intro)))) | ((with_reducible refine is_cond ?_); (refine At_cond rfl ?_ ?_ <;> (intro hg; try (simp only [decide_eq_true_eq, decide_eq_false_iff_not, beq_iff_eq, bne_iff_ne, beq_eq_false_iff_ne, bne_eq_false_iff_eq, ne_eq, Bool.not_eq_true', Bool.not_eq_false', Bool.not_true, Bool.not_false, Decidable.not_not] at hg); try (exfalso; first | omega | exact hg True.intro)))))))
        all_goals
          refine At_open 5 rfl (by omega) ?_
          rintro b junk hbt ht1 ht2 ht3
          cases hbt
          simp only [List.set_cons_succ, List.set_cons_zero]
          refine At_loop (fun i : Nat => [(0, .int .i64 N), (9, .slice (some ⟨bt, 0, none⟩) N ct), (14, .slice (some ⟨bc, 0, none⟩) N N), (16, .slice (some ⟨bc2, 0, none⟩) N N), (155, .int .i64 N), (156, .int .i64 i)])
            (fun _ => [.obj bc2 (.cells (buf (sc (gv N)) bs2 []) 33), .grid 3 (Value.int .i64) bs2 M2, .obj bc (.cells (buf (sc (gv N)) bs []) 33), .grid 3 (Value.int .i64) bs M, .obj bt (.cells (buf (sc (Value.int .i64)) tos junk) 3)]) (fun i => i ≤ N) (fun i => N - i) 0 ?_ ?_ (Nat.zero_le _) ?_
          · (repeat (first | exact List.Sublist.refl _ | exact List.Sublist.slnil | refine List.Sublist.cons_cons _ ?_ | refine List.Sublist.cons _ ?_))
          · (repeat (first | exact True.intro | (refine And.intro ?_ ?_; focus (show _ = (_ : Value); first | exact rfl | (refine Eq.trans (b := Value.int IntKind.i64 _) rfl (congrArg (Value.int IntKind.i64) ?_); omega)))))
          intro i hi K hL ρ2
          try dsimp only
          (repeat (first | ((with_reducible refine is_AL ?_); (first | ((with_reducible refine is_bin ?_); (refine At_plain hF (by (exact (rfl : _ = some (Value.bool _)))) ?_)) | with_reducible refine At_nil ?_)) | ((with_reducible refine is_At ?_); (first | with_reducible refine At_seq ?_; intro K hK | with_reducible refine At_region ?_ | with_reducible refine At_then_n ?_ | with_reducible refine At_go (by assumption) ?_))))
          ((with_reducible refine is_cond ?_); (refine At_cond rfl ?_ ?_ <;> (intro hg; try (simp only [decide_eq_true_eq, decide_eq_false_iff_not, beq_iff_eq, bne_iff_ne, beq_eq_false_iff_ne, bne_eq_false_iff_eq, ne_eq, Bool.not_eq_true', Bool.not_eq_false', Bool.not_true, Bool.not_false, Decidable.not_not] at hg); try (exfalso; first | omega | exact hg True.intro))))
          · have hlt : i < N := by omega
            have hti := htr i hlt
            have hl1 := hMr i hlt
            have hl2 := hM2r (tos.getD i default).toNat (by omega)
            (repeat' (first | ((with_reducible refine is_AL ?_); (first | ((with_reducible refine is_guarded ?_); (refine At_guard_t rfl (by decide) rfl ?_)) | ((with_reducible refine is_move ?_); (refine At_plain hF (by (first | exact (rfl : _ = some (Value.int _ _)) | exact (rfl : _ = some (Value.bool _)) | exact (rfl : _ = some (Value.slice _ _ _)))) ?_)) | ((with_reducible refine is_bin ?_); (refine At_plain hF (by (exact (rfl : _ = some (Value.bool _)))) ?_)) | ((with_reducible refine is_assign ?_); (refine At_plain hF (by (exact (rfl : _ = some (Value.int _ _)))) ?_)) | ((with_reducible refine is_pick ?_); (refine At_plain hF (by (exact (rfl : _ = some (Value.bool _)))) ?_)) | ((with_reducible refine is_call ?_); (refine At_len hF rfl ?_)) | ((with_reducible refine is_load ?_); (first | refine At_load hF 0 rfl rfl (by (exact buf_getI _ (by omega))) ?_ | refine At_load hF 2 rfl rfl (by (exact buf_getI _ (by omega))) ?_ | refine At_load hF 4 rfl rfl (by (exact buf_getI _ (by omega))) ?_)) | ((with_reducible refine is_index ?_); (first | refine At_indexS1 hF rfl rfl rfl (by omega) ?_ | refine At_indexS1i hF rfl rfl rfl (by omega) (by omega) ?_)) | with_reducible refine At_nil ?_)) | ((with_reducible refine is_At ?_); (first | with_reducible refine At_seq ?_; intro K hK | with_reducible refine At_block ?_ | with_reducible refine At_region ?_ | with_reducible refine At_skip ?_ | with_reducible refine At_then_n ?_ | with_reducible refine At_go (by assumption) ?_)) | (first | ((with_reducible refine is_guarded ?_); (refine At_guard hF rfl (by decide) rfl ?_ ?_ <;> (intro hg; try (simp only [decide_eq_true_eq, decide_eq_false_iff_not, beq_iff_eq, bne_iff_ne, beq_eq_false_iff_ne, bne_eq_false_iff_eq, ne_eq, Bool.not_eq_true', Bool.not_eq_false', Bool.not_true, Bool.not_false, Decidable.not_not] at hg); try (exfalso; first | omega | exact hg True.intro)))) | ((with_reducible refine is_cond ?_); (refine At_cond rfl ?_ ?_ <;> (intro hg; try (simp only [decide_eq_true_eq, decide_eq_false_iff_not, beq_iff_eq, bne_iff_ne, beq_eq_false_iff_ne, bne_eq_false_iff_eq, ne_eq, Bool.not_eq_true', Bool.not_eq_false', Bool.not_true, Bool.not_false, Decidable.not_not] at hg); try (exfalso; first | omega | exact hg True.intro)))))))
            all_goals
              refine At_loop (fun j : Nat => [(0, .int .i64 N), (9, .slice (some ⟨bt, 0, none⟩) N ct), (14, .slice (some ⟨bc, 0, none⟩) N N), (16, .slice (some ⟨bc2, 0, none⟩) N N), (22, .int .i64 i), (155, .int .i64 N), (156, .int .i64 i), (178, .int .i64 N), (179, .int .i64 j)])
                (fun _ => [.obj bc2 (.cells (buf (sc (gv N)) bs2 []) 33), .grid 3 (Value.int .i64) bs2 M2, .obj bc (.cells (buf (sc (gv N)) bs []) 33), .grid 3 (Value.int .i64) bs M, .obj bt (.cells (buf (sc (Value.int .i64)) tos junk) 3)]) (fun j => j ≤ N) (fun j => N - j) 0 ?_ ?_ (Nat.zero_le _) ?_
              · (repeat (first | exact List.Sublist.refl _ | exact List.Sublist.slnil | refine List.Sublist.cons_cons _ ?_ | refine List.Sublist.cons _ ?_))
              · (repeat (first | exact True.intro | (refine And.intro ?_ ?_; focus (show _ = (_ : Value); first | exact rfl | (refine Eq.trans (b := Value.int IntKind.i64 _) rfl (congrArg (Value.int IntKind.i64) ?_); omega)))))
              intro j hj K hI ρ3
              try dsimp only
              (repeat (first | ((with_reducible refine is_AL ?_); (first | ((with_reducible refine is_bin ?_); (refine At_plain hF (by (exact (rfl : _ = some (Value.bool _)))) ?_)) | with_reducible refine At_nil ?_)) | ((with_reducible refine is_At ?_); (first | with_reducible refine At_seq ?_; intro K hK | with_reducible refine At_region ?_ | with_reducible refine At_then_n ?_ | with_reducible refine At_go (by assumption) ?_))))
              ((with_reducible refine is_cond ?_); (refine At_cond rfl ?_ ?_ <;> (intro hg; try (simp only [decide_eq_true_eq, decide_eq_false_iff_not, beq_iff_eq, bne_iff_ne, beq_eq_false_iff_ne, bne_eq_false_iff_eq, ne_eq, Bool.not_eq_true', Bool.not_eq_false', Bool.not_true, Bool.not_false, Decidable.not_not] at hg); try (exfalso; first | omega | exact hg True.intro))))
              · have hjl : j < N := by omega
                have htj := htr j hjl
                have hce := hcell i j hlt hjl
                (repeat (first | ((with_reducible refine is_AL ?_); (first | ((with_reducible refine is_move ?_); (refine At_plain hF (by (exact (rfl : _ = some (Value.int _ _)))) ?_)) | ((with_reducible refine is_assign ?_); (refine At_plain hF (by (exact (rfl : _ = some (Value.int _ _)))) ?_)) | with_reducible refine At_nil ?_)) | ((with_reducible refine is_At ?_); (first | with_reducible refine At_seq ?_; intro K hK | with_reducible refine At_block ?_ | with_reducible refine At_region ?_ | with_reducible refine At_skip ?_ | with_reducible refine At_then_n ?_ | with_reducible refine At_go (by assumption) ?_))))
                refine At_draw hF 21 (by kernel_rfl) (by decide +kernel) ?_; simp only [List.take_succ_cons, List.take_zero, List.drop_succ_cons, List.drop_zero]; (repeat ((with_reducible refine is_AQc ?_); refine AQ_cons (by intro K Q hK; (repeat (first | ((with_reducible refine is_move ?_); (refine At_plain hF (by (first | exact (rfl : _ = some (Value.int _ _)) | exact (rfl : _ = some (Value.slice _ _ _)))) ?_)) | ((with_reducible refine is_load ?_); (refine At_load hF 2 rfl rfl (by (exact buf_getI _ (by omega))) ?_)) | ((with_reducible refine is_index ?_); (refine At_indexS1 hF rfl rfl rfl (by omega) ?_)))); exact At_nilK hK) ?_))
                refine AQ_cons (by intro K Q hK; refine At_loadGrid (r := i) hF 3 (by exact rfl) rfl (by omega) (by omega) ?_; exact At_nilK hK) ?_
                (repeat ((with_reducible refine is_AQc ?_); refine AQ_cons (by intro K Q hK; (repeat (first | ((with_reducible refine is_move ?_); (refine At_plain hF (by (first | exact (rfl : _ = some (Value.int _ _)) | exact (rfl : _ = some (Value.slice _ _ _)))) ?_)) | ((with_reducible refine is_load ?_); (first | refine At_load hF 0 rfl rfl (by (exact buf_getI _ (by omega))) ?_ | refine At_load hF 4 rfl rfl (by (exact buf_getI _ (by omega))) ?_)) | ((with_reducible refine is_index ?_); (first | refine At_indexS1 hF rfl rfl rfl (by omega) ?_ | refine At_indexS1i hF rfl rfl rfl (by omega) (by omega) ?_)))); exact At_nilK hK) ?_))
                refine AQ_cons (by intro K Q hK; refine At_loadGrid (r := (tos.getD i default).toNat) hF 1 (by exact rfl) rfl (by omega) (by omega) ?_; exact At_nilK hK) ?_
                (repeat ((with_reducible refine is_AQc ?_); refine AQ_cons (by intro K Q hK; (repeat ((with_reducible refine is_bin ?_); (refine At_plain hF (by (exact (rfl : _ = some (Value.bool _)))) ?_))); exact At_nilK hK) ?_)); refine AQ_done ?_
                (repeat' (first | ((with_reducible refine is_AL ?_); (first | ((with_reducible refine is_move ?_); (refine At_plain hF (by (exact (rfl : _ = some (Value.int _ _)))) ?_)) | ((with_reducible refine is_bin ?_); ((with_reducible refine is_badd ?_); (refine At_add hF rfl rfl (by omega) ?_))) | with_reducible refine At_nil ?_)) | ((with_reducible refine is_At ?_); (first | with_reducible refine At_region ?_ | with_reducible refine At_skip ?_ | with_reducible refine At_then_n ?_ | with_reducible refine At_inb_n ?_ | with_reducible refine At_go (by assumption) ?_)) | ((with_reducible refine is_cond ?_); (refine At_cond rfl ?_ ?_ <;> (intro hg; try (simp only [decide_eq_true_eq, decide_eq_false_iff_not, beq_iff_eq, bne_iff_ne, beq_eq_false_iff_ne, bne_eq_false_iff_eq, ne_eq, Bool.not_eq_true', Bool.not_eq_false', Bool.not_true, Bool.not_false, Decidable.not_not] at hg); try (exfalso; first | omega | exact hg True.intro))))))
                all_goals
                  refine At.sub ?_ (hI (j + 1) _ (by omega) (by omega) ?_)
                  · (repeat (first | exact List.Sublist.refl _ | exact List.Sublist.slnil | refine List.Sublist.cons_cons _ ?_ | refine List.Sublist.cons _ ?_))
                  · (repeat (first | exact True.intro | (refine And.intro ?_ ?_; focus (show _ = (_ : Value); first | exact rfl | (refine Eq.trans (b := Value.int IntKind.i64 _) rfl (congrArg (Value.int IntKind.i64) ?_); omega)))))
              · obtain rfl : j = N := by omega
                (repeat (first | ((with_reducible refine is_AL ?_); (first | ((with_reducible refine is_move ?_); (refine At_plain hF (by (exact (rfl : _ = some (Value.int _ _)))) ?_)) | ((with_reducible refine is_bin ?_); ((with_reducible refine is_badd ?_); (refine At_add hF rfl rfl (by omega) ?_))) | with_reducible refine At_nil ?_)) | ((with_reducible refine is_At ?_); (first | with_reducible refine At_region ?_ | with_reducible refine At_exit ?_ | with_reducible refine At_then_n ?_ | with_reducible refine At_then_e ?_ | with_reducible refine At_inb_n ?_ | with_reducible refine At_inb_e rfl ?_ | with_reducible refine At_go (by assumption) ?_))))
                refine At.sub ?_ (hL (i + 1) _ (by omega) (by omega) ?_)
                · (repeat (first | exact List.Sublist.refl _ | exact List.Sublist.slnil | refine List.Sublist.cons_cons _ ?_ | refine List.Sublist.cons _ ?_))
                · (repeat (first | exact True.intro | (refine And.intro ?_ ?_; focus (show _ = (_ : Value); first | exact rfl | (refine Eq.trans (b := Value.int IntKind.i64 _) rfl (congrArg (Value.int IntKind.i64) ?_); omega)))))
          · (repeat (first | ((with_reducible refine is_AL ?_); (first | ((with_reducible refine is_assign ?_); (refine At_plain hF (by (exact (rfl : _ = some (Value.bool _)))) ?_)) | with_reducible refine At_nil ?_)) | ((with_reducible refine is_At ?_); (first | with_reducible refine At_seq ?_; intro K hK | with_reducible refine At_region ?_ | with_reducible refine At_ret ?_ | with_reducible refine At_exit ?_ | with_reducible refine At_then_n ?_ | with_reducible refine At_then_e ?_ | with_reducible refine At_inb_e rfl ?_ | with_reducible refine At_go (by assumption) ?_))))
            exact At_ret1 rfl (rv_tmp (by decide)) (fun w' hw' => ⟨_, rfl, rfl, hw'.below⟩)
theorem law_CarryRenamed.calls (n : Int) (A : Option Addr) (c : Nat) (m : List S45) (A2 : Option Addr) (c2 : Nat) (l : List Int) (A3 : Option Addr) (c3 : Nat) (tn : List Bool) (r : Bool) (w : World) (hr : Kd.C k45 w A m.length m) (hc : m.length ≤ c) (hr2 : Kd.C (Kd.int .u8) w A2 l.length l) (hc2 : l.length ≤ c2) (hr3 : Kd.C Kd.bool w A3 tn.length tn) (hc3 : tn.length ≤ c3) (h : r = true ∧ ∀ x ∈ l, (Lit.int .u8 x).wf = true) :
    Calls Try.prog 6 #[.int .i64 n, .slice A m.length c, .slice A2 l.length c2, .slice A3 tn.length c3] w fun e w' => e = .returned (.bool r) ∧ Below w.heap.size w w' := by
  obtain ⟨rfl, h8⟩ := h
  have hl8 : ∀ x ∈ l, 0 ≤ x ∧ x ≤ 255 := fun x hx => by
    have := h8 x hx
    simp only [Lit.wf, Bool.and_eq_true, decide_eq_true_eq] at this
    exact this
  exact (renamed_law n A c m A2 c2 l A3 c3 tn w hr hc hr2 hc2 hl8 hr3 hc3).mono (by rintro e w' ⟨u, rfl, rfl, hb⟩; exact ⟨rfl, hb⟩)
end Go.Proofs.Ytcjpghiceebkfaa.P
