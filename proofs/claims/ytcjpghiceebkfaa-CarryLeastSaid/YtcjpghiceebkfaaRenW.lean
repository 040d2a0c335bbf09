import Derived.Test.YtcjpghiceebkfaaP5
import Derived.Test.YtcjpghiceebkfaaPerm
import Derived.Test.YtcjpghiceebkfaaGLoads
import Derived.Test.YtcjpghiceebkfaaXRangeG
import Derived.Test.YtcjpghiceebkfaaP9
/- Plain laws of the printed parts. -/
namespace Go.Proofs.Ytcjpghiceebkfaa.P
open Go.RowKit Go.Proofs.YtcjpghiceebkfaaW.PrintWords Go.Proofs.YtcjpghiceebkfaaW.PrintLast Go.Proofs.YtcjpghiceebkfaaW.PrintMore
open XW
set_option linter.unusedSimpArgs false
set_option linter.unusedVariables false
theorem sane_at : fastilaw22_sane.f 20 = some true := by decide +kernel
end Go.Proofs.Ytcjpghiceebkfaa.P

/- What right meetings are: their entries, plain. -/
namespace Go.Proofs.Ytcjpghiceebkfaa.P
open Go.RowKit
open XW
set_option linter.unusedSimpArgs false
set_option linter.unusedVariables false
def ent2 (x : S45) : Ent := [((x.f1, x.f0), x.f2), ((x.f2, x.f0), x.f1)]
def ents (m : List S45) : Ent := m.flatMap ent2
abbrev keys (es : Ent) : List (Int × Int) := es.map (·.1)
theorem step_some {n : Int} {es : Ent} {r : Int} {x : S45} (hb : ¬ bad n x) (h1 : (x.f1, x.f0) ∉ keys es) (h2 : (x.f2, x.f0) ∉ keys es) : foeStep n (some (es, r)) x = some (es ++ ent2 x, rndF r x) := by
 have e1 : mget es (x.f1, x.f0) = none := (mget_none_iff _ _).2 h1
 have e2 : mget (mput es (x.f1, x.f0) x.f2) (x.f2, x.f0) = none := by
  rw [mget_mput_ne _ _ (fun h => hb (by have := congrArg Prod.fst h; simp only at this; simp only [bad]; omega))]
  exact (mget_none_iff _ _).2 h2
 simp only [foeStep, Option.bind_some]
 rw [if_neg hb, e1, e2, if_neg (by simp), if_neg (by simp), mput_new _ e2, mput_new _ e1, List.append_assoc]
 rfl
theorem step_inv {n : Int} {es es' : Ent} {r r' : Int} {x : S45} (h : foeStep n (some (es, r)) x = some (es', r')) : ¬ bad n x ∧ (x.f1, x.f0) ∉ keys es ∧ (x.f2, x.f0) ∉ keys es ∧ es' = es ++ ent2 x ∧ r' = rndF r x := by
 have h0 := h
 simp only [foeStep, Option.bind_some] at h
 by_cases hb : bad n x
 ·rw [if_pos hb] at h; cases h
 ·rw [if_neg hb] at h
  split at h
  ·cases h
  ·rename_i n1
   split at h
   ·cases h
   ·rename_i n2
    have e1 : mget es (x.f1, x.f0) = none := by simpa using n1
    have e2 : mget (mput es (x.f1, x.f0) x.f2) (x.f2, x.f0) = none := by simpa using n2
    rw [mget_mput_ne _ _ (fun h => hb (by have := congrArg Prod.fst h; simp only at this; simp only [bad]; omega))] at e2
    have h1 := (mget_none_iff _ _).1 e1
    have h2 := (mget_none_iff _ _).1 e2
    rw [step_some hb h1 h2] at h0
    cases h0
    exact ⟨hb, h1, h2, rfl, rfl⟩
theorem keys_new {es : Ent} {x : S45} {n : Int} (hb : ¬ bad n x) (hn : (keys es).Nodup) (h1 : (x.f1, x.f0) ∉ keys es) (h2 : (x.f2, x.f0) ∉ keys es) : (keys (es ++ ent2 x)).Nodup := by
 have hne : x.f1 ≠ x.f2 := fun h => hb (by simp only [bad]; omega)
 simp only [keys, ent2, List.map_append, List.map_cons, List.map_nil] at h1 h2 ⊢
 rw [List.nodup_append]
 refine ⟨hn, by simp [hne], ?_⟩
 intro a ha b hbm e
 subst e
 rcases List.mem_cons.1 hbm with rfl | hbm
 ·exact h1 ha
 ·rw [List.mem_singleton] at hbm; subst hbm; exact h2 ha
theorem fold_inv {n : Int} : ∀ (m : List S45) (es : Ent) (r : Int), (keys es).Nodup → ∀ es' r', m.foldl (foeStep n) (some (es, r)) = some (es', r') → (∀ x ∈ m, ¬ bad n x) ∧ (keys (es ++ ents m)).Nodup ∧ es' = es ++ ents m ∧ r' = m.foldl rndF r
 | [], es, r, hn, es', r', h => by cases h; simpa [ents] using hn
 | x :: m, es, r, hn, es', r', h => by
  rw [List.foldl_cons] at h
  cases hs : foeStep n (some (es, r)) x with
  | none => rw [hs, fold_none] at h; cases h
  | some p =>
   obtain ⟨es1, r1⟩ := p
   obtain ⟨h1, h2, h3, rfl, rfl⟩ := step_inv hs
   rw [hs] at h
   obtain ⟨g1, g2, g3, g4⟩ := fold_inv m _ _ (keys_new h1 hn h2 h3) es' r' h
   rw [List.append_assoc] at g2 g3
   exact ⟨fun y hy => (List.mem_cons.1 hy).elim (fun e => e ▸ h1) (g1 y), g2, g3, g4⟩
theorem fold_make {n : Int} : ∀ (m : List S45) (es : Ent) (r : Int), (∀ x ∈ m, ¬ bad n x) → (keys (es ++ ents m)).Nodup → m.foldl (foeStep n) (some (es, r)) = some (es ++ ents m, m.foldl rndF r)
 | [], es, r, _, _ => by simp [ents]
 | x :: m, es, r, hb, hn => by
  have e : ents (x :: m) = ent2 x ++ ents m := rfl
  rw [e, ← List.append_assoc] at hn ⊢
  have hk : (keys (es ++ ent2 x)).Nodup := by
   rw [keys, List.map_append] at hn; exact (List.nodup_append.1 hn).1
  have hk2 := hk
  rw [keys, List.map_append, List.nodup_append] at hk2
  have h1 : (x.f1, x.f0) ∉ keys es := fun h => hk2.2.2 _ h _ (by simp [ent2]) rfl
  have h2 : (x.f2, x.f0) ∉ keys es := fun h => hk2.2.2 _ h (x.f2, x.f0) (by simp [ent2]) rfl
  rw [List.foldl_cons, step_some (hb x (by simp)) h1 h2]
  exact fold_make m _ _ (fun y hy => hb y (by simp [hy])) hn
theorem foesF_inv {n : Int} {m : List S45} {es : Ent} {r : Int} (h : foesF n m = some (es, r)) : (2 ≤ n ∧ n ≤ 20) ∧ (∀ x ∈ m, ¬ bad n x) ∧ (keys (ents m)).Nodup ∧ es = ents m ∧ r = roundsF m := by
 unfold foesF at h
 split at h
 ·cases h
 ·obtain ⟨g1, g2, g3, g4⟩ := fold_inv m [] 0 (by simp) es r h
  exact ⟨by omega, g1, g2, g3, g4⟩
theorem foesF_make {n : Int} {m : List S45} (hn : 2 ≤ n ∧ n ≤ 20) (hb : ∀ x ∈ m, ¬ bad n x) (hk : (keys (ents m)).Nodup) : foesF n m = some (ents m, roundsF m) := by
 unfold foesF
 rw [if_neg (by omega), fold_make m [] 0 hb hk]; rfl
theorem mget_iff {es : Ent} (hn : (keys es).Nodup) {k : Int × Int} {v : Int} : mget es k = some v ↔ (k, v) ∈ es := ⟨mget_mem, fun h => mem_get hn h⟩
theorem mem_ents {m : List S45} {e : (Int × Int) × Int} : e ∈ ents m ↔ ∃ x ∈ m, e = ((x.f1, x.f0), x.f2) ∨ e = ((x.f2, x.f0), x.f1) := by
 simp [ents, ent2, List.mem_flatMap]
theorem ents_len (m : List S45) : (ents m).length = 2 * m.length := by
 induction m with
 | nil => rfl
 | cons x m ih => rw [show ents (x :: m) = ent2 x ++ ents m from rfl, List.length_append, ih, List.length_cons]; simp [ent2]; omega
def bef (r : Int) (k : Int × Int) : Int × Int := if k.2 = 0 then (k.1, r - 1) else (k.1, k.2 - 1)
theorem nodup_map_on {α β : Type} {f : α → β} : ∀ {l : List α}, (∀ a ∈ l, ∀ b ∈ l, f a = f b → a = b) → l.Nodup → (l.map f).Nodup
 | [], _, _ => by simp
 | a :: l, hf, hn => by
  rw [List.nodup_cons] at hn
  rw [List.map_cons, List.nodup_cons]
  refine ⟨fun h => ?_, nodup_map_on (fun x hx y hy => hf x (by simp [hx]) y (by simp [hy])) hn.2⟩
  obtain ⟨b, hb, e⟩ := List.mem_map.1 h
  exact hn.1 (hf a (by simp) b (by simp [hb]) e.symm ▸ hb)
end Go.Proofs.Ytcjpghiceebkfaa.P

/- renamed: walk and contract. -/
namespace Go.Proofs.Ytcjpghiceebkfaa.P
open Go.RowKit Go.Proofs.YtcjpghiceebkfaaW.PrintWords Go.Proofs.YtcjpghiceebkfaaW.PrintLast Go.Proofs.YtcjpghiceebkfaaW.PrintMore
open XW RegInv
attribute [local irreducible] Addr.add
set_option linter.unusedSimpArgs false
set_option linter.unusedVariables false
def renS (tos : List Int) (x : S45) : S45 := ⟨x.f0, tos.getD x.f1.toNat 0, tos.getD x.f2.toNat 0⟩
def Named (tos : List Int) (m : List S45) : Prop := ∀ x ∈ m, (0 ≤ x.f1 ∧ x.f1 < tos.length) ∧ 0 ≤ x.f2 ∧ x.f2 < tos.length
instance (tos : List Int) (m : List S45) : Decidable (Named tos m) := by unfold Named; infer_instance
theorem enc45_len (x : S45) : (enc45 x).length = 3 := rfl
set_option maxHeartbeats 4000000 in
theorem renamed_rets (n : Int) (A : Option Addr) (c : Nat) (tos : List Int) (A2 : Option Addr) (c2 : Nat) (m : List S45) (w : World) (hr : Kd.C (Kd.int .i64) w A tos.length tos) (hc : tos.length ≤ c) (hr2 : Kd.C k45 w A2 m.length m) (hc2 : m.length ≤ c2) (hm : m.length ≤ 1000000) (hn : Named tos m) :
  Rets Try.prog 24 #[.int .i64 n, .slice A tos.length c, .slice A2 m.length c2] w fun u w' => ∃ A' c', u = rowV A' m.length c' ∧ Mem w w' [.row 45 3 enc45 A' c' (m.map (renS tos))] := by
 have hF := wide_wide
 have hmx := hr2.2.1
 refine rets_at (n := 34) Try.func24 rfl Try.ntmps24 (by simp) ?_
 refine At.newNil 45 3 enc45 enc45_len ?_
 (repeat (first | ((with_reducible refine is_AL ?_); (first | ((with_reducible refine is_move ?_); (refine At_plain hF (by (first | exact (rfl : _ = some (Value.int _ _)) | exact (rfl : _ = some (Value.slice _ _ _)))) ?_)) | ((with_reducible refine is_assign ?_); (refine At_plain hF (by (exact (rfl : _ = some (Value.slice _ _ _)))) ?_)) | ((with_reducible refine is_call ?_); (refine At_len hF rfl ?_)) | with_reducible refine At_nil ?_)) | ((with_reducible refine is_At ?_); (first | with_reducible refine At_seq ?_; intro K hK | with_reducible refine At_block ?_ | with_reducible refine At_region ?_ | with_reducible refine At_then_n ?_ | with_reducible refine At_go (by assumption) ?_))))
 refine At_loop (fun st : Nat × Option Nat × Nat => [(0, .int .i64 n), (1, .slice A tos.length c), (2, .slice A2 m.length c2), (6, .slice none 0 0), (7, rowV st.2.1 st.1 st.2.2), (10, .slice A2 m.length c2), (11, .int .i64 m.length), (12, .int .i64 st.1)])
  (fun st => [.row 45 3 enc45 st.2.1 st.2.2 ((m.take st.1).map (renS tos))]) (fun st => st.1 ≤ m.length) (fun st => m.length - st.1) (0, none, 0) ?_ ?_ (Nat.zero_le _) ?_
 ·(repeat (first | exact List.Sublist.refl _ | exact List.Sublist.slnil | refine List.Sublist.cons_cons _ ?_ | refine List.Sublist.cons _ ?_))
 ·(repeat (first | exact True.intro | (refine And.intro ?_ ?_; focus (show _ = (_ : Value); first | exact rfl | (refine Eq.trans (b := Value.int IntKind.i64 _) rfl (congrArg (Value.int IntKind.i64) ?_); omega)))))
 rintro ⟨k, A', c'⟩ hk K hL ρ0
 simp only at hk
 (repeat (first | ((with_reducible refine is_AL ?_); (first | ((with_reducible refine is_bin ?_); (refine At_plain hF (by (exact (rfl : _ = some (Value.bool _)))) ?_)) | with_reducible refine At_nil ?_)) | ((with_reducible refine is_At ?_); (first | with_reducible refine At_seq ?_; intro K hK | with_reducible refine At_region ?_ | with_reducible refine At_then_n ?_ | with_reducible refine At_go (by assumption) ?_))))
 ((with_reducible refine is_cond ?_); (refine At_cond rfl ?_ ?_ <;> (intro hg; try (simp only [decide_eq_true_eq, decide_eq_false_iff_not, beq_iff_eq, bne_iff_ne, beq_eq_false_iff_ne, bne_eq_false_iff_eq, ne_eq, Bool.not_eq_true', Bool.not_eq_false', Bool.not_true, Bool.not_false, Decidable.not_not] at hg); try (exfalso; first | omega | exact hg True.intro))))
 ·have hlt : k < m.length := by omega
  dsimp only
  (repeat ((with_reducible refine is_At ?_); (first | with_reducible refine At_seq ?_; intro K hK | with_reducible refine At_block ?_ | with_reducible refine At_region ?_ | with_reducible refine At_skip ?_ | with_reducible refine At_then_n ?_ | with_reducible refine At_go (by assumption) ?_)))
  obtain ⟨ad, hA, hcell⟩ := C_flat (enc := enc45) (fun h => k45_open h) hr2 z45 k hlt
  have hx := hn (m.getD k z45) (getD_mem' hlt)
  have htk : (m.take (k + 1)).map (renS tos) = (m.take k).map (renS tos) ++ [renS tos (m.getD k z45)] := by rw [take_snoc45 m k hlt, List.map_append]; rfl
  have htl : ((m.take k).map (renS tos)).length = k := by simp; omega
  generalize m.getD k z45 = x at hcell hx htk
  obtain ⟨a1, hA1, h1⟩ := C_int hr x.f1.toNat (by omega)
  obtain ⟨a2, hA2, h2⟩ := C_int hr x.f2.toNat (by omega)
  obtain rfl : a2 = a1 := by rw [hA1] at hA2; cases hA2; rfl
  refine At_indexC (k := k) hF (by exact rfl) hA (by exact rfl) (by omega) ?_
  refine At_loadCS (vs := [.int .i64 x.f0, .int .i64 x.f1, .int .i64 x.f2]) hF (by exact rfl) (by exact rfl) hcell ?_
  clear hA hcell hA2
  ((repeat (first | ((with_reducible refine is_AL ?_); (first | ((with_reducible refine is_store ?_); (refine At_storeB_0 hF rfl rfl rfl rfl (by simp [Value.one1, epair]) ?_)) | with_reducible refine At_nil ?_)) | ((with_reducible refine is_At ?_); (first | with_reducible refine At_seq ?_; intro K hK | with_reducible refine At_then_n ?_ | with_reducible refine At_go (by assumption) ?_)))); ((with_reducible refine is_alloc ?_); (refine At_alloc hF (by (exact (rfl : _ = List.toArray (_ :: _)))) ?_; intro b9)); (repeat (first | ((with_reducible refine is_AL ?_); (first | ((with_reducible refine is_store ?_); (refine At_storeB_0 hF rfl rfl rfl rfl (by simp [Value.one1, epair]) ?_)) | with_reducible refine At_nil ?_)) | ((with_reducible refine is_At ?_); (first | with_reducible refine At_seq ?_; intro K hK | with_reducible refine At_then_n ?_ | with_reducible refine At_go (by assumption) ?_)))))
  refine At_drawE hF 14 [0, 1, 2, 3, 4, 5, 6, 7, 8, 9, 10, 12] [0, 1, 2, 3, 4, 6, 7, 10] [11, 13] ([.row 45 3 enc45 A' c' ((m.take k).map (renS tos))]) (by kernel_rfl) (by decide +kernel) (by decide +kernel) ?_; simp only [List.drop_succ_cons, List.drop_zero]; (repeat ((with_reducible refine is_AQF ?_); first | refine AQF_early (by decide) (by exact (rfl : _ = some (Oper.mk _ _ _ _ _ _))) (by intro K Q hK; (repeat (first | ((with_reducible refine is_move ?_); (refine At_plain hF (by (exact (rfl : _ = some (Value.slice _ _ _)))) ?_)) | ((with_reducible refine is_field ?_); (refine At_field hF rfl ?_)) | ((with_reducible refine is_load ?_); (refine At_load hF 0 rfl rfl (by (exact (rfl : _ = some (Value.int _ _)))) ?_)) | ((with_reducible refine is_index ?_); (refine At_indexC1i hF rfl (by assumption) rfl rfl (by omega) (by omega) ?_)))); exact At_nilK hK) ?_ | refine AQF_late (by decide) (by exact (rfl : _ = some (Oper.mk _ _ _ _ _ _))) (by intro E K Q hK; simp only [List.cons_append, List.nil_append] at hK ⊢; (repeat (first | ((with_reducible refine is_move ?_); (refine At_plain hF (by (exact (rfl : _ = some (Value.slice _ _ _)))) ?_)) | ((with_reducible refine is_field ?_); (refine At_field hF rfl ?_)) | ((with_reducible refine is_load ?_); (refine At_load hF 0 rfl rfl (by (exact (rfl : _ = some (Value.int _ _)))) ?_)) | ((with_reducible refine is_index ?_); (refine At_indexC1i hF rfl (by assumption) rfl rfl (by omega) (by omega) ?_)))); exact At_nilK hK) ?_))
  refine AQF_early (by decide) (by exact (rfl : _ = some (Oper.mk _ _ _ _ _ _))) (by intro K Q hK; refine At_loadC hF (by exact rfl) h1 ?_; exact At_nilK hK) ?_
  (repeat ((with_reducible refine is_AQF ?_); first | refine AQF_early (by decide) (by exact (rfl : _ = some (Oper.mk _ _ _ _ _ _))) (by intro K Q hK; (repeat (first | ((with_reducible refine is_move ?_); (refine At_plain hF (by (exact (rfl : _ = some (Value.slice _ _ _)))) ?_)) | ((with_reducible refine is_field ?_); (refine At_field hF rfl ?_)) | ((with_reducible refine is_load ?_); (refine At_load hF 0 rfl rfl (by (exact (rfl : _ = some (Value.int _ _)))) ?_)) | ((with_reducible refine is_index ?_); (refine At_indexC1i hF rfl (by assumption) rfl rfl (by omega) (by omega) ?_)))); exact At_nilK hK) ?_ | refine AQF_late (by decide) (by exact (rfl : _ = some (Oper.mk _ _ _ _ _ _))) (by intro E K Q hK; simp only [List.cons_append, List.nil_append] at hK ⊢; (repeat (first | ((with_reducible refine is_move ?_); (refine At_plain hF (by (exact (rfl : _ = some (Value.slice _ _ _)))) ?_)) | ((with_reducible refine is_field ?_); (refine At_field hF rfl ?_)) | ((with_reducible refine is_load ?_); (refine At_load hF 0 rfl rfl (by (exact (rfl : _ = some (Value.int _ _)))) ?_)) | ((with_reducible refine is_index ?_); (refine At_indexC1i hF rfl (by assumption) rfl rfl (by omega) (by omega) ?_)))); exact At_nilK hK) ?_))
  refine AQF_late (by decide) (by exact (rfl : _ = some (Oper.mk _ _ _ _ _ _))) (by intro E K Q hK; simp only [List.cons_append, List.nil_append] at hK ⊢; refine At_loadC hF (by exact rfl) h2 ?_; exact At_nilK hK) ?_
  (repeat ((with_reducible refine is_AQF ?_); first | refine AQF_early (by decide) (by exact (rfl : _ = some (Oper.mk _ _ _ _ _ _))) (by intro K Q hK; (repeat ((with_reducible refine is_field ?_); (refine At_field hF rfl ?_))); exact At_nilK hK) ?_ | refine AQF_late (by decide) (by exact (rfl : _ = some (Oper.mk _ _ _ _ _ _))) (by intro E K Q hK; simp only [List.cons_append, List.nil_append] at hK ⊢; (repeat ((with_reducible refine is_field ?_); (refine At_field hF rfl ?_))); exact At_nilK hK) ?_))
  refine AQF_done ?_
  (refine WAt_cons ?_ (by exact (rfl : _ = some (Oper.mk _ _ _ _ _ _))) ?_; (focus (repeat (first | exact List.Sublist.refl _ | exact List.Sublist.slnil | refine List.Sublist.cons_cons _ ?_ | refine List.Sublist.cons _ ?_))); intro K Q hK)
  (repeat (first | ((with_reducible refine is_AL ?_); (first | ((with_reducible refine is_store ?_); (refine At_store_0 hF rfl (by (exact (rfl : _ = (Value.int _ _)))) (by (exact of_decide_eq_true rfl)) (by exact rfl) (by exact rfl) (by (exact (rfl : _ = List.toArray (_ :: _)))) ?_)) | with_reducible refine At_nil ?_)) | ((with_reducible refine is_At ?_); (with_reducible refine At_then_n ?_))))
  refine hK _ _ ?_
  (refine WAt_cons ?_ (by exact (rfl : _ = some (Oper.mk _ _ _ _ _ _))) ?_; (focus (repeat (first | exact List.Sublist.refl _ | exact List.Sublist.slnil | refine List.Sublist.cons_cons _ ?_ | refine List.Sublist.cons _ ?_))); intro K Q hK)
  (repeat (first | ((with_reducible refine is_AL ?_); (first | ((with_reducible refine is_store ?_); (refine At_store_0 hF rfl (by (exact (rfl : _ = (Value.int _ _)))) (by (exact of_decide_eq_true rfl)) (by exact rfl) (by exact rfl) (by (exact (rfl : _ = List.toArray (_ :: _)))) ?_)) | with_reducible refine At_nil ?_)) | ((with_reducible refine is_At ?_); (with_reducible refine At_then_n ?_))))
  refine hK _ _ ?_
  (refine WAt_nil ?_ ?_; (focus (repeat (first | exact List.Sublist.refl _ | exact List.Sublist.slnil | refine List.Sublist.cons_cons _ ?_ | refine List.Sublist.cons _ ?_))))
  ((repeat (first | ((with_reducible refine is_AL ?_); (first | ((with_reducible refine is_move ?_); (refine At_plain hF (by (exact (rfl : _ = some (Value.slice _ _ _)))) ?_)) | ((with_reducible refine is_load ?_); (refine At_loadB hF 0 rfl rfl rfl ?_)) | with_reducible refine At_nil ?_)) | ((with_reducible refine is_At ?_); (first | with_reducible refine At_region ?_ | with_reducible refine At_then_n ?_ | with_reducible refine At_go (by assumption) ?_)))); ((with_reducible refine is_bslice ?_); (refine At_sliceA_1 hF (by decide) rfl rfl ?_; intro bl)); (repeat (first | ((with_reducible refine is_AL ?_); (first | ((with_reducible refine is_move ?_); (refine At_plain hF (by (exact (rfl : _ = some (Value.slice _ _ _)))) ?_)) | ((with_reducible refine is_load ?_); (refine At_loadB hF 0 rfl rfl rfl ?_)) | with_reducible refine At_nil ?_)) | ((with_reducible refine is_At ?_); (first | with_reducible refine At_region ?_ | with_reducible refine At_then_n ?_ | with_reducible refine At_go (by assumption) ?_)))))
  refine At_append_2 hF 0 rfl rfl htl.symm rfl (x0 := renS tos x) rfl (by decide) (by simp [Value.one1]) (by rw [htl]; simp only [TS.bytes]; omega) (by omega) ?_
  intro A2' c2'
  rw [htl, ← htk]
  (repeat (first | ((with_reducible refine is_AL ?_); (first | ((with_reducible refine is_move ?_); (refine At_plain hF (by (exact (rfl : _ = some (Value.int _ _)))) ?_)) | ((with_reducible refine is_bin ?_); ((with_reducible refine is_badd ?_); (refine At_add hF rfl rfl (by omega) ?_))) | ((with_reducible refine is_assign ?_); (refine At_plain hF (by (exact (rfl : _ = some (Value.slice _ _ _)))) ?_)) | with_reducible refine At_nil ?_)) | ((with_reducible refine is_At ?_); (first | with_reducible refine At_region ?_ | with_reducible refine At_then_n ?_ | with_reducible refine At_inb_n ?_ | with_reducible refine At_go (by assumption) ?_))))
  refine At.sub ?_ (hL (k + 1, A2', c2') _ hlt (by simp only; omega) ?_)
  ·(repeat (first | exact List.Sublist.refl _ | exact List.Sublist.slnil | refine List.Sublist.cons_cons _ ?_ | refine List.Sublist.cons _ ?_))
  ·(repeat (first | exact True.intro | (refine And.intro ?_ ?_; focus (show _ = (_ : Value); first | exact rfl | (refine Eq.trans (b := Value.int IntKind.i64 _) rfl (congrArg (Value.int IntKind.i64) ?_); omega)))))
 ·have hk2 : k = m.length := by omega
  subst hk2
  (repeat (first | ((with_reducible refine is_AL ?_); (first | ((with_reducible refine is_move ?_); (refine At_plain hF (by (exact (rfl : _ = some (Value.slice _ _ _)))) ?_)) | ((with_reducible refine is_assign ?_); (refine At_plain hF (by (exact (rfl : _ = some (Value.slice _ _ _)))) ?_)) | with_reducible refine At_nil ?_)) | ((with_reducible refine is_At ?_); (first | with_reducible refine At_seq ?_; intro K hK | with_reducible refine At_region ?_ | with_reducible refine At_ret ?_ | with_reducible refine At_exit ?_ | with_reducible refine At_then_n ?_ | with_reducible refine At_then_e ?_ | with_reducible refine At_inb_e rfl ?_ | with_reducible refine At_go (by assumption) ?_))))
  rw [List.take_length]
  exact At_ret1 rfl (rv_tmp (by decide)) (fun w' hw' => ⟨_, rfl, A', c', rfl, hw'⟩)
theorem reps45 (w : World) (base : Nat) (ok : Nat → Prop) : ∀ xs : List S45, Reps (k45.M w base ok) 3 xs (xs.flatMap enc45) := by
 intro xs
 refine ⟨by rw [len_flat enc45_len], fun j p hj => ?_⟩
 have : ((xs.flatMap enc45).drop (j * 3)).take 3 = enc45 p := by
  induction xs generalizing j with
  | nil => simp at hj
  | cons x xs ih =>
   cases j with
   | zero => simp at hj; subst hj; rfl
   | succ j =>
    have := ih j (by simpa using hj)
    rw [List.flatMap_cons, show (j + 1) * 3 = (enc45 x).length + j * 3 by rw [enc45_len]; omega, ← List.drop_drop, List.drop_left]
    exact this
 rw [this]
 exact k45_mkM w base ok p
end Go.Proofs.Ytcjpghiceebkfaa.P

/- Renamed teams: plain. -/
namespace Go.Proofs.Ytcjpghiceebkfaa.P
open Go.RowKit Go.Proofs.YtcjpghiceebkfaaW.PrintWords Go.Proofs.YtcjpghiceebkfaaW.PrintLast Go.Proofs.YtcjpghiceebkfaaW.PrintMore
open XW
set_option linter.unusedSimpArgs false
set_option linter.unusedVariables false
structure Ord (N : Nat) (l : List Int) : Prop where
 len : l.length = N
 nodup : l.Nodup
 rng : ∀ x ∈ l, 0 ≤ x ∧ x < N
theorem ord_of {N : Nat} {l : List Int} (hn : l.Nodup) (hr : ∀ x ∈ l, 0 ≤ x ∧ x < N) (ha : ∀ t : Nat, t < N → (t : Int) ∈ l) : Ord N l := by
 have h2 : ((List.range N).map fun r : Nat => (r : Int)).Nodup := nodup_map_on (fun a _ b _ h => by omega) List.nodup_range
 have := ((List.perm_ext_iff_of_nodup hn h2).2 fun x => by
  constructor
  ·intro h
   have := hr x h
   exact List.mem_map.2 ⟨x.toNat, List.mem_range.2 (by omega), by omega⟩
  ·intro h
   obtain ⟨t, ht, rfl⟩ := List.mem_map.1 h
   exact ha t (List.mem_range.1 ht)).length_eq
 exact ⟨by simpa using this, hn, hr⟩
theorem order_l1 (N : Nat) (hN : N ≤ 20) (has : List Bool) (hh : has.length = N) : ∀ (d i k : Nat) (out : List Int), N - i ≤ d → d + 1 ≤ k → i ≤ N → out.Nodup → (∀ x ∈ out, 0 ≤ x ∧ x < N) → (∀ t, t < i → (t : Int) ∈ out) → (∀ t, i ≤ t → t < N → (has.getD t false = true ↔ (t : Int) ∈ out)) →
  ∃ out', fastilaw22_order.l1 k out has N i = some out' ∧ Ord N out' := by
 intro d
 induction d with
 | zero =>
  intro i k out hd hk hi h1 h2 h3 h4
  obtain ⟨k, rfl⟩ : ∃ k', k = k' + 1 := ⟨k - 1, by omega⟩
  exact ⟨out, by rw [fastilaw22_order.l1, if_neg (by omega)], ord_of h1 h2 fun t ht => h3 t (by omega)⟩
 | succ d ih =>
  intro i k out hd hk hi h1 h2 h3 h4
  obtain ⟨k, rfl⟩ : ∃ k', k = k' + 1 := ⟨k - 1, by omega⟩
  by_cases h : i < N
  ·have hle : out.length ≤ N := by
    have h5 : ((List.range N).map fun r : Nat => (r : Int)).Nodup := nodup_map_on (fun a _ b _ h => by omega) List.nodup_range
    have := h1.length_le_of_subset (l₂ := (List.range N).map fun r : Nat => (r : Int)) fun x hx => by
     have := h2 x hx
     exact List.mem_map.2 ⟨x.toNat, List.mem_range.2 (by omega), by omega⟩
    simpa using this
   rw [fastilaw22_order.l1, if_pos (by omega), if_pos (by omega), if_pos (by omega), rdOf, Int.toNat_natCast]
   by_cases hb : has.getD i false = true
   ·rw [if_pos hb, w64 (by omega)]
    refine ih (i + 1) k out (by omega) (by omega) h h1 h2 (fun t ht => ?_) (fun t ht ht2 => h4 t (by omega) ht2)
    by_cases e : t = i
    ·subst e; exact (h4 t (Nat.le_refl _) h).1 hb
    ·exact h3 t (by omega)
   ·rw [if_neg hb, if_pos (by omega), w64 (by omega)]
    have hni : (i : Int) ∉ out := fun hc => hb ((h4 i (Nat.le_refl _) h).2 hc)
    refine ih (i + 1) k (out ++ [(i : Int)]) (by omega) (by omega) h ?_ ?_ (fun t ht => ?_) (fun t ht ht2 => ?_)
    ·rw [List.nodup_append]
     refine ⟨h1, by simp, ?_⟩
     rintro a ha b hb2 rfl
     rw [List.mem_singleton] at hb2; subst hb2; exact hni ha
    ·intro x hx
     rcases List.mem_append.1 hx with hx | hx
     ·exact h2 x hx
     ·rw [List.mem_singleton] at hx; subst hx; omega
    ·by_cases e : t = i
     ·subst e; simp
     ·exact List.mem_append_left _ (h3 t (by omega))
    ·rw [h4 t (by omega) ht2, List.mem_append, List.mem_singleton]
     exact ⟨.inl, fun h => h.elim id fun e => by omega⟩
  ·exact ⟨out, by rw [fastilaw22_order.l1, if_neg (by omega)], ord_of h1 h2 fun t ht => h3 t (by omega)⟩
theorem order_l0 (N : Nat) (hN : 2 ≤ N ∧ N ≤ 20) (l : List Int) (hl : ∀ x ∈ l, 0 ≤ x ∧ x ≤ 255) (hlen : l.length ≤ 100) : ∀ (d i k : Nat) (out : List Int) (has : List Bool), l.length - i ≤ d → d + 30 ≤ k → i ≤ l.length → has.length = N → out.Nodup → (∀ x ∈ out, 0 ≤ x ∧ x < N) → (∀ t, t < N → (has.getD t false = true ↔ (t : Int) ∈ out)) →
  ∃ out', fastilaw22_order.l0 k N out has l l.length i = some out' ∧ Ord N out' := by
 intro d
 induction d with
 | zero =>
  intro i k out has hd hk hi hh h1 h2 h4
  obtain ⟨k, rfl⟩ : ∃ k', k = k' + 1 := ⟨k - 1, by omega⟩
  rw [fastilaw22_order.l0, if_neg (by omega), hh]
  exact order_l1 N hN.2 has hh N 0 k out (by omega) (by omega) (by omega) h1 h2 (fun t ht => by omega) (fun t _ ht => h4 t ht)
 | succ d ih =>
  intro i k out has hd hk hi hh h1 h2 h4
  obtain ⟨k, rfl⟩ : ∃ k', k = k' + 1 := ⟨k - 1, by omega⟩
  by_cases h : i < l.length
  ·have hle : out.length ≤ N := by
    have h5 : ((List.range N).map fun r : Nat => (r : Int)).Nodup := nodup_map_on (fun a _ b _ h => by omega) List.nodup_range
    have := h1.length_le_of_subset (l₂ := (List.range N).map fun r : Nat => (r : Int)) fun x hx => by
     have := h2 x hx
     exact List.mem_map.2 ⟨x.toNat, List.mem_range.2 (by omega), by omega⟩
    simpa using this
   have hx := hl _ (getD_mem' (d := (0 : Int)) h)
   have e0 : rd l (i : Int) = l.getD i 0 := by rw [rd, Int.toNat_natCast]
   have hm0 := Int.emod_nonneg (l.getD i 0) (show (N : Int) ≠ 0 by omega)
   have hm1 := Int.emod_lt_of_pos (l.getD i 0) (show (0 : Int) < N by omega)
   rw [fastilaw22_order.l0, if_pos (by omega), if_pos (by omega), if_pos (by omega), if_neg (by omega), e0, w64 (x := l.getD i 0) (by omega), Int.tmod_eq_emod_of_nonneg (by omega), if_pos (by omega), if_pos (by omega)]
   generalize l.getD i 0 % (N : Int) = t at *
   rw [rdOf]
   by_cases hb : has.getD t.toNat false = true
   ·rw [if_pos hb, w64 (by omega)]
    exact ih (i + 1) k out has (by omega) (by omega) h hh h1 h2 h4
   ·rw [if_neg hb, if_pos (by omega), w64 (by omega)]
    have hni : t ∉ out := fun hc => hb ((h4 t.toNat (by omega)).2 (by rwa [Int.toNat_of_nonneg hm0]))
    refine ih (i + 1) k (out ++ [t]) (has.set t.toNat true) (by omega) (by omega) h (by rw [List.length_set]; exact hh) ?_ ?_ (fun s hs => ?_)
    ·rw [List.nodup_append]
     refine ⟨h1, by simp, ?_⟩
     rintro a ha b hb2 rfl
     rw [List.mem_singleton] at hb2; subst hb2; exact hni ha
    ·intro x hx
     rcases List.mem_append.1 hx with hx | hx
     ·exact h2 x hx
     ·rw [List.mem_singleton] at hx; subst hx; omega
    ·rw [List.mem_append, List.mem_singleton, List.getD_eq_getElem?_getD]
     by_cases e : t.toNat = s
     ·rw [← e, List.getElem?_set_self (by omega)]
      simp; right; omega
     ·rw [List.getElem?_set_ne e, ← List.getD_eq_getElem?_getD, h4 s hs]
      exact ⟨.inl, fun h => h.elim id fun e2 => by omega⟩
  ·rw [fastilaw22_order.l0, if_neg (by omega), hh]
   exact order_l1 N hN.2 has hh N 0 k out (by omega) (by omega) (by omega) h1 h2 (fun t ht => by omega) (fun t _ ht => h4 t ht)
theorem order_f (N : Nat) (hN : 2 ≤ N ∧ N ≤ 20) (l : List Int) (hl : ∀ x ∈ l, 0 ≤ x ∧ x ≤ 255) (hlen : l.length ≤ 100) : ∃ out, fastilaw22_order.f 200 N l = some out ∧ Ord N out := by
 rw [fastilaw22_order.f, if_pos (by omega), if_pos (by omega), Int.toNat_natCast]
 exact order_l0 N hN l hl hlen l.length 0 200 [] (List.replicate N false) (by omega) (by omega) (by omega) (by simp) (by simp) (fun x h => by cases h) (fun t ht => by rw [List.getD_eq_getElem?_getD, List.getElem?_replicate, if_pos ht]; simp)
def nm (tos : List Int) (t : Int) : Int := tos.getD t.toNat 0
theorem nm_mem {N : Nat} {tos : List Int} (h : Ord N tos) {t : Int} (ht : 0 ≤ t ∧ t < N) : nm tos t ∈ tos := getD_mem' (by rw [h.len]; omega)
theorem nm_rng {N : Nat} {tos : List Int} (h : Ord N tos) {t : Int} (ht : 0 ≤ t ∧ t < N) : 0 ≤ nm tos t ∧ nm tos t < N := h.rng _ (nm_mem h ht)
theorem nm_inj {N : Nat} {tos : List Int} (h : Ord N tos) {s t : Int} (hs : 0 ≤ s ∧ s < N) (ht : 0 ≤ t ∧ t < N) (e : nm tos s = nm tos t) : s = t := by
 have hl := h.len
 unfold nm at e
 rw [List.getD_eq_getElem?_getD, List.getD_eq_getElem?_getD, List.getElem?_eq_getElem (by omega : s.toNat < tos.length), List.getElem?_eq_getElem (by omega : t.toNat < tos.length)] at e
 have e : tos[s.toNat]'(by omega) = tos[t.toNat]'(by omega) := e
 have hp := List.pairwise_iff_getElem.1 h.nodup
 rcases Nat.lt_trichotomy s.toNat t.toNat with h1 | h1 | h1
 ·exact absurd e (hp _ _ _ _ h1)
 ·omega
 ·exact absurd e.symm (hp _ _ _ _ h1)
theorem rounds_le {m : List S45} {R : Int} (hR : 0 ≤ R) : roundsF m ≤ R ↔ ∀ x ∈ m, x.f0 + 1 ≤ R := by
 have key : ∀ (m : List S45) (s : Int), m.foldl rndF s ≤ R ↔ s ≤ R ∧ ∀ x ∈ m, x.f0 + 1 ≤ R := by
  intro m
  induction m with
  | nil => intro s; simp
  | cons x m ih =>
   intro s
   rw [List.foldl_cons, ih]
   unfold rndF
   constructor
   ·rintro ⟨h1, h2⟩
    refine ⟨by omega, fun y hy => ?_⟩
    rcases List.mem_cons.1 hy with rfl | hy
    ·omega
    ·exact h2 y hy
   ·rintro ⟨h1, h2⟩
    have := h2 x (by simp)
    exact ⟨by omega, fun y hy => h2 y (by simp [hy])⟩
 unfold roundsF
 rw [key]
 exact ⟨fun h => h.2, fun h => ⟨hR, h⟩⟩
theorem rounds_ents {m : List S45} {R : Int} (hR : 0 ≤ R) : roundsF m ≤ R ↔ ∀ e ∈ ents m, e.1.2 + 1 ≤ R := by
 rw [rounds_le hR]
 constructor
 ·intro h e he
  obtain ⟨x, hx, h1⟩ := mem_ents.1 he
  have := h x hx
  rcases h1 with rfl | rfl <;> exact this
 ·intro h x hx
  exact h ((x.f1, x.f0), x.f2) (mem_ents.2 ⟨x, hx, .inl rfl⟩)
theorem rounds_nn (m : List S45) : 0 ≤ roundsF m := by
 have key : ∀ (m : List S45) (s : Int), 0 ≤ s → 0 ≤ m.foldl rndF s := by
  intro m
  induction m with
  | nil => intro s h; exact h
  | cons x m ih => intro s h; exact ih _ (by unfold rndF; omega)
 exact key m 0 (Int.le_refl _)
end Go.Proofs.Ytcjpghiceebkfaa.P

/- CarryRenamed: the law's walk. -/
namespace Go.Proofs.Ytcjpghiceebkfaa.P
open Go.RowKit Go.Proofs.YtcjpghiceebkfaaW.PrintWords Go.Proofs.YtcjpghiceebkfaaW.PrintLast Go.Proofs.YtcjpghiceebkfaaW.PrintMore
open XW RegInv
attribute [local irreducible] Addr.add
set_option linter.unusedSimpArgs false
set_option linter.unusedVariables false
theorem mem_of_R {w w' : World} {e : TypeId} {v : Value} {xs : List Int} (h : Kd.R (Kd.int .i64) e w' w.heap.size (fun _ => True) v xs) (hb : Below w.heap.size w w') : ∃ A c, v = rowV A xs.length c ∧ Mem w w' [.row e 1 (sc (Value.int .i64)) A c xs] := by
  obtain ⟨_, inner, hown, hreps⟩ := h
  have hi : inner = xs.flatMap (sc (Value.int .i64)) := by
    have h1 := hreps.1
    rw [show (Kd.int IntKind.i64).sz = 1 from rfl, Nat.mul_one] at h1
    refine List.ext_getElem? fun j => ?_
    rw [flat_int, encs, List.getElem?_map]
    by_cases hj : j < xs.length
    · have := hreps.2 j xs[j] (List.getElem?_eq_getElem hj)
      rw [show (Kd.int IntKind.i64).sz = 1 from rfl, Nat.mul_one, List.drop_eq_getElem_cons (by omega)] at this
      have h2 : inner[j] = .int .i64 xs[j] := by
        have h3 : [inner[j]] = [Value.int .i64 xs[j]] := this
        simpa using h3
      rw [List.getElem?_eq_getElem (by omega), List.getElem?_eq_getElem hj, h2]; rfl
    · rw [List.getElem?_eq_none (by omega), List.getElem?_eq_none (by omega)]; rfl
  subst hi
  obtain ⟨A, c, hv, hok, hA⟩ := rowOk_of (enc := sc (Value.int .i64)) (sz := 1) (fun _ => rfl) hown
  refine ⟨A, c, hv, hb, fun r hr => ?_, fun r hr k hk => ?_, by simp⟩
  · rw [List.mem_singleton] at hr; subst hr; exact hok
  · rw [List.mem_singleton] at hr; subst hr
    have hk' : A = some k := hk
    have h4 := (hA k).1 hk'
    subst hv
    rcases hown.2 with ⟨h5, _⟩ | ⟨g, cp, cur, h5, h6, h7, _⟩
    · rw [h5] at h4; simp [Value.ownBlock] at h4
    · rw [h5] at h4
      simp [Value.ownBlock] at h4
      subst h4
      exact ⟨h6, (Array.getElem?_eq_some_iff.1 h7).1⟩
theorem C_of_row {base w : World} {R : List Res} {e : TypeId} {A : Option Nat} {c : Nat} {xs : List Int} (hw : Mem base w R) (hm : Res.row e 1 (sc (Value.int .i64)) A c xs ∈ R) : Kd.C (Kd.int .i64) w (A.map fun b => ⟨b, 0, none⟩) xs.length xs := by
  have h0 : RowOk e 1 (sc (Value.int .i64)) A c xs w := hw.ok _ hm
  have h2 := ownsRow_of (B := base.heap.size) h0 (fun k hk => (hw.bd _ hm k hk).1)
  rw [flat_int] at h2
  exact (Kd.R_reads' (Kd.R_of_own h2 (fun _ _ => trivial))).2.2
theorem C45_of_row {base w : World} {R : List Res} {A : Option Nat} {c : Nat} {xs : List S45} (hw : Mem base w R) (hm : Res.row 45 3 enc45 A c xs ∈ R) : Kd.C k45 w (A.map fun b => ⟨b, 0, none⟩) xs.length xs := by
  have h0 : RowOk 45 3 enc45 A c xs w := hw.ok _ hm
  have h2 := ownsRow_of (B := base.heap.size) h0 (fun k hk => (hw.bd _ hm k hk).1)
  have h3 : Kd.R k45 45 w base.heap.size (fun _ => True) (rowV A xs.length c) xs := ⟨fun _ _ => trivial, _, h2, reps45 _ _ _ _⟩
  exact (Kd.R_reads' h3).2.2
theorem row_len {base w : World} {R : List Res} {α : Type} {e sz : Nat} {enc : α → List Value} {A : Option Nat} {c : Nat} {xs : List α} (hw : Mem base w R) (hm : Res.row e sz enc A c xs ∈ R) : xs.length ≤ c := (hw.ok _ hm : RowOk e sz enc A c xs w).2.1
theorem order_rets (N : Nat) (hN : 2 ≤ N ∧ N ≤ 20) (A : Option Addr) (c : Nat) (l : List Int) (w : World) (hr : Kd.C (Kd.int .u8) w A l.length l) (hc : l.length ≤ c) (hl : ∀ x ∈ l, 0 ≤ x ∧ x ≤ 255) (hlen : l.length ≤ 100) :
    Rets Try.prog 23 #[.int .i64 N, .slice A l.length c] w fun u w' => ∃ Rs, (∃ A' c' tos, Ord N tos ∧ u = rowV A' N c' ∧ Rs = [.row 3 1 (sc (Value.int .i64)) A' c' tos]) ∧ Mem w w' Rs := by
  obtain ⟨out, h1, h2⟩ := order_f N hN l hl hlen
  refine (fastilaw22_order.calls 200 N A c l out w hr hc h1).mono ?_
  rintro e w' ⟨v, rfl, hR, hb⟩
  obtain ⟨A', c', rfl, hmem⟩ := mem_of_R hR hb
  exact ⟨_, rfl, _, ⟨A', c', out, h2, by rw [h2.len], rfl⟩, hmem⟩
theorem named_of {N : Nat} {m : List S45} {es : Ent} {r : Int} {tos : List Int} (ho : Ord N tos) (hf : foesF N m = some (es, r)) : Named tos m := fun x hx => by
  have := (foesF_inv hf).2.1 x hx
  have hl := ho.len
  unfold bad at this
  omega
theorem E9r : Enters Try.prog 9 := enters Try.func9 (by kernel_rfl) rfl
theorem E13r : Enters Try.prog 13 := enters Try.func13 (by kernel_rfl) rfl
theorem E23 : Enters Try.prog 23 := enters Try.func23 (by kernel_rfl) rfl
theorem E24 : Enters Try.prog 24 := enters Try.func24 (by kernel_rfl) rfl
theorem sane_retsr (w : World) : Rets Try.prog 9 #[] w fun u w' => u = .bool true ∧ Below w.heap.size w w' :=
  (fastilaw22_sane.calls 20 true w sane_at).mono (by rintro e w'' ⟨rfl, hb⟩; exact ⟨_, rfl, rfl, hb⟩)
end Go.Proofs.Ytcjpghiceebkfaa.P
