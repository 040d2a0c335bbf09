import Derived.Test.YtecgklfcblpkdaaP0
import Derived.Test.YtecgklfcblpkdaaXB
import Derived.Test.YtecgklfcblpkdaaXTy
import Derived.Test.YtecgklfcblpkdaaXStr
import Derived.Test.YtecgklfcblpkdaaP1
/- What right meetings are, and their patterns: plain. -/
namespace Go.Proofs.Ytecgklfcblpkdaa.P
open Go.RowKit Go.Proofs.YtecgklfcblpkdaaW.PrintWords Go.Proofs.YtecgklfcblpkdaaW.PrintLast Go.Proofs.YtecgklfcblpkdaaW.PrintMore
open XW
set_option linter.unusedSimpArgs false
set_option linter.unusedVariables false
theorem w64 {x : Int} (h : -9223372036854775808 ≤ x ∧ x ≤ 9223372036854775807) : wrap64 x = x := by unfold wrap64; omega
theorem getD_mem' {α : Type} {l : List α} {k : Nat} {d : α} (h : k < l.length) : l.getD k d ∈ l := by
  rw [List.getD_eq_getElem?_getD, List.getElem?_eq_getElem h]; exact List.getElem_mem h
theorem take_snocD {α : Type} (l : List α) (k : Nat) (d : α) (h : k < l.length) : l.take (k + 1) = l.take k ++ [l.getD k d] := by
  rw [List.take_succ_eq_append_getElem h, List.getD_eq_getElem?_getD, List.getElem?_eq_getElem h]; rfl
abbrev bad (n : Int) (x : S44) : Prop := x.f0 < 0 ∨ x.f0 ≥ 64 ∨ x.f1 < 0 ∨ x.f1 ≥ n ∨ x.f2 < 0 ∨ x.f2 ≥ n ∨ x.f1 = x.f2
def key2 (x : S44) : List (Int × Int) := [(x.f1, x.f0), (x.f2, x.f0)]
def ks (m : List S44) : List (Int × Int) := m.flatMap key2
def okM (n : Int) (m : List S44) : Prop := (∀ x ∈ m, ¬ bad n x) ∧ (ks m).Nodup
instance (n : Int) (m : List S44) : Decidable (okM n m) := by unfold okM; infer_instance
theorem ks_app (a b : List S44) : ks (a ++ b) = ks a ++ ks b := by simp [ks, List.flatMap_append]
theorem okM_nil (n : Int) : okM n [] := ⟨fun x h => (by cases h), (by simp [ks])⟩
theorem okM_snoc {n : Int} {m : List S44} {x : S44} (h : okM n m) : okM n (m ++ [x]) ↔ ¬ bad n x ∧ (x.f1, x.f0) ∉ ks m ∧ (x.f2, x.f0) ∉ ks m := by
  unfold okM
  rw [ks_app, show ks [x] = key2 x by simp [ks], List.nodup_append]
  constructor
  · rintro ⟨h1, _, _, h3⟩
    exact ⟨h1 x (by simp), fun hc => h3 _ hc _ (by simp [key2]) rfl, fun hc => h3 _ hc (x.f2, x.f0) (by simp [key2]) rfl⟩
  · rintro ⟨h1, h2, h3⟩
    have hne : x.f1 ≠ x.f2 := fun e => h1 (by unfold bad; omega)
    refine ⟨fun y hy => ?_, h.2, by simp [key2, hne], ?_⟩
    · rcases List.mem_append.1 hy with hy | hy
      · exact h.1 y hy
      · rw [List.mem_singleton] at hy; subst hy; exact h1
    · rintro a ha b hb rfl
      rcases List.mem_cons.1 hb with rfl | hb
      · exact h2 ha
      · rw [List.mem_singleton] at hb; subst hb; exact h3 ha
theorem okM_pre {n : Int} {a b : List S44} (h : okM n (a ++ b)) : okM n a := by
  refine ⟨fun x hx => h.1 x (by simp [hx]), ?_⟩
  have := h.2
  rw [ks_app] at this
  exact (List.nodup_append.1 this).1
theorem okM_take {n : Int} {m : List S44} (h : okM n m) (k : Nat) : okM n (m.take k) := by
  rw [← List.take_append_drop k m] at h; exact okM_pre h
def lastF (s : Int) (x : S44) : Int := max s x.f0
def lastR (m : List S44) : Int := m.foldl lastF (-1)
theorem last_bd (m : List S44) (h : ∀ x ∈ m, 0 ≤ x.f0 ∧ x.f0 < 64) : ∀ s : Int, -1 ≤ s → s < 64 → (-1 ≤ m.foldl lastF s ∧ m.foldl lastF s < 64) ∧ s ≤ m.foldl lastF s ∧ ∀ x ∈ m, x.f0 ≤ m.foldl lastF s := by
  induction m with
  | nil => intro s h1 h2; exact ⟨⟨h1, h2⟩, Int.le_refl _, fun x h => by cases h⟩
  | cons x m ih =>
    intro s h1 h2
    have hx := h x (by simp)
    obtain ⟨a, b, c⟩ := ih (fun y hy => h y (by simp [hy])) (lastF s x) (by unfold lastF; omega) (by unfold lastF; omega)
    rw [List.foldl_cons]
    refine ⟨a, by unfold lastF at b ⊢; omega, fun y hy => ?_⟩
    rcases List.mem_cons.1 hy with rfl | hy
    · unfold lastF at b ⊢; omega
    · exact c y hy
def setP (M : List (List Int)) (x : S44) : List (List Int) :=
  let M1 := M.set x.f1.toNat ((M.getD x.f1.toNat []).set x.f0.toNat 1)
  M1.set x.f2.toNat ((M1.getD x.f2.toNat []).set x.f0.toNat (-1))
def Z0 (R N : Nat) : List (List Int) := List.replicate N (List.replicate R 0)
def patM (N : Nat) (m : List S44) : List (List Int) := m.foldl setP (Z0 (lastR m + 1).toNat N)
def ofF (n : Int) (m : List S44) : List (List Int) × Int := if n < 2 ∨ n > 20 then ([], 1) else if okM n m then (patM n.toNat m, 0) else ([], 210)
def Rect (R N : Nat) (M : List (List Int)) : Prop := M.length = N ∧ ∀ row ∈ M, row.length = R
theorem Rect.get {R N : Nat} {M : List (List Int)} (h : Rect R N M) {t : Nat} (ht : t < N) : (M.getD t []).length = R := h.2 _ (getD_mem' (by rw [h.1]; exact ht))
theorem Rect.set {R N : Nat} {M : List (List Int)} (h : Rect R N M) {t : Nat} {row : List Int} (hl : row.length = R) : Rect R N (M.set t row) := ⟨by rw [List.length_set]; exact h.1, fun row' hm => by
  rcases List.mem_or_eq_of_mem_set hm with hm | rfl
  · exact h.2 _ hm
  · exact hl⟩
theorem Rect.rep (R N : Nat) : Rect R N (Z0 R N) := ⟨by simp [Z0], fun row h => by rw [Z0] at h; rw [List.eq_of_mem_replicate h]; simp⟩
theorem Rect.pat {R N : Nat} {M : List (List Int)} (h : Rect R N M) {x : S44} (h1 : x.f1.toNat < N) (h2 : x.f2.toNat < N) : Rect R N (setP M x) := by
  have r1 : Rect R N (M.set x.f1.toNat ((M.getD x.f1.toNat []).set x.f0.toNat 1)) := h.set (by rw [List.length_set]; exact h.get h1)
  exact r1.set (by rw [List.length_set]; exact r1.get h2)
def Rep (p : List Nat) (l : List (Int × Int)) : Prop := p.length = 64 ∧ (∀ r, r < 64 → p.getD r 0 < 1048576) ∧ ∀ r t : Nat, r < 64 → t < 20 → ((p.getD r 0).testBit t = true ↔ ((t : Int), (r : Int)) ∈ l)
theorem rep_nil : Rep (List.replicate 64 0) [] := by
  refine ⟨by simp, fun r hr => ?_, fun r t hr ht => ?_⟩
  · rw [List.getD_eq_getElem?_getD, List.getElem?_replicate, if_pos hr]; decide
  · rw [List.getD_eq_getElem?_getD, List.getElem?_replicate, if_pos hr]; simp
theorem both_lt {h a : Nat} (hh : h < 20) (ha : a < 20) : 1 * 2 ^ h ||| 1 * 2 ^ a < 1048576 := Nat.or_lt_two_pow (n := 20) (by rw [Nat.one_mul]; exact Nat.pow_lt_pow_right (by decide) hh) (by rw [Nat.one_mul]; exact Nat.pow_lt_pow_right (by decide) ha)
theorem both_bit (h a t : Nat) : (1 * 2 ^ h ||| 1 * 2 ^ a).testBit t = (decide (h = t) || decide (a = t)) := by
  rw [Nat.one_mul, Nat.one_mul, Nat.testBit_or, Nat.testBit_two_pow, Nat.testBit_two_pow]
theorem and_ne {x h a : Nat} (hx : x < 1048576) : x &&& (1 * 2 ^ h ||| 1 * 2 ^ a) ≠ 0 ↔ x.testBit h = true ∨ x.testBit a = true := by
  constructor
  · intro hne
    obtain ⟨t, ht⟩ := Nat.exists_testBit_of_ne_zero hne
    rw [Nat.testBit_and, both_bit] at ht
    simp only [Bool.and_eq_true, Bool.or_eq_true, decide_eq_true_eq] at ht
    rcases ht.2 with rfl | rfl
    · exact .inl ht.1
    · exact .inr ht.1
  · intro hb hz
    have key : ∀ t, (x &&& (1 * 2 ^ h ||| 1 * 2 ^ a)).testBit t = false := fun t => by rw [hz]; simp
    rcases hb with hb | hb
    · have := key h
      rw [Nat.testBit_and, both_bit, hb] at this; simp at this
    · have := key a
      rw [Nat.testBit_and, both_bit, hb] at this; simp at this
theorem rep_snoc {p : List Nat} {l : List (Int × Int)} (hp : Rep p l) {r h a : Nat} (hr : r < 64) (hh : h < 20) (ha : a < 20) : Rep (p.set r (p.getD r 0 ||| (1 * 2 ^ h ||| 1 * 2 ^ a))) (l ++ [((h : Int), (r : Int)), ((a : Int), (r : Int))]) := by
  obtain ⟨h1, h2, h3⟩ := hp
  refine ⟨by rw [List.length_set]; exact h1, fun s hs => ?_, fun s t hs ht => ?_⟩
  · rw [List.getD_eq_getElem?_getD]
    by_cases e : r = s
    · subst e
      rw [List.getElem?_set_self (by omega)]
      exact Nat.or_lt_two_pow (n := 20) (h2 r hr) (both_lt hh ha)
    · rw [List.getElem?_set_ne e, ← List.getD_eq_getElem?_getD]; exact h2 s hs
  · rw [List.getD_eq_getElem?_getD, List.mem_append]
    by_cases e : r = s
    · subst e
      rw [List.getElem?_set_self (by omega), Option.getD_some, Nat.testBit_or, both_bit, Bool.or_eq_true, h3 r t hr ht]
      simp only [Bool.or_eq_true, decide_eq_true_eq, List.mem_cons, List.not_mem_nil, or_false, Prod.mk.injEq]
      by_cases hA : ((t : Int), (r : Int)) ∈ l
      · simp [hA]
      · simp only [hA, false_or]
        constructor
        · rintro (rfl | rfl)
          · exact .inl ⟨rfl, trivial⟩
          · exact .inr ⟨rfl, trivial⟩
        · rintro (⟨e, _⟩ | ⟨e, _⟩)
          · left; omega
          · right; omega
    · rw [List.getElem?_set_ne e, ← List.getD_eq_getElem?_getD, h3 s t hs ht]
      simp only [List.mem_cons, List.not_mem_nil, or_false, Prod.mk.injEq]
      by_cases hA : ((t : Int), (s : Int)) ∈ l
      · simp [hA]
      · simp only [hA, false_or]
        constructor
        · exact False.elim
        · rintro (⟨_, e2⟩ | ⟨_, e2⟩) <;> exact absurd e2 (by omega)
end Go.Proofs.Ytecgklfcblpkdaa.P

/- patterns.Of: walk. -/
namespace Go.Proofs.Ytecgklfcblpkdaa.P
open Go.RowKit Go.Proofs.YtecgklfcblpkdaaW.PrintWords Go.Proofs.YtecgklfcblpkdaaW.PrintLast Go.Proofs.YtecgklfcblpkdaaW.PrintMore
open XW RegInv
attribute [local irreducible] Addr.add
set_option linter.unusedSimpArgs false
set_option linter.unusedVariables false

theorem C_flat {α : Type} {d : Kd α} {enc : α → List Value} (ho : ∀ {w x cs}, d.K w x cs → cs = enc x) {w : World} {A : Option Addr} {n : Nat} {xs : List α} (h : Kd.C d w A n xs) (z : α) (k : Nat) (hk : k < n) :
    ∃ ad, A = some ad ∧ ∀ j u, (enc (xs.getD k z))[j]? = some u → w.cell? ((ad.add (k * d.sz)).add j) = some u := by
  obtain ⟨ad, c, hA, _, hK, hc⟩ := Kd.C_get h z (k : Int) (by omega) (by omega)
  rw [Int.toNat_natCast] at hK hc
  obtain rfl := ho hK
  exact ⟨ad, hA, fun j u hj => by rw [addr_add_add]; exact hc j u hj⟩
def enc44 (x : S44) : List Value := [.int .i64 x.f0, .int .i64 x.f1, .int .i64 x.f2]
/-- what a call of Of leaves -/
def ofPost (n : Int) (m : List S44) (u : Value) (Rs : List Res) : Prop :=
  if n < 2 ∨ n > 20 then u = .tuple #[.slice none 0 0, .int .i64 1] ∧ Rs = []
  else if okM n m then ∃ bs A c, bs.length = n.toNat ∧ u = .tuple #[.slice (A.map fun b => ⟨b, 0, none⟩) n.toNat c, .int .i64 0] ∧ Rs = [.row 29 1 (sc (gv (lastR m + 1).toNat)) A c bs, .grid 3 (Value.int .i64) bs (patM n.toNat m)]
  else u = .tuple #[.slice none 0 0, .int .i64 210] ∧ Rs = []
theorem ofPost_no {n : Int} {m : List S44} (h1 : ¬ (n < 2 ∨ n > 20)) (k : Nat) (h2 : ¬ okM n (m.take k)) : ofPost n m (.tuple #[.slice none 0 0, .int .i64 210]) [] := by
  rw [ofPost, if_neg h1, if_neg (fun h => h2 (okM_take h k))]; exact ⟨rfl, rfl⟩
def u32v (x : Nat) : Value := .int .u32 (x : Int)
set_option maxHeartbeats 8000000 in
theorem of_rets (n : Int) (A : Option Addr) (c : Nat) (m : List S44) (w : World) (hr : Kd.C k44 w A m.length m) (hc : m.length ≤ c) (hm : m.length ≤ 9223372036854775807) : Rets Try.prog 12 #[.int .i64 n, .slice A m.length c] w fun u w' => ∃ Rs, ofPost n m u Rs ∧ Mem w w' Rs := by
  have hF := wide_wide
  have hmx := hr.2.1
  refine rets_at (n := 122) Try.func12 rfl Try.ntmps12 (by simp) ?_
  (repeat' (first | ((with_reducible refine is_AL ?_); (first | ((with_reducible refine is_guarded ?_); (first | refine At_guard_t rfl (by decide) rfl ?_ | refine At_guard_f hF rfl (by decide) rfl rfl ?_)) | ((with_reducible refine is_move ?_); (refine At_plain hF (by (first | exact (rfl : _ = some (Value.int _ _)) | exact (rfl : _ = some (Value.bool _)))) ?_)) | ((with_reducible refine is_bin ?_); (refine At_plain hF (by (exact (rfl : _ = some (Value.bool _)))) ?_)) | ((with_reducible refine is_assign ?_); (refine At_plain hF (by (first | exact (rfl : _ = some (Value.int _ _)) | exact (rfl : _ = some (Value.slice _ _ _)))) ?_)) | ((with_reducible refine is_pick ?_); (refine At_plain hF (by (exact (rfl : _ = some (Value.bool _)))) ?_)) | with_reducible refine At_nil ?_)) | ((with_reducible refine is_At ?_); (first | with_reducible refine At_seq ?_; intro K hK | with_reducible refine At_region ?_ | with_reducible refine At_skip ?_ | with_reducible refine At_ret ?_ | with_reducible refine At_then_n ?_ | with_reducible refine At_then_r ?_ | with_reducible refine At_go (by assumption) ?_ | ((with_reducible refine is_cond ?_); (refine At_cond_t rfl ?_)))) | (first | ((with_reducible refine is_guarded ?_); (refine At_guard hF rfl (by decide) rfl ?_ ?_ <;> (intro hg; try (simp only [decide_eq_true_eq, decide_eq_false_iff_not, beq_iff_eq, bne_iff_ne, beq_eq_false_iff_ne, bne_eq_false_iff_eq, ne_eq, Bool.not_eq_true', Bool.not_eq_false', Bool.not_true, Bool.not_false, Decidable.not_not] at hg); try (exfalso; first | omega | exact hg True.intro)))) | ((with_reducible refine is_cond ?_); (refine At_cond rfl ?_ ?_ <;> (intro hg; try (simp only [decide_eq_true_eq, decide_eq_false_iff_not, beq_iff_eq, bne_iff_ne, beq_eq_false_iff_ne, bne_eq_false_iff_eq, ne_eq, Bool.not_eq_true', Bool.not_eq_false', Bool.not_true, Bool.not_false, Decidable.not_not] at hg); try (exfalso; first | omega | exact hg True.intro)))))))
  rotate_left
  rotate_left
  · exact At_ret2 rfl (rv_tmp (by decide)) (rv_tmp (by decide)) (fun w' hw' => ⟨_, rfl, [], by rw [ofPost, if_pos (.inl hg)]; exact ⟨rfl, rfl⟩, hw'⟩)
  · exact At_ret2 rfl (rv_tmp (by decide)) (rv_tmp (by decide)) (fun w' hw' => ⟨_, rfl, [], by rw [ofPost, if_pos (.inr hg)]; exact ⟨rfl, rfl⟩, hw'⟩)
  have h20 : ¬ (n < 2 ∨ n > 20) := by omega
  refine At_alloc (cs := buf (sc u32v) (List.replicate 64 0) []) hF (by exact rfl) ?_
  intro b6
  (repeat (first | ((with_reducible refine is_AL ?_); (first | ((with_reducible refine is_move ?_); (refine At_plain hF (by (first | exact (rfl : _ = some (Value.int _ _)) | exact (rfl : _ = some (Value.slice _ _ _)))) ?_)) | ((with_reducible refine is_assign ?_); (refine At_plain hF (by (exact (rfl : _ = some (Value.int _ _)))) ?_)) | ((with_reducible refine is_call ?_); (refine At_len hF rfl ?_)) | with_reducible refine At_nil ?_)) | ((with_reducible refine is_At ?_); (first | with_reducible refine At_seq ?_; intro K hK | with_reducible refine At_block ?_ | with_reducible refine At_region ?_ | with_reducible refine At_then_n ?_ | with_reducible refine At_go (by assumption) ?_))))
  refine At_loop (fun st : Nat × List Nat × Int => [(0, .int .i64 n), (1, .slice A m.length c), (4, .slice none 0 0), (6, .pointer (some ⟨b6, 0, none⟩)), (7, .int .i64 st.2.2), (19, .slice A m.length c), (20, .int .i64 m.length), (21, .int .i64 st.1)])
    (fun st => [.obj b6 (.cells (buf (sc u32v) st.2.1 []) 55)]) (fun st => st.1 ≤ m.length ∧ okM n (m.take st.1) ∧ Rep st.2.1 (ks (m.take st.1)) ∧ st.2.2 = lastR (m.take st.1)) (fun st => m.length - st.1) (0, List.replicate 64 0, -1) ?_ ?_ ⟨Nat.zero_le _, okM_nil n, rep_nil, rfl⟩ ?_
  · (repeat (first | exact List.Sublist.refl _ | exact List.Sublist.slnil | refine List.Sublist.cons_cons _ ?_ | refine List.Sublist.cons _ ?_))
  · (repeat (first | exact True.intro | (refine And.intro ?_ ?_; focus (show _ = (_ : Value); first | exact rfl | (refine Eq.trans (b := Value.int IntKind.i64 _) rfl (congrArg (Value.int IntKind.i64) ?_); omega)))))
  rintro ⟨k, plays, last⟩ ⟨hk, hok, hrep, hlast⟩ K hL ρ0
  simp only at hk hok hrep hlast
  try dsimp only
  (repeat (first | ((with_reducible refine is_AL ?_); (first | ((with_reducible refine is_bin ?_); (refine At_plain hF (by (exact (rfl : _ = some (Value.bool _)))) ?_)) | with_reducible refine At_nil ?_)) | ((with_reducible refine is_At ?_); (first | with_reducible refine At_seq ?_; intro K hK | with_reducible refine At_region ?_ | with_reducible refine At_then_n ?_ | with_reducible refine At_go (by assumption) ?_))))
  ((with_reducible refine is_cond ?_); (refine At_cond rfl ?_ ?_ <;> (intro hg; try (simp only [decide_eq_true_eq, decide_eq_false_iff_not, beq_iff_eq, bne_iff_ne, beq_eq_false_iff_ne, bne_eq_false_iff_eq, ne_eq, Bool.not_eq_true', Bool.not_eq_false', Bool.not_true, Bool.not_false, Decidable.not_not] at hg); try (exfalso; first | omega | exact hg True.intro))))
  · have hlt : k < m.length := by omega
    (repeat ((with_reducible refine is_At ?_); (first | with_reducible refine At_seq ?_; intro K hK | with_reducible refine At_block ?_ | with_reducible refine At_region ?_ | with_reducible refine At_skip ?_ | with_reducible refine At_then_n ?_ | with_reducible refine At_go (by assumption) ?_)))
    obtain ⟨ad, hA, hcell⟩ := C_flat (enc := enc44) (fun h => k44_open h) hr z44 k hlt
    have htk : m.take (k + 1) = m.take k ++ [m.getD k z44] := take_snocD m k z44 hlt
    generalize m.getD k z44 = x at hcell htk
    have hno : (bad n x ∨ (x.f1, x.f0) ∈ ks (m.take k) ∨ (x.f2, x.f0) ∈ ks (m.take k)) → ofPost n m (.tuple #[.slice none 0 0, .int .i64 210]) [] := fun h => ofPost_no h20 (k + 1) (by
      rw [htk, okM_snoc hok]; rintro ⟨h1, h2, h3⟩
      rcases h with h | h | h
      · exact h1 h
      · exact h2 h
      · exact h3 h)
    refine At_indexC (k := k) hF (by exact rfl) hA (by exact rfl) (by omega) ?_
    refine At_loadCS (vs := [.int .i64 x.f0, .int .i64 x.f1, .int .i64 x.f2]) hF (by exact rfl) (by exact rfl) hcell ?_
    clear hA hcell
    ((repeat (first | ((with_reducible refine is_AL ?_); (first | ((with_reducible refine is_move ?_); (refine At_plain hF (by (exact (rfl : _ = some (Value.bool _)))) ?_)) | ((with_reducible refine is_bin ?_); (refine At_plain hF (by (exact (rfl : _ = some (Value.bool _)))) ?_)) | ((with_reducible refine is_field ?_); (refine At_field hF rfl ?_)) | ((with_reducible refine is_load ?_); (refine At_load hF 0 rfl rfl (by (exact (rfl : _ = some (Value.int _ _)))) ?_)) | ((with_reducible refine is_store ?_); (refine At_storeB_0 hF rfl rfl rfl rfl (by simp [Value.one1, epair]) ?_)) | with_reducible refine At_nil ?_)) | ((with_reducible refine is_At ?_); (first | with_reducible refine At_seq ?_; intro K hK | with_reducible refine At_region ?_ | with_reducible refine At_then_n ?_ | with_reducible refine At_go (by assumption) ?_)))); ((with_reducible refine is_alloc ?_); (refine At_alloc hF (by (exact (rfl : _ = List.toArray (_ :: _)))) ?_; intro b9)); (repeat (first | ((with_reducible refine is_AL ?_); (first | ((with_reducible refine is_move ?_); (refine At_plain hF (by (exact (rfl : _ = some (Value.bool _)))) ?_)) | ((with_reducible refine is_bin ?_); (refine At_plain hF (by (exact (rfl : _ = some (Value.bool _)))) ?_)) | ((with_reducible refine is_field ?_); (refine At_field hF rfl ?_)) | ((with_reducible refine is_load ?_); (refine At_load hF 0 rfl rfl (by (exact (rfl : _ = some (Value.int _ _)))) ?_)) | ((with_reducible refine is_store ?_); (refine At_storeB_0 hF rfl rfl rfl rfl (by simp [Value.one1, epair]) ?_)) | with_reducible refine At_nil ?_)) | ((with_reducible refine is_At ?_); (first | with_reducible refine At_seq ?_; intro K hK | with_reducible refine At_region ?_ | with_reducible refine At_then_n ?_ | with_reducible refine At_go (by assumption) ?_)))))
    (repeat' (first | ((with_reducible refine is_AL ?_); (first | ((with_reducible refine is_guarded ?_); (first | refine At_guard_t rfl (by decide) rfl ?_ | refine At_guard_f hF rfl (by decide) rfl rfl ?_)) | ((with_reducible refine is_move ?_); (refine At_plain hF (by (first | exact (rfl : _ = some (Value.int _ _)) | exact (rfl : _ = some (Value.bool _)))) ?_)) | ((with_reducible refine is_bin ?_); (refine At_plain hF (by (exact (rfl : _ = some (Value.bool _)))) ?_)) | ((with_reducible refine is_assign ?_); (refine At_plain hF (by (first | exact (rfl : _ = some (Value.int _ _)) | exact (rfl : _ = some (Value.slice _ _ _)))) ?_)) | ((with_reducible refine is_pick ?_); (refine At_plain hF (by (exact (rfl : _ = some (Value.bool _)))) ?_)) | ((with_reducible refine is_field ?_); (refine At_field hF rfl ?_)) | ((with_reducible refine is_load ?_); (refine At_load hF 0 rfl rfl (by (exact (rfl : _ = some (Value.int _ _)))) ?_)) | with_reducible refine At_nil ?_)) | ((with_reducible refine is_At ?_); (first | with_reducible refine At_seq ?_; intro K hK | with_reducible refine At_region ?_ | with_reducible refine At_skip ?_ | with_reducible refine At_ret ?_ | with_reducible refine At_then_n ?_ | with_reducible refine At_then_r ?_ | with_reducible refine At_inb_r ?_ | with_reducible refine At_go (by assumption) ?_ | ((with_reducible refine is_cond ?_); (refine At_cond_t rfl ?_)))) | (first | ((with_reducible refine is_guarded ?_); (refine At_guard hF rfl (by decide) rfl ?_ ?_ <;> (intro hg; try (simp only [decide_eq_true_eq, decide_eq_false_iff_not, beq_iff_eq, bne_iff_ne, beq_eq_false_iff_ne, bne_eq_false_iff_eq, ne_eq, Bool.not_eq_true', Bool.not_eq_false', Bool.not_true, Bool.not_false, Decidable.not_not] at hg); try (exfalso; first | omega | exact hg True.intro)))) | ((with_reducible refine is_cond ?_); (refine At_cond rfl ?_ ?_ <;> (intro hg; try (simp only [decide_eq_true_eq, decide_eq_false_iff_not, beq_iff_eq, bne_iff_ne, beq_eq_false_iff_ne, bne_eq_false_iff_eq, ne_eq, Bool.not_eq_true', Bool.not_eq_false', Bool.not_true, Bool.not_false, Decidable.not_not] at hg); try (exfalso; first | omega | exact hg True.intro)))))))
    all_goals try (exact At_ret2 rfl (rv_tmp (by decide)) (rv_tmp (by decide)) (At.sub (List.nil_sublist _) (fun w' hw' => ⟨_, rfl, [], hno (.inl (by unfold bad; omega)), hw'⟩)))
    have hnb : ¬ bad n x := by unfold bad; omega
    obtain ⟨xr, xh, xa⟩ := x
    simp only at *
    obtain ⟨r, rfl⟩ : ∃ r : Nat, xr = r := ⟨xr.toNat, by omega⟩
    obtain ⟨h, rfl⟩ : ∃ h : Nat, xh = h := ⟨xh.toNat, by omega⟩
    obtain ⟨a, rfl⟩ : ∃ a : Nat, xa = a := ⟨xa.toNat, by omega⟩
    have hh20 : h < 20 := by omega
    have ha20 : a < 20 := by omega
    have hr64 : r < 64 := by omega
    have hph : 1 * 2 ^ h < 1048576 := by rw [Nat.one_mul]; exact Nat.pow_lt_pow_right (n := 20) (by decide) hh20
    have hpa : 1 * 2 ^ a < 1048576 := by rw [Nat.one_mul]; exact Nat.pow_lt_pow_right (n := 20) (by decide) ha20
    have hpb := both_lt hh20 ha20
    have hpl := hrep.1
    have hpr : plays.getD r default < 1048576 := hrep.2.1 r hr64
    have hbh : (plays.getD r default).testBit h = true ↔ ((h : Int), (r : Int)) ∈ ks (m.take k) := hrep.2.2 r h hr64 hh20
    have hba : (plays.getD r default).testBit a = true ↔ ((a : Int), (r : Int)) ∈ ks (m.take k) := hrep.2.2 r a hr64 ha20
    have hrs := rep_snoc hrep hr64 hh20 ha20
    have hpo : plays.getD r default ||| (1 * 2 ^ h ||| 1 * 2 ^ a) < 1048576 := Nat.or_lt_two_pow (n := 20) hpr hpb
    refine At_draw hF 7 (by kernel_rfl) (by decide +kernel) ?_; simp only [List.take_succ_cons, List.take_zero, List.drop_succ_cons, List.drop_zero]; (repeat ((with_reducible refine is_AQc ?_); refine AQ_cons (by intro K Q hK; (repeat (first | ((with_reducible refine is_field ?_); (refine At_field hF rfl ?_)) | ((with_reducible refine is_load ?_); (refine At_load hF 0 rfl rfl (by (exact (rfl : _ = some (Value.int _ _)))) ?_)))); exact At_nilK hK) ?_))
    refine AQ_cons (by intro K Q hK; refine At_shl (a := 1) (b := h) hF (by exact rfl) (by exact rfl) (by omega) (by omega) ?_; exact At_nilK hK) ?_
    (repeat ((with_reducible refine is_AQc ?_); refine AQ_cons (by intro K Q hK; (repeat (first | ((with_reducible refine is_field ?_); (refine At_field hF rfl ?_)) | ((with_reducible refine is_load ?_); (refine At_load hF 0 rfl rfl (by (exact (rfl : _ = some (Value.int _ _)))) ?_)))); exact At_nilK hK) ?_))
    refine AQ_cons (by intro K Q hK; refine At_shl (a := 1) (b := a) hF (by exact rfl) (by exact rfl) (by omega) (by omega) ?_; exact At_nilK hK) ?_
    (repeat ((with_reducible refine is_AQc ?_); refine AQ_cons (by intro K Q hK; skip; exact At_nilK hK) ?_))
    refine AQ_cons (by intro K Q hK; refine At_or (a := 1 * 2 ^ h) (b := 1 * 2 ^ a) hF (by exact rfl) (by exact rfl) (by omega) (by omega) ?_; exact At_nilK hK) ?_
    (repeat ((with_reducible refine is_AQc ?_); refine AQ_cons (by intro K Q hK; skip; exact At_nilK hK) ?_)); refine AQ_done ?_
    have hane := and_ne (h := h) (a := a) hpr
    generalize 1 * 2 ^ h ||| 1 * 2 ^ a = both at *
    (repeat (first | ((with_reducible refine is_AL ?_); (first | ((with_reducible refine is_move ?_); (refine At_plain hF (by (exact (rfl : _ = some (Value.int _ _)))) ?_)) | ((with_reducible refine is_assign ?_); (refine At_plain hF (by (exact (rfl : _ = some (Value.int _ _)))) ?_)) | ((with_reducible refine is_field ?_); (refine At_field hF rfl ?_)) | ((with_reducible refine is_load ?_); (first | refine At_load hF 0 rfl rfl (by (exact (rfl : _ = some (Value.int _ _)))) ?_ | refine At_load hF 1 rfl rfl (by (exact buf_getI _ (by omega))) ?_)) | ((with_reducible refine is_index ?_); (refine At_indexA1 hF rfl rfl rfl rfl (by first | decide | (simp only [TArr.m]; omega)) ?_)) | with_reducible refine At_nil ?_)) | ((with_reducible refine is_At ?_); (first | with_reducible refine At_seq ?_; intro K hK | with_reducible refine At_region ?_ | with_reducible refine At_then_n ?_ | with_reducible refine At_go (by assumption) ?_))))
    refine At_and (a := plays.getD r default) (b := both) hF (by exact rfl) (by exact rfl) (by omega) (by omega) ?_
    (repeat (first | ((with_reducible refine is_AL ?_); (first | ((with_reducible refine is_bin ?_); (refine At_plain hF (by (exact (rfl : _ = some (Value.bool _)))) ?_)) | with_reducible refine At_nil ?_)) | ((with_reducible refine is_At ?_); (first | with_reducible refine At_then_n ?_ | with_reducible refine At_go (by assumption) ?_))))
    ((with_reducible refine is_cond ?_); (refine At_cond rfl ?_ ?_ <;> (intro hg; try (simp only [decide_eq_true_eq, decide_eq_false_iff_not, beq_iff_eq, bne_iff_ne, beq_eq_false_iff_ne, bne_eq_false_iff_eq, ne_eq, Bool.not_eq_true', Bool.not_eq_false', Bool.not_true, Bool.not_false, Decidable.not_not] at hg); try (exfalso; first | omega | exact hg True.intro))))
    · have hc := hane.1 (by omega)
      (repeat (first | ((with_reducible refine is_AL ?_); (first | ((with_reducible refine is_assign ?_); (refine At_plain hF (by (first | exact (rfl : _ = some (Value.int _ _)) | exact (rfl : _ = some (Value.slice _ _ _)))) ?_)) | with_reducible refine At_nil ?_)) | ((with_reducible refine is_At ?_); (first | with_reducible refine At_seq ?_; intro K hK | with_reducible refine At_region ?_ | with_reducible refine At_ret ?_ | with_reducible refine At_then_n ?_ | with_reducible refine At_then_r ?_ | with_reducible refine At_inb_r ?_ | with_reducible refine At_go (by assumption) ?_))))
      exact At_ret2 rfl (rv_tmp (by decide)) (rv_tmp (by decide)) (At.sub (List.nil_sublist _) (fun w' hw' => ⟨_, rfl, [], hno (.inr (hc.imp hbh.1 hba.1)), hw'⟩))
    · have hnc : ¬ ((plays.getD r default).testBit h = true ∨ (plays.getD r default).testBit a = true) := fun hc => by
        have := hane.2 hc; omega
      have hok1 : okM n (m.take (k + 1)) := by
        rw [htk, okM_snoc hok]
        exact ⟨hnb, fun hc => hnc (.inl (hbh.2 hc)), fun hc => hnc (.inr (hba.2 hc))⟩
      (repeat (first | ((with_reducible refine is_AL ?_); (first | ((with_reducible refine is_move ?_); (refine At_plain hF (by (exact (rfl : _ = some (Value.int _ _)))) ?_)) | ((with_reducible refine is_field ?_); (refine At_field hF rfl ?_)) | ((with_reducible refine is_load ?_); (first | refine At_load hF 0 rfl rfl (by (exact (rfl : _ = some (Value.int _ _)))) ?_ | refine At_load hF 1 rfl rfl (by (exact buf_getI _ (by omega))) ?_)) | ((with_reducible refine is_index ?_); (refine At_indexA1 hF rfl rfl rfl rfl (by first | decide | (simp only [TArr.m]; omega)) ?_)))) | ((with_reducible refine is_At ?_); (first | with_reducible refine At_seq ?_; intro K hK | with_reducible refine At_region ?_ | with_reducible refine At_skip ?_ | with_reducible refine At_then_n ?_ | with_reducible refine At_go (by assumption) ?_))))
      refine At_or (a := plays.getD r default) (b := both) hF (by exact rfl) (by exact rfl) (by omega) (by omega) ?_
      (repeat (first | ((with_reducible refine is_AL ?_); (first | ((with_reducible refine is_move ?_); (refine At_plain hF (by (exact (rfl : _ = some (Value.int _ _)))) ?_)) | ((with_reducible refine is_bin ?_); ((with_reducible refine is_badd ?_); (refine At_add hF rfl rfl (by omega) ?_))) | ((with_reducible refine is_assign ?_); (refine At_plain hF (by (exact (rfl : _ = some (Value.int _ _)))) ?_)) | ((with_reducible refine is_call ?_); (refine At_max hF rfl rfl ?_)) | ((with_reducible refine is_field ?_); (refine At_field hF rfl ?_)) | ((with_reducible refine is_load ?_); (refine At_load hF 0 rfl rfl (by (exact (rfl : _ = some (Value.int _ _)))) ?_)) | ((with_reducible refine is_index ?_); (refine At_indexA1 hF rfl rfl rfl rfl (by first | decide | (simp only [TArr.m]; omega)) ?_)) | ((with_reducible refine is_store ?_); (refine At_store_1 hF rfl (by (exact (rfl : _ = (Value.int _ _)))) (by (simp [buf_size1]; omega)) (by exact rfl) (by exact rfl) (by (exact buf_set1 _ (by omega))) ?_)) | with_reducible refine At_nil ?_)) | ((with_reducible refine is_At ?_); (first | with_reducible refine At_region ?_ | with_reducible refine At_then_n ?_ | with_reducible refine At_inb_n ?_ | with_reducible refine At_go (by assumption) ?_))))
      refine At.sub ?_ (hL (k + 1, plays.set r (plays.getD r default ||| both), max last r) _ ⟨hlt, hok1, by rw [htk, ks_app]; exact hrs, by simp only; rw [htk, lastR, List.foldl_append, hlast]; rfl⟩ (by simp only; omega) ?_)
      · (repeat (first | exact List.Sublist.refl _ | exact List.Sublist.slnil | refine List.Sublist.cons_cons _ ?_ | refine List.Sublist.cons _ ?_))
      · (repeat (first | exact True.intro | (refine And.intro ?_ ?_; focus (show _ = (_ : Value); first | exact rfl | (refine Eq.trans (b := Value.int IntKind.i64 _) rfl (congrArg (Value.int IntKind.i64) ?_); omega)))))
  · obtain rfl : k = m.length := by omega
    rw [List.take_length] at hok hlast
    have hbd := last_bd m (fun x hx => by have := hok.1 x hx; unfold bad at this; omega) (-1) (by omega) (by omega)
    obtain ⟨R, hR⟩ : ∃ R : Nat, lastR m + 1 = R := ⟨(lastR m + 1).toNat, by have := hbd.1.1; unfold lastR; omega⟩
    have hR64 : R ≤ 64 := by have := hbd.1.2; unfold lastR at hR; omega
    have hxr : ∀ x ∈ m, x.f0 < R := fun x hx => by have := hbd.2.2 x hx; unfold lastR at hR; omega
    obtain ⟨N, rfl⟩ : ∃ N : Nat, n = N := ⟨n.toNat, by omega⟩
    obtain rfl : last = (R : Int) - 1 := by omega
    have hpost : ∀ u Rs, (∃ bs A c, bs.length = N ∧ u = .tuple #[.slice (A.map fun b => ⟨b, 0, none⟩) N c, .int .i64 0] ∧ Rs = [.row 29 1 (sc (gv R)) A c bs, .grid 3 (Value.int .i64) bs (m.foldl setP (Z0 R N))]) → ofPost N m u Rs := by
      intro u Rs h
      rw [ofPost, if_neg h20, if_pos hok, Int.toNat_natCast, patM, hR, Int.toNat_natCast]
      exact h
    (repeat (first | ((with_reducible refine is_AL ?_); (first | ((with_reducible refine is_move ?_); (refine At_plain hF (by (exact (rfl : _ = some (Value.int _ _)))) ?_)) | with_reducible refine At_nil ?_)) | ((with_reducible refine is_At ?_); (first | with_reducible refine At_seq ?_; intro K hK | with_reducible refine At_block ?_ | with_reducible refine At_region ?_ | with_reducible refine At_exit ?_ | with_reducible refine At_then_n ?_ | with_reducible refine At_then_e ?_ | with_reducible refine At_inb_e rfl ?_ | with_reducible refine At_go (by assumption) ?_))))
    refine At.newNil 29 1 (sc (gv R)) (fun _ => rfl) ?_
    refine At.gridNew 3 (Value.int .i64) ?_
    refine At_loop (fun st : Nat × List Nat × Option Nat × Nat => [(0, .int .i64 N), (1, .slice A m.length c), (4, .slice (st.2.2.1.map fun b => ⟨b, 0, none⟩) st.1 st.2.2.2), (7, .int .i64 ((R : Int) - 1)), (88, .int .i64 N), (89, .int .i64 st.1)])
      (fun st => [.grid 3 (Value.int .i64) st.2.1 (Z0 R st.1), .row 29 1 (sc (gv R)) st.2.2.1 st.2.2.2 st.2.1]) (fun st => st.1 ≤ N ∧ st.2.1.length = st.1) (fun st => N - st.1) (0, [], none, 0) ?_ ?_ ⟨Nat.zero_le _, rfl⟩ ?_
    · (repeat (first | exact List.Sublist.refl _ | exact List.Sublist.slnil | refine List.Sublist.cons_cons _ ?_ | refine List.Sublist.cons _ ?_))
    · (repeat (first | exact True.intro | (refine And.intro ?_ ?_; focus (show _ = (_ : Value); first | exact rfl | (refine Eq.trans (b := Value.int IntKind.i64 _) rfl (congrArg (Value.int IntKind.i64) ?_); omega)))))
    rintro ⟨i, bs, Ao, co⟩ ⟨hi, hbs⟩ K hL ρ1
    simp only at hi hbs
    try dsimp only
    (repeat (first | ((with_reducible refine is_AL ?_); (first | ((with_reducible refine is_bin ?_); (refine At_plain hF (by (exact (rfl : _ = some (Value.bool _)))) ?_)) | with_reducible refine At_nil ?_)) | ((with_reducible refine is_At ?_); (first | with_reducible refine At_seq ?_; intro K hK | with_reducible refine At_region ?_ | with_reducible refine At_then_n ?_ | with_reducible refine At_go (by assumption) ?_))))
    ((with_reducible refine is_cond ?_); (refine At_cond rfl ?_ ?_ <;> (intro hg; try (simp only [decide_eq_true_eq, decide_eq_false_iff_not, beq_iff_eq, bne_iff_ne, beq_eq_false_iff_ne, bne_eq_false_iff_eq, ne_eq, Bool.not_eq_true', Bool.not_eq_false', Bool.not_true, Bool.not_false, Decidable.not_not] at hg); try (exfalso; first | omega | exact hg True.intro))))
    · have hlt : i < N := by omega
      (repeat (first | ((with_reducible refine is_AL ?_); (first | ((with_reducible refine is_move ?_); (refine At_plain hF (by (first | exact (rfl : _ = some (Value.int _ _)) | exact (rfl : _ = some (Value.slice _ _ _)))) ?_)) | ((with_reducible refine is_bin ?_); ((with_reducible refine is_badd ?_); (refine At_add hF rfl rfl (by omega) ?_))))) | ((with_reducible refine is_At ?_); (first | with_reducible refine At_seq ?_; intro K hK | with_reducible refine At_block ?_ | with_reducible refine At_region ?_ | with_reducible refine At_skip ?_ | with_reducible refine At_then_n ?_ | with_reducible refine At_go (by assumption) ?_))))
      rw [show (R : Int) - 1 + 1 = R by omega]
      (refine At_make hF (Value.int .i64) 0 rfl rfl rfl rfl (by exact rfl) (by exact rfl) (by simp only [TS.bytes] <;> omega) (by omega) ?_; intro bi)
      (skip; ((with_reducible refine is_bslice ?_); (refine At_slice1_1 hF (by decide) (by (exact (rfl : _ = (Value.slice _ _ _)))) rfl ?_; intro bl)); skip)
      refine At_append_3 hF 0 rfl rfl (by simp [hbs]) rfl (x0 := bi) rfl (by decide) (by simp [Value.one1]) (by simp only [TS.bytes]; omega) (by omega) ?_
      intro A2 c2
      (repeat (first | ((with_reducible refine is_AL ?_); (first | ((with_reducible refine is_move ?_); (refine At_plain hF (by (exact (rfl : _ = some (Value.int _ _)))) ?_)) | ((with_reducible refine is_bin ?_); ((with_reducible refine is_badd ?_); (refine At_add hF rfl rfl (by omega) ?_))) | ((with_reducible refine is_assign ?_); (refine At_plain hF (by (exact (rfl : _ = some (Value.slice _ _ _)))) ?_)) | with_reducible refine At_nil ?_)) | ((with_reducible refine is_At ?_); (first | with_reducible refine At_region ?_ | with_reducible refine At_then_n ?_ | with_reducible refine At_inb_n ?_ | with_reducible refine At_go (by assumption) ?_))))
      (refine At.pick [1, 2, 3] (by decide) (R' := [_, _, _]) rfl ?_)
      refine At.gridPush ?_
      rw [hbs, show Z0 R i ++ [List.replicate R 0] = Z0 R (i + 1) from (List.replicate_succ' ..).symm]
      refine At.sub ?_ (hL (i + 1, bs ++ [bi], A2, c2) _ ⟨hlt, by simp [hbs]⟩ (by simp only; omega) ?_)
      · (repeat (first | exact List.Sublist.refl _ | exact List.Sublist.slnil | refine List.Sublist.cons_cons _ ?_ | refine List.Sublist.cons _ ?_))
      · (repeat (first | exact True.intro | (refine And.intro ?_ ?_; focus (show _ = (_ : Value); first | exact rfl | (refine Eq.trans (b := Value.int IntKind.i64 _) rfl (congrArg (Value.int IntKind.i64) ?_); omega)))))
    · obtain rfl : i = N := by omega
      refine At_rowSome 1 rfl (by omega) ?_
      rintro bo rfl
      (repeat (first | ((with_reducible refine is_AL ?_); (first | ((with_reducible refine is_move ?_); (refine At_plain hF (by (first | exact (rfl : _ = some (Value.int _ _)) | exact (rfl : _ = some (Value.slice _ _ _)))) ?_)) | ((with_reducible refine is_call ?_); (refine At_len hF rfl ?_)) | with_reducible refine At_nil ?_)) | ((with_reducible refine is_At ?_); (first | with_reducible refine At_seq ?_; intro K hK | with_reducible refine At_block ?_ | with_reducible refine At_region ?_ | with_reducible refine At_exit ?_ | with_reducible refine At_then_n ?_ | with_reducible refine At_then_e ?_ | with_reducible refine At_inb_e rfl ?_ | with_reducible refine At_go (by assumption) ?_))))
      refine At_loop (fun st : Nat × List (List Int) => [(0, .int .i64 i), (4, .slice (some ⟨bo, 0, none⟩) i co), (98, .slice A m.length c), (99, .int .i64 m.length), (100, .int .i64 st.1)])
        (fun st => [.grid 3 (Value.int .i64) bs st.2, .row 29 1 (sc (gv R)) (some bo) co bs]) (fun st => st.1 ≤ m.length ∧ st.2 = (m.take st.1).foldl setP (Z0 R i) ∧ Rect R i st.2) (fun st => m.length - st.1) (0, Z0 R i) ?_ ?_ ⟨Nat.zero_le _, rfl, Rect.rep R i⟩ ?_
      · (repeat (first | exact List.Sublist.refl _ | exact List.Sublist.slnil | refine List.Sublist.cons_cons _ ?_ | refine List.Sublist.cons _ ?_))
      · (repeat (first | exact True.intro | (refine And.intro ?_ ?_; focus (show _ = (_ : Value); first | exact rfl | (refine Eq.trans (b := Value.int IntKind.i64 _) rfl (congrArg (Value.int IntKind.i64) ?_); omega)))))
      rintro ⟨k, M⟩ ⟨hk2, hM, hRect⟩ K hI ρ2
      simp only at hk2 hM hRect
      try dsimp only
      (repeat (first | ((with_reducible refine is_AL ?_); (first | ((with_reducible refine is_bin ?_); (refine At_plain hF (by (exact (rfl : _ = some (Value.bool _)))) ?_)) | with_reducible refine At_nil ?_)) | ((with_reducible refine is_At ?_); (first | with_reducible refine At_seq ?_; intro K hK | with_reducible refine At_region ?_ | with_reducible refine At_then_n ?_ | with_reducible refine At_go (by assumption) ?_))))
      ((with_reducible refine is_cond ?_); (refine At_cond rfl ?_ ?_ <;> (intro hg; try (simp only [decide_eq_true_eq, decide_eq_false_iff_not, beq_iff_eq, bne_iff_ne, beq_eq_false_iff_ne, bne_eq_false_iff_eq, ne_eq, Bool.not_eq_true', Bool.not_eq_false', Bool.not_true, Bool.not_false, Decidable.not_not] at hg); try (exfalso; first | omega | exact hg True.intro))))
      · have hlt : k < m.length := by omega
        (repeat ((with_reducible refine is_At ?_); (first | with_reducible refine At_seq ?_; intro K hK | with_reducible refine At_block ?_ | with_reducible refine At_region ?_ | with_reducible refine At_skip ?_ | with_reducible refine At_then_n ?_ | with_reducible refine At_go (by assumption) ?_)))
        obtain ⟨ad, hA, hcell⟩ := C_flat (enc := enc44) (fun h => k44_open h) hr z44 k hlt
        have htk : m.take (k + 1) = m.take k ++ [m.getD k z44] := take_snocD m k z44 hlt
        have hnb := hok.1 _ (getD_mem' (d := z44) hlt)
        have hx0 := hxr _ (getD_mem' (d := z44) hlt)
        generalize m.getD k z44 = x at hcell htk hnb hx0
        unfold bad at hnb
        refine At_indexC (k := k) hF (by exact rfl) hA (by exact rfl) (by omega) ?_
        refine At_loadCS (vs := [.int .i64 x.f0, .int .i64 x.f1, .int .i64 x.f2]) hF (by exact rfl) (by exact rfl) hcell ?_
        clear hA hcell
        ((repeat (first | ((with_reducible refine is_AL ?_); (first | ((with_reducible refine is_store ?_); (refine At_storeB_0 hF rfl rfl rfl rfl (by simp [Value.one1, epair]) ?_)) | with_reducible refine At_nil ?_)) | ((with_reducible refine is_At ?_); (first | with_reducible refine At_then_n ?_ | with_reducible refine At_go (by assumption) ?_)))); ((with_reducible refine is_alloc ?_); (refine At_alloc hF (by (exact (rfl : _ = List.toArray (_ :: _)))) ?_; intro b12)); (repeat (first | ((with_reducible refine is_AL ?_); (first | ((with_reducible refine is_store ?_); (refine At_storeB_0 hF rfl rfl rfl rfl (by simp [Value.one1, epair]) ?_)) | with_reducible refine At_nil ?_)) | ((with_reducible refine is_At ?_); (first | with_reducible refine At_then_n ?_ | with_reducible refine At_go (by assumption) ?_)))))
        obtain ⟨xr, xh, xa⟩ := x
        simp only at hnb hx0
        obtain ⟨r, rfl⟩ : ∃ r : Nat, xr = r := ⟨xr.toNat, by omega⟩
        obtain ⟨h, rfl⟩ : ∃ h : Nat, xh = h := ⟨xh.toNat, by omega⟩
        obtain ⟨a, rfl⟩ : ∃ a : Nat, xa = a := ⟨xa.toNat, by omega⟩
        have hMl := hRect.1
        have hl1 := hRect.get (t := h) (by omega)
        have hl2 := hRect.get (t := a) (by omega)
        have hR2 : Rect R i (setP M ⟨r, h, a⟩) := hRect.pat (by simp only; omega) (by simp only; omega)
        have hsn : (m.take (k + 1)).foldl setP (Z0 R i) = setP M ⟨r, h, a⟩ := by rw [htk, List.foldl_append, ← hM]; rfl
        refine At_open 2 rfl (by omega) ?_
        rintro b junk hbo hj1 hj2 hj3
        cases hbo
        simp only [List.set_cons_succ, List.set_cons_zero]
        refine At_drawE hF 18 [0, 1, 2, 3, 4, 5, 6, 7, 8, 9, 10, 11, 12, 13, 14, 16] [0, 1, 2, 3, 4, 5, 6, 7, 8, 9, 10, 11, 14] [15, 17] ([.obj b12 (.cells #[.int .i64 r, .int .i64 h, .int .i64 a] 44), .obj bo (.cells (buf (sc (gv R)) bs junk) 29)]) (by kernel_rfl) (by decide +kernel) (by decide +kernel) ?_; simp only [List.drop_succ_cons, List.drop_zero]; (repeat ((with_reducible refine is_AQF ?_); first | refine AQF_early (by decide) (by exact (rfl : _ = some (Oper.mk _ _ _ _ _ _))) (by intro K Q hK; (repeat (first | ((with_reducible refine is_move ?_); (refine At_plain hF (by (exact (rfl : _ = some (Value.slice _ _ _)))) ?_)) | ((with_reducible refine is_field ?_); (refine At_field hF rfl ?_)) | ((with_reducible refine is_load ?_); (first | refine At_load hF 0 rfl rfl (by (exact (rfl : _ = some (Value.int _ _)))) ?_ | refine At_load hF 2 rfl rfl (by (exact buf_getI _ (by omega))) ?_)) | ((with_reducible refine is_index ?_); (refine At_indexS1 hF rfl rfl rfl (by omega) ?_)))); exact At_nilK hK) ?_ | refine AQF_late (by decide) (by exact (rfl : _ = some (Oper.mk _ _ _ _ _ _))) (by intro E K Q hK; simp only [List.cons_append, List.nil_append] at hK ⊢; (repeat (first | ((with_reducible refine is_move ?_); (refine At_plain hF (by (exact (rfl : _ = some (Value.slice _ _ _)))) ?_)) | ((with_reducible refine is_field ?_); (refine At_field hF rfl ?_)) | ((with_reducible refine is_load ?_); (first | refine At_load hF 0 rfl rfl (by (exact (rfl : _ = some (Value.int _ _)))) ?_ | refine At_load hF 2 rfl rfl (by (exact buf_getI _ (by omega))) ?_)) | ((with_reducible refine is_index ?_); (refine At_indexS1 hF rfl rfl rfl (by omega) ?_)))); exact At_nilK hK) ?_))
        refine AQF_done ?_
        have hset : setP M ⟨r, h, a⟩ = (M.set h ((M.getD h []).set r 1)).set a (((M.set h ((M.getD h []).set r 1)).getD a []).set r (-1)) := rfl
        have hRect1 : Rect R i (M.set h ((M.getD h []).set r 1)) := hRect.set (by rw [List.length_set]; exact hl1)
        have hM1l := hRect1.1
        have hl3 := hRect1.get (t := a) (by omega)
        (refine WAt_cons ?_ (by exact (rfl : _ = some (Oper.mk _ _ _ _ _ _))) ?_; (focus (repeat (first | exact List.Sublist.refl _ | exact List.Sublist.slnil | refine List.Sublist.cons_cons _ ?_ | refine List.Sublist.cons _ ?_))); intro K Q hK)
        refine At_storeGrid (r := h) (a := (1 : Int)) hF 1 (by exact rfl) (by exact rfl) rfl rfl rfl rfl (by omega) (by omega) ?_
        simp only [List.set_cons_succ, List.set_cons_zero]
        refine At_nilK (hK _ _ ?_)
        generalize M.set h ((M.getD h []).set r 1) = M1 at *
        (refine WAt_cons ?_ (by exact (rfl : _ = some (Oper.mk _ _ _ _ _ _))) ?_; (focus (repeat (first | exact List.Sublist.refl _ | exact List.Sublist.slnil | refine List.Sublist.cons_cons _ ?_ | refine List.Sublist.cons _ ?_))); intro K Q hK)
        refine At_storeGrid (r := a) (a := (-1 : Int)) hF 1 (by exact rfl) (by exact rfl) rfl rfl rfl rfl (by omega) (by omega) ?_
        simp only [List.set_cons_succ, List.set_cons_zero]
        refine At_nilK (hK _ _ ?_)
        rw [← hset]
        (refine WAt_nil ?_ ?_; (focus (repeat (first | exact List.Sublist.refl _ | exact List.Sublist.slnil | refine List.Sublist.cons_cons _ ?_ | refine List.Sublist.cons _ ?_))))
        (repeat (first | ((with_reducible refine is_AL ?_); (first | ((with_reducible refine is_move ?_); (refine At_plain hF (by (exact (rfl : _ = some (Value.int _ _)))) ?_)) | ((with_reducible refine is_bin ?_); ((with_reducible refine is_badd ?_); (refine At_add hF rfl rfl (by omega) ?_))) | with_reducible refine At_nil ?_)) | ((with_reducible refine is_At ?_); (first | with_reducible refine At_region ?_ | with_reducible refine At_then_n ?_ | with_reducible refine At_inb_n ?_ | with_reducible refine At_go (by assumption) ?_))))
        refine At_close 2 rfl (sc_len _) hj1 hj2 hj3 ?_
        refine At.sub ?_ (hI (k + 1, setP M ⟨r, h, a⟩) _ ⟨hlt, hsn.symm, hR2⟩ (by simp only; omega) ?_)
        · (repeat (first | exact List.Sublist.refl _ | exact List.Sublist.slnil | refine List.Sublist.cons_cons _ ?_ | refine List.Sublist.cons _ ?_))
        · (repeat (first | exact True.intro | (refine And.intro ?_ ?_; focus (show _ = (_ : Value); first | exact rfl | (refine Eq.trans (b := Value.int IntKind.i64 _) rfl (congrArg (Value.int IntKind.i64) ?_); omega)))))
      · obtain rfl : k = m.length := by omega
        (repeat (first | ((with_reducible refine is_AL ?_); (first | ((with_reducible refine is_move ?_); (refine At_plain hF (by (exact (rfl : _ = some (Value.slice _ _ _)))) ?_)) | ((with_reducible refine is_assign ?_); (refine At_plain hF (by (first | exact (rfl : _ = some (Value.int _ _)) | exact (rfl : _ = some (Value.slice _ _ _)))) ?_)) | with_reducible refine At_nil ?_)) | ((with_reducible refine is_At ?_); (first | with_reducible refine At_seq ?_; intro K hK | with_reducible refine At_region ?_ | with_reducible refine At_ret ?_ | with_reducible refine At_exit ?_ | with_reducible refine At_then_n ?_ | with_reducible refine At_then_e ?_ | with_reducible refine At_inb_e rfl ?_ | with_reducible refine At_go (by assumption) ?_))))
        refine At_ret2 rfl (rv_tmp (by decide)) (rv_tmp (by decide)) ?_
        rw [List.take_length] at hM
        subst hM
        (refine At.pick [1, 0] (by decide) (R' := [_, _]) rfl ?_)
        exact fun w' hw' => ⟨_, rfl, _, hpost _ _ ⟨bs, some bo, co, hbs, rfl, rfl⟩, hw'⟩
end Go.Proofs.Ytecgklfcblpkdaa.P

/- The sets of teams, yielded by a closure that calls itself. -/
namespace Go.Proofs.Ytecgklfcblpkdaa.P
open Go.RowKit Go.Proofs.YtecgklfcblpkdaaW.PrintWords Go.Proofs.YtecgklfcblpkdaaW.PrintLast Go.Proofs.YtecgklfcblpkdaaW.PrintMore
open XW RegInv
attribute [local irreducible] Addr.add
set_option linter.unusedSimpArgs false
set_option linter.unusedVariables false

/-- the sets with more further teams, from a team on -/
def chs (n : Nat) : Nat → Nat → Nat → List Nat
  | 0, set, _ => [set]
  | m + 1, set, from_ => (List.range' from_ (n - m - from_)).flatMap fun t => chs n m (set ||| 1 * 2 ^ t) (t + 1)
def setsL (n : Nat) : List Nat := (List.range' 2 (n - 1)).flatMap fun size => chs n size 0 0
theorem E36 : Enters Try.prog 36 := enters Try.func36 (by kernel_rfl) rfl
theorem E35 : Enters Try.prog 35 := enters Try.func35 (by kernel_rfl) rfl
theorem E27 : Enters Try.prog 27 := enters Try.func27 (by kernel_rfl) rfl
abbrev ip (b : Nat) : Value := .pointer (some ⟨b, 0, none⟩)
def argsU (x : Nat) : Array Value := #[.int .u32 (x : Int)]
def chooseV (b2 b1 b3 : Nat) : Value := .func (.func 36) #[] #[ip b2, ip b1, ip b3]
/-- what the closure holds -/
def ritCh (l n b2 b1 b3 : Nat) : List Res := [.obj b3 (.cells #[chooseV b2 b1 b3] 67), .obj b2 (.cells #[.func (.yield l) #[] #[]] 66), .obj b1 (.cells #[.int .i64 n] 3)]
def chPost {σ : Type} (Rit : List Res) (Rc : σ → List Res) (φ : List Nat → σ → Prop) (ψ : σ → Prop) (xs : List Nat) (v : Value) (R' : List Res) : Prop :=
  (∃ s', v = .bool true ∧ R' = Rit ++ Rc s' ∧ φ xs s') ∨ ∃ s', v = .bool false ∧ R' = Rit ++ Rc s' ∧ ψ s'
theorem range'_snoc (a k : Nat) : List.range' a (k + 1) = List.range' a k ++ [a + k] := by
  have := List.range'_concat (s := a) (n := k) (step := 1)
  simpa using this
def goneL (n m set from_ t : Nat) : List Nat := (List.range' from_ (t - from_)).flatMap fun t => chs n m (set ||| 1 * 2 ^ t) (t + 1)
theorem goneL_succ (n m set from_ t : Nat) (h : from_ ≤ t) : goneL n m set from_ (t + 1) = goneL n m set from_ t ++ chs n m (set ||| 1 * 2 ^ t) (t + 1) := by
  rw [goneL, show t + 1 - from_ = (t - from_) + 1 by omega, range'_snoc, List.flatMap_append, show from_ + (t - from_) = t by omega]
  simp [goneL]
theorem goneL_pre (n m set from_ t : Nat) (h : t ≤ n - m) : goneL n m set from_ t <+: chs n (m + 1) set from_ := by
  rw [chs, goneL]
  have e := @List.range'_append_1 from_ (t - from_) (n - m - from_ - (t - from_))
  rw [show t - from_ + (n - m - from_ - (t - from_)) = n - m - from_ by omega] at e
  rw [← e, List.flatMap_append]
  exact List.prefix_append _ _
theorem goneL_all (n m set from_ t : Nat) (h : n - m ≤ t) (h1 : from_ ≤ t) (h2 : t ≤ max from_ (n - m)) : goneL n m set from_ t = chs n (m + 1) set from_ := by
  rw [chs, goneL, show t - from_ = n - m - from_ by omega]
set_option maxHeartbeats 8000000 in
theorem choose_calls {F : Fence} (hF : Wide F) (ha : F.alive = false) (hro : F.round = none) (base : World) (n l b2 b1 b3 : Nat) (hn : n ≤ 20) {σ : Type} (Rc : σ → List Res) (φ : List Nat → σ → Prop) (ψ : σ → Prop) (Pre : List Nat → Prop) (hpc : ∀ a b : List Nat, a <+: b → Pre b → Pre a)
    (hy : YieldOk F Try.prog l base argsU Pre Rc φ ψ) : ∀ (m set from_ : Nat) (xs : List Nat) (s : σ), m ≤ 20 → set < 1048576 → from_ ≤ n + 1 → φ xs s → Pre (xs ++ chs n m set from_) → ∀ w, Mem base w (ritCh l n b2 b1 b3 ++ Rc s) →
    CallsIn F 0 Try.prog 36 #[.int .u32 set, .int .i64 from_, .int .i64 m, ip b2, ip b1, ip b3] w fun e w' => ∃ v, e = .returned v ∧ ∃ R', chPost (ritCh l n b2 b1 b3) Rc φ ψ (xs ++ chs n m set from_) v R' ∧ Mem base w' R' := by
  intro m
  induction m with
  | zero =>
    intro set from_ xs s hm hs hf hφ hpre w hw
    refine callsIn_at (n := 35) hF hro hw Try.func36 rfl Try.ntmps36 (by simp) ?_
    simp only [ritCh, List.cons_append, List.nil_append]
    (repeat (first | ((with_reducible refine is_AL ?_); (first | ((with_reducible refine is_move ?_); (refine At_plain hF (by (exact (rfl : _ = some (Value.int _ _)))) ?_)) | ((with_reducible refine is_bin ?_); (refine At_plain hF (by (exact (rfl : _ = some (Value.bool _)))) ?_)) | ((with_reducible refine is_assign ?_); (refine At_plain hF (by (exact (rfl : _ = some (Value.bool _)))) ?_)) | ((with_reducible refine is_load ?_); (refine At_load hF 1 rfl rfl (by (exact (rfl : _ = some (Value.func _ _ _)))) ?_)) | with_reducible refine At_nil ?_)) | ((with_reducible refine is_At ?_); (first | with_reducible refine At_seq ?_; intro K hK | with_reducible refine At_region ?_ | with_reducible refine At_then_n ?_ | with_reducible refine At_go (by assumption) ?_ | ((with_reducible refine is_cond ?_); (refine At_cond_t rfl ?_))))))
    refine At_yield hF ha hy [.obj b3 (.cells #[chooseV b2 b1 b3] 67), .obj b2 (.cells #[.func (.yield l) #[] #[]] 66), .obj b1 (.cells #[.int .i64 n] 3)] set hφ hpre rfl rfl (arg1 (by (first | exact (rfl : _ = (Value.int _ _)) | exact (rfl : _ = (Value.bool _)) | exact (rfl : _ = (Value.pointer _)) | exact (rfl : _ = (Value.slice _ _ _)) | exact (rfl : _ = (Value.map _)) | exact (rfl : _ = (Value.func _ _ _)) | exact (rfl : _ = (Value.tuple _)) | exact (rfl : _ = (Value.agg _)) | exact (rfl : _ = (Value.string _)) | exact (rfl : _ = (Value.nilFunc)) | exact (rfl : _ = (Value.nilIface))))) ?_ ?_
    · intro s' hs'
      simp only [List.cons_append, List.nil_append]
      (repeat (first | ((with_reducible refine is_AL ?_); (first | ((with_reducible refine is_assign ?_); (refine At_plain hF (by (exact (rfl : _ = some (Value.bool _)))) ?_)) | with_reducible refine At_nil ?_)) | ((with_reducible refine is_At ?_); (first | with_reducible refine At_ret ?_ | with_reducible refine At_then_n ?_ | with_reducible refine At_then_r ?_ | with_reducible refine At_go (by assumption) ?_))))
      exact At_ret1 rfl (rv_tmp (by decide)) (fun w' hw' => ⟨_, rfl, _, .inl ⟨s', rfl, rfl, hs'⟩, hw'⟩)
    · intro s' hs'
      simp only [List.cons_append, List.nil_append]
      (repeat (first | ((with_reducible refine is_AL ?_); (first | ((with_reducible refine is_assign ?_); (refine At_plain hF (by (exact (rfl : _ = some (Value.bool _)))) ?_)) | with_reducible refine At_nil ?_)) | ((with_reducible refine is_At ?_); (first | with_reducible refine At_ret ?_ | with_reducible refine At_then_n ?_ | with_reducible refine At_then_r ?_ | with_reducible refine At_go (by assumption) ?_))))
      exact At_ret1 rfl (rv_tmp (by decide)) (fun w' hw' => ⟨_, rfl, _, .inr ⟨s', rfl, rfl, hs'⟩, hw'⟩)
  | succ m ih =>
    intro set from_ xs s hm hs hf hφ hpre w hw
    refine callsIn_at (n := 35) hF hro hw Try.func36 rfl Try.ntmps36 (by simp) ?_
    simp only [ritCh, List.cons_append, List.nil_append]
    (repeat (first | ((with_reducible refine is_AL ?_); (first | ((with_reducible refine is_move ?_); (refine At_plain hF (by (exact (rfl : _ = some (Value.int _ _)))) ?_)) | ((with_reducible refine is_bin ?_); (refine At_plain hF (by (exact (rfl : _ = some (Value.bool _)))) ?_)) | ((with_reducible refine is_assign ?_); (refine At_plain hF (by (first | exact (rfl : _ = some (Value.int _ _)) | exact (rfl : _ = some (Value.bool _)))) ?_)) | with_reducible refine At_nil ?_)) | ((with_reducible refine is_At ?_); (first | with_reducible refine At_seq ?_; intro K hK | with_reducible refine At_block ?_ | with_reducible refine At_region ?_ | with_reducible refine At_skip ?_ | with_reducible refine At_then_n ?_ | with_reducible refine At_go (by assumption) ?_ | ((with_reducible refine is_cond ?_); (refine At_cond_f rfl ?_))))))
    refine At_loop (fun st : Nat × σ => [(0, .int .u32 set), (2, .int .i64 ((m + 1 : Nat) : Int)), (3, ip b2), (4, ip b1), (5, ip b3), (10, .int .i64 st.1)])
      (fun st => .obj b3 (.cells #[chooseV b2 b1 b3] 67) :: .obj b2 (.cells #[.func (.yield l) #[] #[]] 66) :: .obj b1 (.cells #[.int .i64 n] 3) :: Rc st.2)
      (fun st => from_ ≤ st.1 ∧ st.1 ≤ n + 1 ∧ st.1 ≤ max from_ (n - m) ∧ φ (xs ++ goneL n m set from_ st.1) st.2) (fun st => n + 1 - st.1) (from_, s) ?_ ?_ ⟨Nat.le_refl _, hf, by simp only; omega, by simpa [goneL] using hφ⟩ ?_
    · (repeat (first | exact List.Sublist.refl _ | exact List.Sublist.slnil | refine List.Sublist.cons_cons _ ?_ | refine List.Sublist.cons _ ?_))
    · (repeat (first | exact True.intro | (refine And.intro ?_ ?_; focus (show _ = (_ : Value); first | exact rfl | (refine Eq.trans (b := Value.int IntKind.i64 _) rfl (congrArg (Value.int IntKind.i64) ?_); omega)))))
    rintro ⟨t, s⟩ ⟨h1, h2, h3, hφ⟩ K hL ρ0
    simp only at h1 h2 h3 hφ
    try dsimp only
    (repeat (first | ((with_reducible refine is_AL ?_); (first | ((with_reducible refine is_move ?_); (refine At_plain hF (by (exact (rfl : _ = some (Value.int _ _)))) ?_)) | ((with_reducible refine is_bin ?_); (first | ((with_reducible refine is_badd ?_); (refine At_add hF rfl rfl (by omega) ?_)) | refine At_plain hF (by (exact (rfl : _ = some (Value.bool _)))) ?_)) | ((with_reducible refine is_load ?_); (refine At_load hF 2 rfl rfl (by (exact (rfl : _ = some (Value.int _ _)))) ?_)) | with_reducible refine At_nil ?_)) | ((with_reducible refine is_At ?_); (first | with_reducible refine At_seq ?_; intro K hK | with_reducible refine At_region ?_ | with_reducible refine At_then_n ?_ | with_reducible refine At_go (by assumption) ?_))))
    ((with_reducible refine is_cond ?_); (refine At_cond rfl ?_ ?_ <;> (intro hg; try (simp only [decide_eq_true_eq, decide_eq_false_iff_not, beq_iff_eq, bne_iff_ne, beq_eq_false_iff_ne, bne_eq_false_iff_eq, ne_eq, Bool.not_eq_true', Bool.not_eq_false', Bool.not_true, Bool.not_false, Decidable.not_not] at hg); try (exfalso; first | omega | exact hg True.intro))))
    · have hpt : 1 * 2 ^ t < 1048576 := by rw [Nat.one_mul]; exact Nat.pow_lt_pow_right (n := 20) (by decide) (by omega)
      have hso : set ||| 1 * 2 ^ t < 1048576 := Nat.or_lt_two_pow (n := 20) hs hpt
      have hgs := goneL_succ n m set from_ t h1
      (repeat ((with_reducible refine is_At ?_); (first | with_reducible refine At_seq ?_; intro K hK | with_reducible refine At_block ?_ | with_reducible refine At_skip ?_ | with_reducible refine At_then_n ?_ | with_reducible refine At_go (by assumption) ?_)))
      refine At_draw hF 9 (by kernel_rfl) (by decide +kernel) ?_; simp only [List.take_succ_cons, List.take_zero, List.drop_succ_cons, List.drop_zero]; (repeat ((with_reducible refine is_AQc ?_); refine AQ_cons (by intro K Q hK; (repeat (first | ((with_reducible refine is_move ?_); (refine At_plain hF (by (exact (rfl : _ = some (Value.int _ _)))) ?_)) | ((with_reducible refine is_load ?_); (refine At_load hF 0 rfl rfl (by (exact (rfl : _ = some (Value.func _ _ _)))) ?_)))); exact At_nilK hK) ?_))
      refine AQ_cons (by intro K Q hK; refine At_shl (a := 1) (b := t) hF (by exact rfl) (by exact rfl) (by omega) (by omega) ?_; exact At_nilK hK) ?_
      (repeat ((with_reducible refine is_AQc ?_); refine AQ_cons (by intro K Q hK; skip; exact At_nilK hK) ?_))
      refine AQ_cons (by intro K Q hK; refine At_or (a := set) (b := 1 * 2 ^ t) hF (by exact rfl) (by exact rfl) (by omega) (by omega) ?_; exact At_nilK hK) ?_
      (repeat ((with_reducible refine is_AQc ?_); refine AQ_cons (by intro K Q hK; (repeat (first | ((with_reducible refine is_move ?_); (refine At_plain hF (by (exact (rfl : _ = some (Value.int _ _)))) ?_)) | ((with_reducible refine is_bin ?_); (first | ((with_reducible refine is_badd ?_); (refine At_add hF rfl rfl (by omega) ?_)) | ((with_reducible refine is_bsub ?_); (refine At_sub hF rfl rfl (by omega) ?_)))))); exact At_nilK hK) ?_)); refine AQ_done ?_
      rw [show ((m + 1 : Nat) : Int) - 1 = (m : Int) by omega, show (t : Int) + 1 = ((t + 1 : Nat) : Int) by omega]
      refine At_callvF (Post := chPost (ritCh l n b2 b1 b3) Rc φ ψ ((xs ++ goneL n m set from_ t) ++ chs n m (set ||| 1 * 2 ^ t) (t + 1))) hF E36 rfl (arg3 (by (first | exact (rfl : _ = (Value.int _ _)) | exact (rfl : _ = (Value.bool _)) | exact (rfl : _ = (Value.pointer _)) | exact (rfl : _ = (Value.slice _ _ _)) | exact (rfl : _ = (Value.map _)) | exact (rfl : _ = (Value.func _ _ _)) | exact (rfl : _ = (Value.tuple _)) | exact (rfl : _ = (Value.agg _)) | exact (rfl : _ = (Value.string _)) | exact (rfl : _ = (Value.nilFunc)) | exact (rfl : _ = (Value.nilIface)))) (by (first | exact (rfl : _ = (Value.int _ _)) | exact (rfl : _ = (Value.bool _)) | exact (rfl : _ = (Value.pointer _)) | exact (rfl : _ = (Value.slice _ _ _)) | exact (rfl : _ = (Value.map _)) | exact (rfl : _ = (Value.func _ _ _)) | exact (rfl : _ = (Value.tuple _)) | exact (rfl : _ = (Value.agg _)) | exact (rfl : _ = (Value.string _)) | exact (rfl : _ = (Value.nilFunc)) | exact (rfl : _ = (Value.nilIface)))) (by (first | exact (rfl : _ = (Value.int _ _)) | exact (rfl : _ = (Value.bool _)) | exact (rfl : _ = (Value.pointer _)) | exact (rfl : _ = (Value.slice _ _ _)) | exact (rfl : _ = (Value.map _)) | exact (rfl : _ = (Value.func _ _ _)) | exact (rfl : _ = (Value.tuple _)) | exact (rfl : _ = (Value.agg _)) | exact (rfl : _ = (Value.string _)) | exact (rfl : _ = (Value.nilFunc)) | exact (rfl : _ = (Value.nilIface))))) (by exact rfl) (fun w' hw' => ih (set ||| 1 * 2 ^ t) (t + 1) (xs ++ goneL n m set from_ t) s (by omega) hso (by omega) hφ (hpc _ _ (by
        rw [List.append_assoc, ← hgs]
        exact (List.prefix_append_right_inj xs).2 (goneL_pre n m set from_ (t + 1) (by omega))) hpre) w' hw') ?_
      rintro u R' (⟨s', rfl, rfl, hs'⟩ | ⟨s', rfl, rfl, hs'⟩)
      · simp only [ritCh, List.cons_append, List.nil_append]
        rw [List.append_assoc, ← hgs] at hs'
        (repeat (first | ((with_reducible refine is_AL ?_); (first | ((with_reducible refine is_move ?_); (refine At_plain hF (by (exact (rfl : _ = some (Value.int _ _)))) ?_)) | ((with_reducible refine is_bin ?_); ((with_reducible refine is_badd ?_); (refine At_add hF rfl rfl (by omega) ?_))) | ((with_reducible refine is_assign ?_); (refine At_plain hF (by (exact (rfl : _ = some (Value.int _ _)))) ?_)) | ((with_reducible refine is_un ?_); (refine At_plain hF (by (exact (rfl : _ = some (Value.bool _)))) ?_)) | with_reducible refine At_nil ?_)) | ((with_reducible refine is_At ?_); (first | with_reducible refine At_region ?_ | with_reducible refine At_skip ?_ | with_reducible refine At_then_n ?_ | with_reducible refine At_inb_n ?_ | with_reducible refine At_go (by assumption) ?_ | ((with_reducible refine is_cond ?_); (refine At_cond_f rfl ?_))))))
        refine At.sub ?_ (hL (t + 1, s') _ ⟨by omega, by omega, by omega, hs'⟩ (by simp only; omega) ?_)
        · (repeat (first | exact List.Sublist.refl _ | exact List.Sublist.slnil | refine List.Sublist.cons_cons _ ?_ | refine List.Sublist.cons _ ?_))
        · (repeat (first | exact True.intro | (refine And.intro ?_ ?_; focus (show _ = (_ : Value); first | exact rfl | (refine Eq.trans (b := Value.int IntKind.i64 _) rfl (congrArg (Value.int IntKind.i64) ?_); omega)))))
      · simp only [ritCh, List.cons_append, List.nil_append]
        (repeat (first | ((with_reducible refine is_AL ?_); (first | ((with_reducible refine is_assign ?_); (refine At_plain hF (by (exact (rfl : _ = some (Value.bool _)))) ?_)) | ((with_reducible refine is_un ?_); (refine At_plain hF (by (exact (rfl : _ = some (Value.bool _)))) ?_)) | with_reducible refine At_nil ?_)) | ((with_reducible refine is_At ?_); (first | with_reducible refine At_seq ?_; intro K hK | with_reducible refine At_region ?_ | with_reducible refine At_ret ?_ | with_reducible refine At_then_n ?_ | with_reducible refine At_then_r ?_ | with_reducible refine At_inb_r ?_ | with_reducible refine At_go (by assumption) ?_ | ((with_reducible refine is_cond ?_); (refine At_cond_t rfl ?_))))))
        exact At_ret1 rfl (rv_tmp (by decide)) (fun w' hw' => ⟨_, rfl, _, .inr ⟨s', rfl, rfl, hs'⟩, hw'⟩)
    · have hall := goneL_all n m set from_ t (by omega) h1 h3
      rw [hall] at hφ
      (repeat (first | ((with_reducible refine is_AL ?_); (first | ((with_reducible refine is_assign ?_); (refine At_plain hF (by (exact (rfl : _ = some (Value.bool _)))) ?_)) | with_reducible refine At_nil ?_)) | ((with_reducible refine is_At ?_); (first | with_reducible refine At_seq ?_; intro K hK | with_reducible refine At_region ?_ | with_reducible refine At_ret ?_ | with_reducible refine At_exit ?_ | with_reducible refine At_then_n ?_ | with_reducible refine At_then_e ?_ | with_reducible refine At_inb_e rfl ?_ | with_reducible refine At_go (by assumption) ?_))))
      exact At_ret1 rfl (rv_tmp (by decide)) (fun w' hw' => ⟨_, rfl, _, .inl ⟨s, rfl, rfl, hφ⟩, hw'⟩)
/-! ### the iterator -/
def upto (n size : Nat) : List Nat := (List.range' 2 (size - 2)).flatMap fun sz => chs n sz 0 0
theorem upto_succ (n size : Nat) (h : 2 ≤ size) : upto n (size + 1) = upto n size ++ chs n size 0 0 := by
  rw [upto, show size + 1 - 2 = (size - 2) + 1 by omega, range'_snoc, List.flatMap_append, show 2 + (size - 2) = size by omega]
  simp [upto]
theorem upto_pre (n size : Nat) (h : size ≤ n + 1) : upto n size <+: setsL n := by
  rw [setsL, upto]
  have e := @List.range'_append_1 2 (size - 2) (n - 1 - (size - 2))
  rw [show size - 2 + (n - 1 - (size - 2)) = n - 1 by omega] at e
  rw [← e, List.flatMap_append]
  exact List.prefix_append _ _
theorem upto_all (n : Nat) : upto n (n + 1) = setsL n := by rw [upto, setsL, show n + 1 - 2 = n - 1 by omega]
set_option maxHeartbeats 8000000 in
theorem sets_iter {F : Fence} (hF : Wide F) (ha : F.alive = false) (hro : F.round = none) (base : World) (n b1 : Nat) (hn : 2 ≤ n ∧ n ≤ 20) :
    IterOk F Try.prog 35 #[ip b1] base [.obj b1 (.cells #[.int .i64 n] 3)] argsU (fun xs => xs <+: setsL n) (fun xs => xs = setsL n) := by
  intro σ l Rc φ ψ hy s0 h0 w hw
  refine callsIn_at (n := 16) hF hro hw Try.func35 rfl Try.ntmps35 (by simp) ?_
  simp only [List.cons_append, List.nil_append]
  ((repeat (first | ((with_reducible refine is_AL ?_); (first | ((with_reducible refine is_assign ?_); (refine At_plain hF (by (exact (rfl : _ = some (Value.int _ _)))) ?_)) | ((with_reducible refine is_func ?_); (refine At_func3 hF (by (exact (rfl : _ = (Value.pointer _)))) (by (exact (rfl : _ = (Value.pointer _)))) (by (exact (rfl : _ = (Value.pointer _)))) ?_)) | ((with_reducible refine is_store ?_); (refine At_store_0 hF rfl (by (exact (rfl : _ = (Value.func _ _ _)))) (by (decide)) (by exact rfl) (by exact rfl) (by (exact (rfl : _ = List.toArray (_ :: _)))) ?_)) | with_reducible refine At_nil ?_)) | ((with_reducible refine is_At ?_); (first | with_reducible refine At_seq ?_; intro K hK | with_reducible refine At_block ?_ | with_reducible refine At_region ?_ | with_reducible refine At_then_n ?_ | with_reducible refine At_go (by assumption) ?_)))); (first | ((with_reducible refine is_alloc ?_); (refine At_alloc hF (by (exact (rfl : _ = List.toArray (_ :: _)))) ?_; intro b2)) | ((with_reducible refine is_box ?_); (refine At_box1 hF (by (exact (rfl : _ = (Value.func _ _ _)))) rfl ?_; intro b2))); (repeat (first | ((with_reducible refine is_AL ?_); (first | ((with_reducible refine is_assign ?_); (refine At_plain hF (by (exact (rfl : _ = some (Value.int _ _)))) ?_)) | ((with_reducible refine is_func ?_); (refine At_func3 hF (by (exact (rfl : _ = (Value.pointer _)))) (by (exact (rfl : _ = (Value.pointer _)))) (by (exact (rfl : _ = (Value.pointer _)))) ?_)) | ((with_reducible refine is_store ?_); (refine At_store_0 hF rfl (by (exact (rfl : _ = (Value.func _ _ _)))) (by (decide)) (by exact rfl) (by exact rfl) (by (exact (rfl : _ = List.toArray (_ :: _)))) ?_)) | with_reducible refine At_nil ?_)) | ((with_reducible refine is_At ?_); (first | with_reducible refine At_seq ?_; intro K hK | with_reducible refine At_block ?_ | with_reducible refine At_region ?_ | with_reducible refine At_then_n ?_ | with_reducible refine At_go (by assumption) ?_)))); (first | ((with_reducible refine is_alloc ?_); (refine At_alloc hF (by (exact (rfl : _ = List.toArray (_ :: _)))) ?_; intro b3)) | ((with_reducible refine is_box ?_); (refine At_box1 hF (by (exact (rfl : _ = (Value.func _ _ _)))) rfl ?_; intro b3))); (repeat (first | ((with_reducible refine is_AL ?_); (first | ((with_reducible refine is_assign ?_); (refine At_plain hF (by (exact (rfl : _ = some (Value.int _ _)))) ?_)) | ((with_reducible refine is_func ?_); (refine At_func3 hF (by (exact (rfl : _ = (Value.pointer _)))) (by (exact (rfl : _ = (Value.pointer _)))) (by (exact (rfl : _ = (Value.pointer _)))) ?_)) | ((with_reducible refine is_store ?_); (refine At_store_0 hF rfl (by (exact (rfl : _ = (Value.func _ _ _)))) (by (decide)) (by exact rfl) (by exact rfl) (by (exact (rfl : _ = List.toArray (_ :: _)))) ?_)) | with_reducible refine At_nil ?_)) | ((with_reducible refine is_At ?_); (first | with_reducible refine At_seq ?_; intro K hK | with_reducible refine At_block ?_ | with_reducible refine At_region ?_ | with_reducible refine At_then_n ?_ | with_reducible refine At_go (by assumption) ?_)))))
  refine At_loop (fun st : Nat × σ => [(1, ip b1), (3, ip b3), (4, .int .i64 st.1)])
    (fun st => .obj b3 (.cells #[chooseV b2 b1 b3] 67) :: .obj b2 (.cells #[.func (.yield l) #[] #[]] 66) :: .obj b1 (.cells #[.int .i64 n] 3) :: Rc st.2)
    (fun st => 2 ≤ st.1 ∧ st.1 ≤ n + 1 ∧ φ (upto n st.1) st.2) (fun st => n + 1 - st.1) (2, s0) ?_ ?_ ⟨Nat.le_refl _, by simp only; omega, h0⟩ ?_
  · (repeat (first | exact List.Sublist.refl _ | exact List.Sublist.slnil | refine List.Sublist.cons_cons _ ?_ | refine List.Sublist.cons _ ?_))
  · (repeat (first | exact True.intro | (refine And.intro ?_ ?_; focus (show _ = (_ : Value); first | exact rfl | (refine Eq.trans (b := Value.int IntKind.i64 _) rfl (congrArg (Value.int IntKind.i64) ?_); omega)))))
  rintro ⟨size, s⟩ ⟨h1, h2, hφ⟩ K hL ρ0
  simp only at h1 h2 hφ
  try dsimp only
  (repeat (first | ((with_reducible refine is_AL ?_); (first | ((with_reducible refine is_move ?_); (refine At_plain hF (by (first | exact (rfl : _ = some (Value.int _ _)) | exact (rfl : _ = some (Value.bool _)))) ?_)) | ((with_reducible refine is_bin ?_); (refine At_plain hF (by (exact (rfl : _ = some (Value.bool _)))) ?_)) | ((with_reducible refine is_load ?_); (refine At_load hF 2 rfl rfl (by (exact (rfl : _ = some (Value.int _ _)))) ?_)))) | ((with_reducible refine is_At ?_); (first | with_reducible refine At_seq ?_; intro K hK | with_reducible refine At_region ?_))))
  ((with_reducible refine is_guarded ?_); (refine At_guard hF rfl (by decide) rfl ?_ ?_ <;> (intro hg; try (simp only [decide_eq_true_eq, decide_eq_false_iff_not, beq_iff_eq, bne_iff_ne, beq_eq_false_iff_ne, bne_eq_false_iff_eq, ne_eq, Bool.not_eq_true', Bool.not_eq_false', Bool.not_true, Bool.not_false, Decidable.not_not] at hg); try (exfalso; first | omega | exact hg True.intro))))
  · have hus := upto_succ n size h1
    (repeat ((with_reducible refine is_AL ?_); (first | ((with_reducible refine is_guarded ?_); (refine At_guard_t rfl (by decide) rfl ?_)) | ((with_reducible refine is_move ?_); (refine At_plain hF (by (exact (rfl : _ = some (Value.int _ _)))) ?_)) | ((with_reducible refine is_load ?_); (refine At_load hF 0 rfl rfl (by (exact (rfl : _ = some (Value.func _ _ _)))) ?_)))))
    refine At_callvF (Post := chPost (ritCh l n b2 b1 b3) Rc φ ψ (upto n size ++ chs n size 0 0)) hF E36 rfl (arg3 (by (first | exact (rfl : _ = (Value.int _ _)) | exact (rfl : _ = (Value.bool _)) | exact (rfl : _ = (Value.pointer _)) | exact (rfl : _ = (Value.slice _ _ _)) | exact (rfl : _ = (Value.map _)) | exact (rfl : _ = (Value.func _ _ _)) | exact (rfl : _ = (Value.tuple _)) | exact (rfl : _ = (Value.agg _)) | exact (rfl : _ = (Value.string _)) | exact (rfl : _ = (Value.nilFunc)) | exact (rfl : _ = (Value.nilIface)))) (by (first | exact (rfl : _ = (Value.int _ _)) | exact (rfl : _ = (Value.bool _)) | exact (rfl : _ = (Value.pointer _)) | exact (rfl : _ = (Value.slice _ _ _)) | exact (rfl : _ = (Value.map _)) | exact (rfl : _ = (Value.func _ _ _)) | exact (rfl : _ = (Value.tuple _)) | exact (rfl : _ = (Value.agg _)) | exact (rfl : _ = (Value.string _)) | exact (rfl : _ = (Value.nilFunc)) | exact (rfl : _ = (Value.nilIface)))) (by (first | exact (rfl : _ = (Value.int _ _)) | exact (rfl : _ = (Value.bool _)) | exact (rfl : _ = (Value.pointer _)) | exact (rfl : _ = (Value.slice _ _ _)) | exact (rfl : _ = (Value.map _)) | exact (rfl : _ = (Value.func _ _ _)) | exact (rfl : _ = (Value.tuple _)) | exact (rfl : _ = (Value.agg _)) | exact (rfl : _ = (Value.string _)) | exact (rfl : _ = (Value.nilFunc)) | exact (rfl : _ = (Value.nilIface))))) (by exact rfl) (fun w' hw' => choose_calls hF ha hro base n l b2 b1 b3 hn.2 Rc φ ψ (fun xs => xs <+: setsL n) (fun a b hab hb => hab.trans hb) hy size 0 0 (upto n size) s (by omega) (by decide) (by omega) hφ (by rw [← hus]; exact upto_pre n (size + 1) (by omega)) w' hw') ?_
    rintro u R' (⟨s', rfl, rfl, hs'⟩ | ⟨s', rfl, rfl, hs'⟩)
    · simp only [ritCh, List.cons_append, List.nil_append]
      rw [← hus] at hs'
      (repeat (first | ((with_reducible refine is_AL ?_); (first | ((with_reducible refine is_move ?_); (refine At_plain hF (by (exact (rfl : _ = some (Value.int _ _)))) ?_)) | ((with_reducible refine is_bin ?_); ((with_reducible refine is_badd ?_); (refine At_add hF rfl rfl (by omega) ?_))) | ((with_reducible refine is_assign ?_); (refine At_plain hF (by (exact (rfl : _ = some (Value.int _ _)))) ?_)) | ((with_reducible refine is_pick ?_); (refine At_plain hF (by (exact (rfl : _ = some (Value.bool _)))) ?_)) | with_reducible refine At_nil ?_)) | ((with_reducible refine is_At ?_); (first | with_reducible refine At_seq ?_; intro K hK | with_reducible refine At_block ?_ | with_reducible refine At_region ?_ | with_reducible refine At_skip ?_ | with_reducible refine At_then_n ?_ | with_reducible refine At_inb_n ?_ | with_reducible refine At_go (by assumption) ?_ | ((with_reducible refine is_cond ?_); (refine At_cond_t rfl ?_))))))
      refine At.sub ?_ (hL (size + 1, s') _ ⟨by omega, by omega, hs'⟩ (by simp only; omega) ?_)
      · (repeat (first | exact List.Sublist.refl _ | exact List.Sublist.slnil | refine List.Sublist.cons_cons _ ?_ | refine List.Sublist.cons _ ?_))
      · (repeat (first | exact True.intro | (refine And.intro ?_ ?_; focus (show _ = (_ : Value); first | exact rfl | (refine Eq.trans (b := Value.int IntKind.i64 _) rfl (congrArg (Value.int IntKind.i64) ?_); omega)))))
    · simp only [ritCh, List.cons_append, List.nil_append]
      (repeat (first | ((with_reducible refine is_AL ?_); (first | ((with_reducible refine is_pick ?_); (refine At_plain hF (by (exact (rfl : _ = some (Value.bool _)))) ?_)) | with_reducible refine At_nil ?_)) | ((with_reducible refine is_At ?_); (first | with_reducible refine At_exit ?_ | with_reducible refine At_then_n ?_ | with_reducible refine At_then_e ?_ | with_reducible refine At_inb_e rfl ?_ | with_reducible refine At_go (by assumption) ?_ | ((with_reducible refine is_cond ?_); (refine At_cond_f rfl ?_))))))
      refine At_fin0n rfl ?_
      exact At.sub (.cons _ (.cons _ (List.Sublist.refl _))) (fun w' hw' => ⟨_, s', rfl, hw', .inr hs'⟩)
  · obtain rfl : size = n + 1 := by omega
    rw [upto_all] at hφ
    (repeat (first | ((with_reducible refine is_AL ?_); (first | ((with_reducible refine is_guarded ?_); (refine At_guard_f hF rfl (by decide) rfl rfl ?_)) | ((with_reducible refine is_pick ?_); (refine At_plain hF (by (exact (rfl : _ = some (Value.bool _)))) ?_)) | with_reducible refine At_nil ?_)) | ((with_reducible refine is_At ?_); (first | with_reducible refine At_exit ?_ | with_reducible refine At_then_n ?_ | with_reducible refine At_then_e ?_ | with_reducible refine At_inb_e rfl ?_ | with_reducible refine At_go (by assumption) ?_ | ((with_reducible refine is_cond ?_); (refine At_cond_f rfl ?_))))))
    refine At_fin0n rfl ?_
    exact At.sub (.cons _ (.cons _ (List.Sublist.refl _))) (fun w' hw' => ⟨_, s, rfl, hw', .inl ⟨_, rfl, hφ⟩⟩)
theorem sets_rets (n : Nat) (w : World) : Rets Try.prog 27 #[.int .i64 n] w fun u w' => ∃ Rs, (∃ b1, u = .func (.func 35) #[] #[ip b1] ∧ Rs = [.obj b1 (.cells #[.int .i64 n] 3)]) ∧ Mem w w' Rs := by
  have hF := wide_wide
  refine rets_at (n := 4) Try.func27 rfl Try.ntmps27 (by simp) ?_
  ((repeat (first | ((with_reducible refine is_AL ?_); (first | ((with_reducible refine is_assign ?_); (refine At_plain hF (by (first | exact (rfl : _ = some (Value.func _ _ _)) | exact (rfl : _ = some (Value.nilFunc)))) ?_)) | ((with_reducible refine is_func ?_); (refine At_func1 hF (by (exact (rfl : _ = (Value.pointer _)))) ?_)) | with_reducible refine At_nil ?_)) | ((with_reducible refine is_At ?_); (first | with_reducible refine At_seq ?_; intro K hK | with_reducible refine At_region ?_ | with_reducible refine At_ret ?_ | with_reducible refine At_then_n ?_ | with_reducible refine At_go (by assumption) ?_)))); ((with_reducible refine is_box ?_); (refine At_box1 hF (by (exact (rfl : _ = (Value.int _ _)))) rfl ?_; intro b1)); (repeat (first | ((with_reducible refine is_AL ?_); (first | ((with_reducible refine is_assign ?_); (refine At_plain hF (by (first | exact (rfl : _ = some (Value.func _ _ _)) | exact (rfl : _ = some (Value.nilFunc)))) ?_)) | ((with_reducible refine is_func ?_); (refine At_func1 hF (by (exact (rfl : _ = (Value.pointer _)))) ?_)) | with_reducible refine At_nil ?_)) | ((with_reducible refine is_At ?_); (first | with_reducible refine At_seq ?_; intro K hK | with_reducible refine At_region ?_ | with_reducible refine At_ret ?_ | with_reducible refine At_then_n ?_ | with_reducible refine At_go (by assumption) ?_)))))
  exact At_ret1 rfl (rv_tmp (by decide)) (fun w' hw' => ⟨_, rfl, _, ⟨b1, by rfl, rfl⟩, hw'⟩)
end Go.Proofs.Ytecgklfcblpkdaa.P

/- bits.OnesCount32: walk, for sets of ten teams. -/
namespace Go.Proofs.Ytecgklfcblpkdaa.P
open Go.RowKit Go.Proofs.YtecgklfcblpkdaaW.PrintWords Go.Proofs.YtecgklfcblpkdaaW.PrintLast Go.Proofs.YtecgklfcblpkdaaW.PrintMore
open XW RegInv
attribute [local irreducible] Addr.add
set_option linter.unusedSimpArgs false
set_option linter.unusedVariables false
def popTab : ByteArray := ByteArray.mk (List.toArray [0, 1, 1, 2, 1, 2, 2, 3, 1, 2, 2, 3, 2, 3, 3, 4, 1, 2, 2, 3, 2, 3, 3, 4, 2, 3, 3, 4, 3, 4, 4, 5, 1, 2, 2, 3, 2, 3, 3, 4, 2, 3, 3, 4, 3, 4, 4, 5, 2, 3, 3, 4, 3, 4, 4, 5, 3, 4, 4, 5, 4, 5, 5, 6, 1, 2, 2, 3, 2, 3, 3, 4, 2, 3, 3, 4, 3, 4, 4, 5, 2, 3, 3, 4, 3, 4, 4, 5, 3, 4, 4, 5, 4, 5, 5, 6, 2, 3, 3, 4, 3, 4, 4, 5, 3, 4, 4, 5, 4, 5, 5, 6, 3, 4, 4, 5, 4, 5, 5, 6, 4, 5, 5, 6, 5, 6, 6, 7, 1, 2, 2, 3, 2, 3, 3, 4, 2, 3, 3, 4, 3, 4, 4, 5, 2, 3, 3, 4, 3, 4, 4, 5, 3, 4, 4, 5, 4, 5, 5, 6, 2, 3, 3, 4, 3, 4, 4, 5, 3, 4, 4, 5, 4, 5, 5, 6, 3, 4, 4, 5, 4, 5, 5, 6, 4, 5, 5, 6, 5, 6, 6, 7, 2, 3, 3, 4, 3, 4, 4, 5, 3, 4, 4, 5, 4, 5, 5, 6, 3, 4, 4, 5, 4, 5, 5, 6, 4, 5, 5, 6, 5, 6, 6, 7, 3, 4, 4, 5, 4, 5, 5, 6, 4, 5, 5, 6, 5, 6, 6, 7, 4, 5, 5, 6, 5, 6, 6, 7, 5, 6, 6, 7, 6, 7, 7, 8])
def tb (i : Nat) : Int := ((popTab[i]!).toNat : Int)
set_option maxRecDepth 100000 in
theorem tab_at : ∀ i, i < 256 → popTab[i]? = some (popTab[i]!) := by decide +kernel
def popc (x : Nat) : Nat := ((List.range 10).filter fun t => x.testBit t).length
def ocE (x : Nat) : Int := IntKind.i64.wrap (IntKind.u8.wrap (IntKind.u8.wrap (IntKind.u8.wrap (tb (x / 2 ^ 24) + tb (x / 2 ^ 16 &&& 255)) + tb (x / 2 ^ 8 &&& 255)) + tb (x &&& 255)))
set_option maxRecDepth 100000 in
theorem ocE_eq : ∀ x, x < 1024 → ocE x = (popc x : Int) := by decide +kernel
theorem and255 (x : Nat) : x &&& 255 < 256 := Nat.lt_of_le_of_lt Nat.and_le_right (by decide)
set_option maxRecDepth 100000 in
set_option maxHeartbeats 4000000 in
theorem ones_rets (x : Nat) (hx : x < 1024) (w : World) : Rets Try.prog 28 #[.int .u32 x] w fun u w' => u = .int .i64 (popc x : Nat) ∧ Below w.heap.size w w' := by
  have hF := wide_wide
  have d24 : x / 2 ^ 24 = 0 := Nat.div_eq_of_lt (by omega)
  have a1 := and255 (x / 2 ^ 16)
  have a2 := and255 (x / 2 ^ 8)
  have a3 := and255 x
  have q1 : x / 2 ^ 16 < 4294967296 := Nat.lt_of_le_of_lt (Nat.div_le_self ..) (by omega)
  have q2 : x / 2 ^ 8 < 4294967296 := Nat.lt_of_le_of_lt (Nat.div_le_self ..) (by omega)
  refine rets_at (n := 21) Try.func28 rfl Try.ntmps28 (by simp) ?_
  (repeat (first | ((with_reducible refine is_AL ?_); (first | ((with_reducible refine is_assign ?_); (refine At_plain hF (by (exact (rfl : _ = some (Value.int _ _)))) ?_)) | with_reducible refine At_nil ?_)) | ((with_reducible refine is_At ?_); (first | with_reducible refine At_seq ?_; intro K hK | with_reducible refine At_region ?_ | with_reducible refine At_then_n ?_ | with_reducible refine At_go (by assumption) ?_))))
  refine At_draw hF 18 (by kernel_rfl) (by decide +kernel) ?_; simp only [List.take_succ_cons, List.take_zero, List.drop_succ_cons, List.drop_zero]; (repeat ((with_reducible refine is_AQc ?_); refine AQ_cons (by intro K Q hK; (repeat ((with_reducible refine is_move ?_); (refine At_plain hF (by (exact (rfl : _ = some (Value.int _ _)))) ?_))); exact At_nilK hK) ?_))
  refine AQ_cons (by intro K Q hK; refine At_shr (a := x) (b := 24) hF (by exact rfl) (by exact rfl) (by decide) ?_; exact At_nilK hK) ?_
  refine AQ_cons (by intro K Q hK; refine At_indexStr (s := popTab) (i := x / 2 ^ 24) hF Try.underlying9 (by exact rfl) (by exact rfl) (by exact tab_at _ (by omega)) ?_; exact At_nilK hK) ?_
  (repeat ((with_reducible refine is_AQc ?_); refine AQ_cons (by intro K Q hK; (repeat ((with_reducible refine is_move ?_); (refine At_plain hF (by (exact (rfl : _ = some (Value.int _ _)))) ?_))); exact At_nilK hK) ?_))
  refine AQ_cons (by intro K Q hK; refine At_shr (a := x) (b := 16) hF (by exact rfl) (by exact rfl) (by decide) ?_; exact At_nilK hK) ?_
  refine AQ_cons (by intro K Q hK; refine At_and (a := x / 2 ^ 16) (b := 255) hF (by exact rfl) (by exact rfl) q1 (by decide) ?_; exact At_nilK hK) ?_
  refine AQ_cons (by intro K Q hK; refine At_indexStr (s := popTab) (i := x / 2 ^ 16 &&& 255) hF Try.underlying9 (by exact rfl) (by exact rfl) (by exact tab_at _ a1) ?_; exact At_nilK hK) ?_
  (repeat ((with_reducible refine is_AQc ?_); refine AQ_cons (by intro K Q hK; (repeat (first | ((with_reducible refine is_move ?_); (refine At_plain hF (by (exact (rfl : _ = some (Value.int _ _)))) ?_)) | ((with_reducible refine is_bin ?_); (refine At_plain hF (by (exact (rfl : _ = some (Value.int _ _)))) ?_)))); exact At_nilK hK) ?_))
  refine AQ_cons (by intro K Q hK; refine At_shr (a := x) (b := 8) hF (by exact rfl) (by exact rfl) (by decide) ?_; exact At_nilK hK) ?_
  refine AQ_cons (by intro K Q hK; refine At_and (a := x / 2 ^ 8) (b := 255) hF (by exact rfl) (by exact rfl) q2 (by decide) ?_; exact At_nilK hK) ?_
  refine AQ_cons (by intro K Q hK; refine At_indexStr (s := popTab) (i := x / 2 ^ 8 &&& 255) hF Try.underlying9 (by exact rfl) (by exact rfl) (by exact tab_at _ a2) ?_; exact At_nilK hK) ?_
  (repeat ((with_reducible refine is_AQc ?_); refine AQ_cons (by intro K Q hK; (repeat (first | ((with_reducible refine is_move ?_); (refine At_plain hF (by (exact (rfl : _ = some (Value.int _ _)))) ?_)) | ((with_reducible refine is_bin ?_); (refine At_plain hF (by (exact (rfl : _ = some (Value.int _ _)))) ?_)))); exact At_nilK hK) ?_))
  refine AQ_cons (by intro K Q hK; refine At_and (a := x) (b := 255) hF (by exact rfl) (by exact rfl) (by omega) (by decide) ?_; exact At_nilK hK) ?_
  refine AQ_cons (by intro K Q hK; refine At_indexStr (s := popTab) (i := x &&& 255) hF Try.underlying9 (by exact rfl) (by exact rfl) (by exact tab_at _ a3) ?_; exact At_nilK hK) ?_
  (repeat ((with_reducible refine is_AQc ?_); refine AQ_cons (by intro K Q hK; (repeat ((with_reducible refine is_bin ?_); (refine At_plain hF (by (exact (rfl : _ = some (Value.int _ _)))) ?_))); exact At_nilK hK) ?_))
  refine AQ_cons (by intro K Q hK; refine At_conv hF Try.underlying5 Try.underlying3 (by exact rfl) ?_; exact At_nilK hK) ?_
  (repeat ((with_reducible refine is_AQc ?_); refine AQ_cons (by intro K Q hK; skip; exact At_nilK hK) ?_)); refine AQ_done ?_
  (repeat (first | ((with_reducible refine is_AL ?_); (first | ((with_reducible refine is_assign ?_); (refine At_plain hF (by (exact (rfl : _ = some (Value.int _ _)))) ?_)) | with_reducible refine At_nil ?_)) | ((with_reducible refine is_At ?_); (first | with_reducible refine At_ret ?_ | with_reducible refine At_then_n ?_ | with_reducible refine At_go (by assumption) ?_))))
  refine At_ret1 rfl (rv_tmp (by decide)) (fun w' hw' => ⟨_, rfl, ?_, hw'.below⟩)
  rw [← ocE_eq x hx]
  rfl
end Go.Proofs.Ytecgklfcblpkdaa.P

/- Patterns, and sets that are short of games: plain. -/
namespace Go.Proofs.Ytecgklfcblpkdaa.P
open Go.RowKit Go.Proofs.YtecgklfcblpkdaaW.PrintWords Go.Proofs.YtecgklfcblpkdaaW.PrintLast Go.Proofs.YtecgklfcblpkdaaW.PrintMore
open XW
set_option linter.unusedSimpArgs false
set_option linter.unusedVariables false
def rowOk1 (p : List (List Int)) (l : List Int) : Prop := l.length = (p.getD 0 []).length ∧ l.length ≤ 64 ∧ ∀ x ∈ l, -1 ≤ x ∧ x ≤ 1
instance (p : List (List Int)) (l : List Int) : Decidable (rowOk1 p l) := by unfold rowOk1; infer_instance
def patOk (p : List (List Int)) : Prop := p.length ≤ 20 ∧ ∀ l ∈ p, rowOk1 p l
instance (p : List (List Int)) : Decidable (patOk p) := by unfold patOk; infer_instance
theorem pats_l0 (p : List (List Int)) (hp : p.length ≤ 9223372036854775807) : ∀ (d i : Nat), p.length - i ≤ d → i ≤ p.length → (∀ q, q < i → rowOk1 p (p.getD q [])) → ∃ K0, ∀ k, K0 ≤ k → patterns_patterns.l0 k p p p.length i = some (decide (patOk p)) := by
  intro d
  have hlast : (∀ q, q < p.length → rowOk1 p (p.getD q [])) → ∃ K0, ∀ k, K0 ≤ k → patterns_patterns.l0 k p p p.length p.length = some (decide (patOk p)) := fun h => by
    refine ⟨1, fun k hk => ?_⟩
    obtain ⟨k, rfl⟩ : ∃ k', k = k' + 1 := ⟨k - 1, by omega⟩
    rw [patterns_patterns.l0, if_neg (by omega)]
    have h2 : ∀ l ∈ p, rowOk1 p l := fun l hl => by
      obtain ⟨q, hq, rfl⟩ := List.getElem_of_mem hl
      have := h q hq
      rwa [List.getD_eq_getElem?_getD, List.getElem?_eq_getElem hq] at this
    congr 1
    rw [decide_eq_decide]
    exact ⟨fun h3 => ⟨by omega, h2⟩, fun h3 => by have := h3.1; omega⟩
  induction d with
  | zero =>
    intro i hd hi h
    obtain rfl : i = p.length := by omega
    exact hlast h
  | succ d ih =>
    intro i hd hi h
    by_cases hlt : i < p.length
    · have hrd : rd_L3 p (i : Int) = p.getD i [] := by rw [rd_L3, Int.toNat_natCast]
      have hrd0 : rd_L3 p 0 = p.getD 0 [] := rfl
      have hno : ¬ rowOk1 p (p.getD i []) → some false = some (decide (patOk p)) := fun hc => by
        rw [decide_eq_false (fun h2 => hc (h2.2 _ (getD_mem' hlt)))]
      obtain ⟨K, hK⟩ : ∃ K, rowOk1 p (p.getD i []) → ∀ k, K ≤ k → patterns_patterns.l0 k p p p.length ((i + 1 : Nat) : Int) = some (decide (patOk p)) := by
        by_cases h1 : rowOk1 p (p.getD i [])
        · obtain ⟨K, hK⟩ := ih (i + 1) (by omega) hlt (fun q hq => by
            by_cases e : q = i
            · subst e; exact h1
            · exact h q (by omega))
          exact ⟨K, fun _ => hK⟩
        · exact ⟨0, fun h2 => absurd h2 h1⟩
      have hj : ∀ k, patterns_patterns.j1 (k + 1) p (p.getD i []) p p.length i true = some false := fun k => by rw [patterns_patterns.j1, if_pos rfl]
      have inner : (p.getD i []).length = (p.getD 0 []).length → (p.getD i []).length ≤ 64 → ∀ (d2 j k2 : Nat), (p.getD i []).length - j ≤ d2 → d2 + K + 2 ≤ k2 → j ≤ (p.getD i []).length → (∀ q, q < j → -1 ≤ (p.getD i []).getD q 0 ∧ (p.getD i []).getD q 0 ≤ 1) → patterns_patterns.l1 k2 p p p.length i (p.getD i []) ((p.getD i []).length : Int) j = some (decide (patOk p)) := by
        intro hl1 hl2 d2
        have hend : ∀ k2, K + 1 ≤ k2 → (∀ q, q < (p.getD i []).length → -1 ≤ (p.getD i []).getD q 0 ∧ (p.getD i []).getD q 0 ≤ 1) → patterns_patterns.l1 k2 p p p.length i (p.getD i []) ((p.getD i []).length : Int) ((p.getD i []).length : Nat) = some (decide (patOk p)) := by
          intro k2 hk2 hc
          obtain ⟨k2, rfl⟩ : ∃ k', k2 = k' + 1 := ⟨k2 - 1, by omega⟩
          rw [patterns_patterns.l1, if_neg (by omega), w64 (by omega)]
          refine hK ⟨hl1, hl2, fun x hx => ?_⟩ k2 (by omega)
          obtain ⟨q, hq, rfl⟩ := List.getElem_of_mem hx
          have := hc q hq
          rwa [List.getD_eq_getElem?_getD, List.getElem?_eq_getElem hq] at this
        induction d2 with
        | zero =>
          intro j k2 hd2 hk2 hj2 hc
          obtain rfl : j = (p.getD i []).length := by omega
          exact hend k2 (by omega) hc
        | succ d2 ih2 =>
          intro j k2 hd2 hk2 hj2 hc
          by_cases hlt2 : j < (p.getD i []).length
          · obtain ⟨k2, rfl⟩ : ∃ k', k2 = k' + 1 := ⟨k2 - 1, by omega⟩
            have hx : rd (p.getD i []) (j : Int) = (p.getD i []).getD j 0 := by rw [rd, Int.toNat_natCast]
            have hbad : ¬ (-1 ≤ (p.getD i []).getD j 0 ∧ (p.getD i []).getD j 0 ≤ 1) → some false = some (decide (patOk p)) := fun hb => hno (fun h2 => hb (h2.2.2 _ (getD_mem' hlt2)))
            rw [patterns_patterns.l1, if_pos (by omega), if_pos (by omega), if_pos (by omega), hx, w64 (by omega)]
            by_cases e1 : (p.getD i []).getD j 0 < -1
            · rw [if_pos e1]; exact hbad (by omega)
            rw [if_neg e1]
            by_cases e2 : (p.getD i []).getD j 0 > 1
            · rw [if_pos e2]; exact hbad (by omega)
            rw [if_neg e2]
            refine ih2 (j + 1) k2 (by omega) (by omega) hlt2 fun q hq => ?_
            by_cases e : q = j
            · subst e; omega
            · exact hc q (by omega)
          · obtain rfl : j = (p.getD i []).length := by omega
            exact hend k2 (by omega) hc
      refine ⟨(p.getD i []).length + K + 5, fun k hk => ?_⟩
      obtain ⟨k, rfl⟩ : ∃ k', k = k' + 1 := ⟨k - 1, by omega⟩
      rw [patterns_patterns.l0, if_pos (by omega), if_pos (by omega), if_pos (by omega), if_pos (by omega), hrd, hrd0]
      obtain ⟨k, rfl⟩ : ∃ k', k = k' + 1 := ⟨k - 1, by omega⟩
      by_cases e1 : ((p.getD i []).length : Int) = ((p.getD 0 []).length : Int)
      · rw [if_pos e1]
        by_cases e2 : ((p.getD i []).length : Int) > 64
        · rw [decide_eq_true e2, hj]; exact hno (fun h2 => by have := h2.2.1; omega)
        · rw [decide_eq_false e2, patterns_patterns.j1, if_neg (by simp)]
          exact inner (by omega) (by omega) (p.getD i []).length 0 k (by omega) (by omega) (by omega) (fun q hq => by omega)
      · rw [if_neg e1, hj]; exact hno (fun h2 => by have := h2.1; omega)
    · obtain rfl : i = p.length := by omega
      exact hlast h
theorem pats_f (p : List (List Int)) (hp : p.length ≤ 9223372036854775807) : ∃ k, patterns_patterns.f k p = some (decide (patOk p)) := by
  obtain ⟨K, hK⟩ := pats_l0 p hp p.length 0 (by omega) (by omega) (fun q hq => by omega)
  exact ⟨K, hK K (Nat.le_refl _)⟩
def mk (v : Int) (p : List (List Int)) : Nat → Nat → Nat
  | 0, _ => 0
  | t + 1, r => if (p.getD t []).getD r 0 = v then mk v p t r ||| 1 * 2 ^ t else mk v p t r
theorem mk_lt (v : Int) (p : List (List Int)) : ∀ (t r : Nat), t ≤ 10 → mk v p t r < 1024
  | 0, r, _ => by simp [mk]
  | t + 1, r, h => by
    have ih := mk_lt v p t r (by omega)
    rw [mk]
    split
    · exact Nat.or_lt_two_pow (n := 10) ih (by rw [Nat.one_mul]; exact Nat.pow_lt_pow_right (by decide) (by omega))
    · exact ih
def mst (v : Int) (p : List (List Int)) (t r : Nat) : List Nat := (List.range 64).map fun s => mk v p (if s < r then t + 1 else t) s
theorem mst_len (v : Int) (p : List (List Int)) (t r : Nat) : (mst v p t r).length = 64 := by simp [mst]
theorem mst_get (v : Int) (p : List (List Int)) (t r : Nat) (h : r < 64) : (mst v p t r).getD r default = mk v p t r := by
  rw [List.getD_eq_getElem?_getD, mst, List.getElem?_map, List.getElem?_range h]; simp
theorem mst_set (v : Int) (p : List (List Int)) (t r : Nat) (h : r < 64) (hv : (p.getD t []).getD r 0 = v) : (mst v p t r).set r (mk v p t r ||| 1 * 2 ^ t) = mst v p t (r + 1) := by
  apply List.ext_getElem
  · simp [mst]
  · intro s h1 h2
    rw [List.getElem_set]
    simp only [mst, List.getElem_map, List.getElem_range]
    by_cases e : r = s
    · subst e; rw [if_pos rfl, if_pos (by omega), mk, if_pos hv]
    · rw [if_neg e]
      by_cases e2 : s < r
      · rw [if_pos e2, if_pos (by omega)]
      · rw [if_neg e2, if_neg (by omega)]
theorem mst_skip (v : Int) (p : List (List Int)) (t r : Nat) (hv : (p.getD t []).getD r 0 ≠ v) : mst v p t r = mst v p t (r + 1) := by
  refine List.map_congr_left fun s _ => ?_
  by_cases e : s = r
  · subst e; rw [if_neg (by omega), if_pos (by omega), mk, if_neg hv]
  · by_cases e2 : s < r
    · rw [if_pos e2, if_pos (by omega)]
    · rw [if_neg e2, if_neg (by omega)]
theorem mst_row (v : Int) (hv : v ≠ 0) (p : List (List Int)) (t : Nat) (R : Nat) (hR : (p.getD t []).length ≤ R) : mst v p t R = mst v p (t + 1) 0 := by
  refine List.map_congr_left fun s _ => ?_
  rw [if_neg (by omega : ¬ s < 0)]
  by_cases e : s < R
  · rw [if_pos e]
  · rw [if_neg e, mk, if_neg]
    rw [List.getD_eq_getElem?_getD, List.getElem?_eq_none (by omega)]
    exact fun h => hv h.symm
theorem mst_zero (v : Int) (p : List (List Int)) : mst v p 0 0 = List.replicate 64 0 := by
  refine List.ext_getElem (by simp [mst]) fun s h1 h2 => ?_
  simp only [mst, List.getElem_map, List.getElem_range, List.getElem_replicate]
  rw [if_neg (by omega)]; rfl
def gameR (p : List (List Int)) (set r : Nat) : Int := min (popc (set &&& mk 1 p p.length r)) (popc (set &&& mk (-1) p p.length r))
def left0 (set : Nat) : Int := (popc set : Int) * ((popc set : Int) - 1) / 2
def leftR (p : List (List Int)) (set : Nat) : Nat → Int
  | 0 => left0 set
  | r + 1 => leftR p set r - gameR p set r
def shortB (p : List (List Int)) (set : Nat) : Bool := decide (0 < leftR p set (p.getD 0 []).length)
theorem popc_bd (x : Nat) : popc x ≤ 10 := by
  have := List.length_filter_le (fun t => x.testBit t) (List.range 10)
  rw [popc]; simpa using this
theorem gameR_nn (p : List (List Int)) (set r : Nat) : 0 ≤ gameR p set r ∧ gameR p set r ≤ 10 := by
  have h1 := popc_bd (set &&& mk 1 p p.length r)
  unfold gameR; omega
theorem leftR_mono (p : List (List Int)) (set : Nat) : ∀ r d : Nat, leftR p set (r + d) ≤ leftR p set r
  | r, 0 => Int.le_refl _
  | r, d + 1 => by
    have := leftR_mono p set r d
    have h2 := gameR_nn p set (r + d)
    rw [← Nat.add_assoc, leftR]; omega
theorem left0_bd (set : Nat) : -1 ≤ left0 set ∧ left0 set ≤ 50 := by
  have h := popc_bd set
  have h1 : ∀ k : Nat, k ≤ 10 → -1 ≤ (k : Int) * ((k : Int) - 1) / 2 ∧ (k : Int) * ((k : Int) - 1) / 2 ≤ 50 := by decide
  exact h1 _ h
theorem mst_get0 (v : Int) (p : List (List Int)) (t s : Nat) (h : s < 64) : (mst v p t 0).getD s default = mk v p t s := by
  rw [List.getD_eq_getElem?_getD, mst, List.getElem?_map, List.getElem?_range h]; simp
set_option maxRecDepth 100000 in
theorem sets_ok : ∀ n, n ≤ 10 → ∀ x ∈ setsL n, x < 1024 ∧ 2 ≤ popc x := by decide +kernel
theorem find_pre {q : Nat → Bool} {L xs : List Nat} {a : Nat} (h : (xs ++ [a]) <+: L) (hno : ∀ x ∈ xs, q x = false) (ha : q a = true) : L.find? q = some a := by
  obtain ⟨r, rfl⟩ := h
  rw [List.append_assoc, List.find?_append, List.find?_eq_none.2 (fun x hx => by rw [hno x hx]; simp)]
  simp [ha]
theorem tb_iff (a t : Nat) : (a / 2 ^ t &&& 1 : Nat) = 1 ↔ a.testBit t = true := by
  rw [Nat.and_one_is_mod, Nat.testBit_eq_decide_div_mod_eq]; simp
theorem q_bd (k : Nat) (h : k ≤ 10) : 0 ≤ (k : Int) * ((k : Int) - 1) ∧ (k : Int) * ((k : Int) - 1) ≤ 90 := by
  have h1 : ∀ k : Nat, k ≤ 10 → 0 ≤ (k : Int) * ((k : Int) - 1) ∧ (k : Int) * ((k : Int) - 1) ≤ 90 := by decide
  exact h1 k h
theorem left0_pos {a : Nat} (h : 2 ≤ popc a) : 0 < left0 a := by
  have h1 : ∀ k : Nat, k ≤ 10 → 2 ≤ k → 0 < (k : Int) * ((k : Int) - 1) / 2 := by decide
  exact h1 _ (popc_bd a) h
def membs (n set : Nat) : List Int := ((List.range n).filter fun t => set.testBit t).map fun (t : Nat) => (t : Int)
theorem membs_succ (t set : Nat) : membs (t + 1) set = membs t set ++ (if set.testBit t = true then [(t : Int)] else []) := by
  rw [membs, List.range_succ, List.filter_append, List.map_append, membs]
  by_cases h : set.testBit t = true
  · simp [h]
  · simp [h]
theorem membs_len (t set : Nat) : (membs t set).length ≤ t := by
  have := List.length_filter_le (fun t => set.testBit t) (List.range t)
  simp only [membs, List.length_map]; simpa using this
def vioF (p : List (List Int)) : List Int × Bool × Int :=
  if p.length < 2 ∨ p.length > 10 ∨ ¬ patOk p then ([], false, 210) else match (setsL p.length).find? (shortB p) with
  | some set => (membs p.length set, true, 0)
  | none => ([], false, 0)
end Go.Proofs.Ytecgklfcblpkdaa.P

/- patterns.Violates: walk. -/
namespace Go.Proofs.Ytecgklfcblpkdaa.P
open Go.RowKit Go.Proofs.YtecgklfcblpkdaaW.PrintWords Go.Proofs.YtecgklfcblpkdaaW.PrintLast Go.Proofs.YtecgklfcblpkdaaW.PrintMore
open XW RegInv
attribute [local irreducible] Addr.add
set_option linter.unusedSimpArgs false
set_option linter.unusedVariables false

theorem E25 : Enters Try.prog 25 := enters Try.func25 (by kernel_rfl) rfl
theorem E28 : Enters Try.prog 28 := enters Try.func28 (by kernel_rfl) rfl
theorem pats_rets (A : Option Addr) (c : Nat) (p : List (List Int)) (w : World) (hr : Kd.C (Kd.slice 3 (Kd.int .i64)) w A p.length p) (hc : p.length ≤ c) : Rets Try.prog 25 #[.slice A p.length c] w fun u w' => u = .bool (decide (patOk p)) ∧ Below w.heap.size w w' := by
  obtain ⟨k, hk⟩ := pats_f p hr.2.1
  exact (patterns_patterns.calls k A c p _ w hr hc hk).mono (by rintro e w'' ⟨rfl, hb⟩; exact ⟨_, rfl, rfl, hb.below⟩)
/-- a row of the caller's lists -/
theorem CL {w : World} {A : Option Addr} {n : Nat} {p : List (List Int)} (h : Kd.C (Kd.slice 3 (Kd.int .i64)) w A n p) (k : Nat) (hk : k < n) : ∃ ad A0 c0, A = some ad ∧ w.cell? (ad.add k) = some (.slice A0 (p.getD k []).length c0) ∧ (p.getD k []).length ≤ c0 ∧ Kd.C (Kd.int .i64) w A0 (p.getD k []).length (p.getD k []) := by
  have := at_L3 h (k : Int) (by omega) (by omega)
  rwa [rd_L3, Int.toNat_natCast] at this
theorem CI {w : World} {A : Option Addr} {n : Nat} {xs : List Int} (h : Kd.C (Kd.int .i64) w A n xs) (k : Nat) (hk : k < n) : ∃ ad, A = some ad ∧ w.cell? (ad.add k) = some (.int .i64 (xs.getD k 0)) := by
  obtain ⟨ad, c, hA, _, hK, hc⟩ := Kd.C_get h 0 (k : Int) (by omega) (by omega)
  rw [Int.toNat_natCast] at hK hc
  refine ⟨ad, hA, ?_⟩
  have e : c = [.int .i64 (xs.getD k 0)] := hK
  have := hc 0 _ (by rw [e]; rfl)
  simpa [Kd.int, Kd.scalar] using this
def vioPost (p : List (List Int)) (u : Value) (Rs : List Res) : Prop :=
  ∃ A c, u = .tuple #[rowV A (vioF p).1.length c, .bool (vioF p).2.1, .int .i64 (vioF p).2.2] ∧ Rs = [.row 3 1 (sc (Value.int .i64)) A c (vioF p).1]
/-- what Violates holds: while it searches; when it has found -/
abbrev VS := Option (Nat × Option Nat × Nat)
def VRs (A : Option Addr) (c : Nat) (p : List (List Int)) (b1 b2 b3 b4 b5 b6 : Nat) : VS → List Res
  | none => [.obj b6 (.cells (buf (sc u32v) (mst (-1) p p.length 0) []) 55), .obj b5 (.cells (buf (sc u32v) (mst 1 p p.length 0) []) 55), .obj b4 (.cells #[.int .i64 0] 26), .obj b3 (.cells #[.bool false] 4), .obj b2 (.cells #[.slice none 0 0] 29), .obj b1 (.cells #[.slice A p.length c] 23)]
  | some (set, A', c') => [.row 3 1 (sc (Value.int .i64)) A' c' (membs p.length set), .obj b4 (.cells #[.int .i64 0] 26), .obj b3 (.cells #[.bool true] 4), .obj b2 (.cells #[rowV A' (membs p.length set).length c'] 29)]
theorem At.perm' {base : World} {R R' : List Res} {Φ : World → Prop} (h : R.Perm R') (hA : At base R' Φ) : At base R Φ := fun w hw => hA w (hw.perm h.symm)
set_option maxHeartbeats 8000000 in
theorem vio_rets (A : Option Addr) (c : Nat) (p : List (List Int)) (w : World) (hr : Kd.C (Kd.slice 3 (Kd.int .i64)) w A p.length p) (hc : p.length ≤ c) : Rets Try.prog 20 #[.slice A p.length c] w fun u w' => ∃ Rs, vioPost p u Rs ∧ Mem w w' Rs := by
  have hF := wide_wide
  have hmx := hr.2.1
  have hbad : (p.length < 2 ∨ p.length > 10 ∨ ¬ patOk p) → vioF p = ([], false, 210) := fun h => by rw [vioF, if_pos h]
  refine rets_at (n := 116) Try.func20 rfl Try.ntmps20 (by simp) ?_
  ((repeat (first | ((with_reducible refine is_AL ?_); (first | ((with_reducible refine is_move ?_); (refine At_plain hF (by (exact (rfl : _ = some (Value.bool _)))) ?_)) | ((with_reducible refine is_bin ?_); (refine At_plain hF (by (exact (rfl : _ = some (Value.bool _)))) ?_)) | ((with_reducible refine is_call ?_); (refine At_len hF rfl ?_)) | ((with_reducible refine is_load ?_); (refine At_load hF 3 rfl rfl (by (exact (rfl : _ = some (Value.slice _ _ _)))) ?_)) | with_reducible refine At_nil ?_)) | ((with_reducible refine is_At ?_); (first | with_reducible refine At_seq ?_; intro K hK | with_reducible refine At_scope ?_ | with_reducible refine At_region ?_ | with_reducible refine At_then_n ?_ | with_reducible refine At_go (by assumption) ?_)))); (first | ((with_reducible refine is_alloc ?_); (refine At_alloc hF (by (exact (rfl : _ = List.toArray (_ :: _)))) ?_; intro b1)) | ((with_reducible refine is_box ?_); (refine At_box1 hF (by (exact (rfl : _ = (Value.slice _ _ _)))) rfl ?_; intro b1))); (repeat (first | ((with_reducible refine is_AL ?_); (first | ((with_reducible refine is_move ?_); (refine At_plain hF (by (exact (rfl : _ = some (Value.bool _)))) ?_)) | ((with_reducible refine is_bin ?_); (refine At_plain hF (by (exact (rfl : _ = some (Value.bool _)))) ?_)) | ((with_reducible refine is_call ?_); (refine At_len hF rfl ?_)) | ((with_reducible refine is_load ?_); (refine At_load hF 3 rfl rfl (by (exact (rfl : _ = some (Value.slice _ _ _)))) ?_)) | with_reducible refine At_nil ?_)) | ((with_reducible refine is_At ?_); (first | with_reducible refine At_seq ?_; intro K hK | with_reducible refine At_scope ?_ | with_reducible refine At_region ?_ | with_reducible refine At_then_n ?_ | with_reducible refine At_go (by assumption) ?_)))); (first | ((with_reducible refine is_alloc ?_); (refine At_alloc hF (by (exact (rfl : _ = List.toArray (_ :: _)))) ?_; intro b2)) | ((with_reducible refine is_box ?_); (refine At_box1 hF (by (exact (rfl : _ = (Value.slice _ _ _)))) rfl ?_; intro b2))); (repeat (first | ((with_reducible refine is_AL ?_); (first | ((with_reducible refine is_move ?_); (refine At_plain hF (by (exact (rfl : _ = some (Value.bool _)))) ?_)) | ((with_reducible refine is_bin ?_); (refine At_plain hF (by (exact (rfl : _ = some (Value.bool _)))) ?_)) | ((with_reducible refine is_call ?_); (refine At_len hF rfl ?_)) | ((with_reducible refine is_load ?_); (refine At_load hF 3 rfl rfl (by (exact (rfl : _ = some (Value.slice _ _ _)))) ?_)) | with_reducible refine At_nil ?_)) | ((with_reducible refine is_At ?_); (first | with_reducible refine At_seq ?_; intro K hK | with_reducible refine At_scope ?_ | with_reducible refine At_region ?_ | with_reducible refine At_then_n ?_ | with_reducible refine At_go (by assumption) ?_)))); (first | ((with_reducible refine is_alloc ?_); (refine At_alloc hF (by (exact (rfl : _ = List.toArray (_ :: _)))) ?_; intro b3)) | ((with_reducible refine is_box ?_); (refine At_box1 hF (by (exact (rfl : _ = (Value.slice _ _ _)))) rfl ?_; intro b3))); (repeat (first | ((with_reducible refine is_AL ?_); (first | ((with_reducible refine is_move ?_); (refine At_plain hF (by (exact (rfl : _ = some (Value.bool _)))) ?_)) | ((with_reducible refine is_bin ?_); (refine At_plain hF (by (exact (rfl : _ = some (Value.bool _)))) ?_)) | ((with_reducible refine is_call ?_); (refine At_len hF rfl ?_)) | ((with_reducible refine is_load ?_); (refine At_load hF 3 rfl rfl (by (exact (rfl : _ = some (Value.slice _ _ _)))) ?_)) | with_reducible refine At_nil ?_)) | ((with_reducible refine is_At ?_); (first | with_reducible refine At_seq ?_; intro K hK | with_reducible refine At_scope ?_ | with_reducible refine At_region ?_ | with_reducible refine At_then_n ?_ | with_reducible refine At_go (by assumption) ?_)))); (first | ((with_reducible refine is_alloc ?_); (refine At_alloc hF (by (exact (rfl : _ = List.toArray (_ :: _)))) ?_; intro b4)) | ((with_reducible refine is_box ?_); (refine At_box1 hF (by (exact (rfl : _ = (Value.slice _ _ _)))) rfl ?_; intro b4))); (repeat (first | ((with_reducible refine is_AL ?_); (first | ((with_reducible refine is_move ?_); (refine At_plain hF (by (exact (rfl : _ = some (Value.bool _)))) ?_)) | ((with_reducible refine is_bin ?_); (refine At_plain hF (by (exact (rfl : _ = some (Value.bool _)))) ?_)) | ((with_reducible refine is_call ?_); (refine At_len hF rfl ?_)) | ((with_reducible refine is_load ?_); (refine At_load hF 3 rfl rfl (by (exact (rfl : _ = some (Value.slice _ _ _)))) ?_)) | with_reducible refine At_nil ?_)) | ((with_reducible refine is_At ?_); (first | with_reducible refine At_seq ?_; intro K hK | with_reducible refine At_scope ?_ | with_reducible refine At_region ?_ | with_reducible refine At_then_n ?_ | with_reducible refine At_go (by assumption) ?_)))))
  (repeat' (first | ((with_reducible refine is_AL ?_); (first | ((with_reducible refine is_guarded ?_); (first | refine At_guard_t rfl (by decide) rfl ?_ | refine At_guard_f hF rfl (by decide) rfl rfl ?_)) | ((with_reducible refine is_move ?_); (refine At_plain hF (by (exact (rfl : _ = some (Value.bool _)))) ?_)) | ((with_reducible refine is_bin ?_); (refine At_plain hF (by (exact (rfl : _ = some (Value.bool _)))) ?_)) | ((with_reducible refine is_pick ?_); (refine At_plain hF (by (exact (rfl : _ = some (Value.bool _)))) ?_)) | ((with_reducible refine is_call ?_); (refine At_len hF rfl ?_)) | ((with_reducible refine is_load ?_); (refine At_load hF 3 rfl rfl (by (exact (rfl : _ = some (Value.slice _ _ _)))) ?_)) | ((with_reducible refine is_store ?_); (first | refine At_store_0 hF rfl (by (first | exact (rfl : _ = (Value.int _ _)) | exact (rfl : _ = (Value.bool _)) | exact (rfl : _ = (Value.slice _ _ _)))) (by (decide)) (by exact rfl) (by exact rfl) (by (exact (rfl : _ = List.toArray (_ :: _)))) ?_ | refine At_store_1 hF rfl (by (first | exact (rfl : _ = (Value.bool _)) | exact (rfl : _ = (Value.slice _ _ _)))) (by (decide)) (by exact rfl) (by exact rfl) (by (exact (rfl : _ = List.toArray (_ :: _)))) ?_ | refine At_store_2 hF rfl (by (exact (rfl : _ = (Value.slice _ _ _)))) (by (decide)) (by exact rfl) (by exact rfl) (by (exact (rfl : _ = List.toArray (_ :: _)))) ?_)) | with_reducible refine At_nil ?_)) | ((with_reducible refine is_At ?_); (first | with_reducible refine At_seq ?_; intro K hK | with_reducible refine At_region ?_ | with_reducible refine At_ret ?_ | with_reducible refine At_then_n ?_ | with_reducible refine At_then_r ?_ | with_reducible refine At_nogo_r ?_ | with_reducible refine At_go (by assumption) ?_ | ((with_reducible refine is_cond ?_); (refine At_cond_t rfl ?_)))) | ((with_reducible refine is_guarded ?_); (refine At_guard hF rfl (by decide) rfl ?_ ?_ <;> (intro hg; try (simp only [decide_eq_true_eq, decide_eq_false_iff_not, beq_iff_eq, bne_iff_ne, beq_eq_false_iff_ne, bne_eq_false_iff_eq, ne_eq, Bool.not_eq_true', Bool.not_eq_false', Bool.not_true, Bool.not_false, Decidable.not_not] at hg); try (exfalso; first | omega | exact hg True.intro))))))
  rotate_left
  · have hv := hbad (by omega)
    refine At_ret3 rfl (rv_cell (by decide) rfl 2 rfl rfl) (rv_cell (by decide) rfl 1 rfl rfl) (rv_cell (by decide) rfl 0 rfl rfl) ?_
    exact At.sub (R' := []) (List.nil_sublist _) (At.newNil 3 1 (sc (Value.int .i64)) (fun _ => rfl) (fun w' hw' => ⟨_, rfl, _, by unfold vioPost; rw [hv]; exact ⟨none, 0, rfl, rfl⟩, hw'⟩))
  · have hv := hbad (by omega)
    refine At_ret3 rfl (rv_cell (by decide) rfl 2 rfl rfl) (rv_cell (by decide) rfl 1 rfl rfl) (rv_cell (by decide) rfl 0 rfl rfl) ?_
    exact At.sub (R' := []) (List.nil_sublist _) (At.newNil 3 1 (sc (Value.int .i64)) (fun _ => rfl) (fun w' hw' => ⟨_, rfl, _, by unfold vioPost; rw [hv]; exact ⟨none, 0, rfl, rfl⟩, hw'⟩))
  refine At_callB hF E25 rfl (arg1 (by (first | exact (rfl : _ = (Value.int _ _)) | exact (rfl : _ = (Value.bool _)) | exact (rfl : _ = (Value.pointer _)) | exact (rfl : _ = (Value.slice _ _ _)) | exact (rfl : _ = (Value.map _)) | exact (rfl : _ = (Value.func _ _ _)) | exact (rfl : _ = (Value.tuple _)) | exact (rfl : _ = (Value.agg _)) | exact (rfl : _ = (Value.string _)) | exact (rfl : _ = (Value.nilFunc)) | exact (rfl : _ = (Value.nilIface))))) (fun w' hw' => pats_rets A c p w' (Kd.C_below hr hw'.below) hc) ?_
  by_cases hok : patOk p
  rotate_left
  · have hv := hbad (.inr (.inr hok))
    rw [decide_eq_false hok]
    (repeat (first | ((with_reducible refine is_AL ?_); (first | ((with_reducible refine is_guarded ?_); (refine At_guard_t rfl (by decide) rfl ?_)) | ((with_reducible refine is_pick ?_); (refine At_plain hF (by (exact (rfl : _ = some (Value.bool _)))) ?_)) | ((with_reducible refine is_un ?_); (refine At_plain hF (by (exact (rfl : _ = some (Value.bool _)))) ?_)) | ((with_reducible refine is_store ?_); (first | refine At_store_0 hF rfl (by (first | exact (rfl : _ = (Value.int _ _)) | exact (rfl : _ = (Value.bool _)) | exact (rfl : _ = (Value.slice _ _ _)))) (by (decide)) (by exact rfl) (by exact rfl) (by (exact (rfl : _ = List.toArray (_ :: _)))) ?_ | refine At_store_1 hF rfl (by (first | exact (rfl : _ = (Value.bool _)) | exact (rfl : _ = (Value.slice _ _ _)))) (by (decide)) (by exact rfl) (by exact rfl) (by (exact (rfl : _ = List.toArray (_ :: _)))) ?_ | refine At_store_2 hF rfl (by (exact (rfl : _ = (Value.slice _ _ _)))) (by (decide)) (by exact rfl) (by exact rfl) (by (exact (rfl : _ = List.toArray (_ :: _)))) ?_)) | with_reducible refine At_nil ?_)) | ((with_reducible refine is_At ?_); (first | with_reducible refine At_seq ?_; intro K hK | with_reducible refine At_region ?_ | with_reducible refine At_ret ?_ | with_reducible refine At_then_n ?_ | with_reducible refine At_then_r ?_ | with_reducible refine At_nogo_r ?_ | with_reducible refine At_go (by assumption) ?_ | ((with_reducible refine is_cond ?_); (refine At_cond_t rfl ?_))))))
    refine At_ret3 rfl (rv_cell (by decide) rfl 2 rfl rfl) (rv_cell (by decide) rfl 1 rfl rfl) (rv_cell (by decide) rfl 0 rfl rfl) ?_
    exact At.sub (R' := []) (List.nil_sublist _) (At.newNil 3 1 (sc (Value.int .i64)) (fun _ => rfl) (fun w' hw' => ⟨_, rfl, _, by unfold vioPost; rw [hv]; exact ⟨none, 0, rfl, rfl⟩, hw'⟩))
  rw [decide_eq_true hok]
  (repeat (first | ((with_reducible refine is_AL ?_); (first | ((with_reducible refine is_guarded ?_); (refine At_guard_t rfl (by decide) rfl ?_)) | ((with_reducible refine is_pick ?_); (refine At_plain hF (by (exact (rfl : _ = some (Value.bool _)))) ?_)) | ((with_reducible refine is_un ?_); (refine At_plain hF (by (exact (rfl : _ = some (Value.bool _)))) ?_)) | with_reducible refine At_nil ?_)) | ((with_reducible refine is_At ?_); (first | with_reducible refine At_seq ?_; intro K hK | with_reducible refine At_region ?_ | with_reducible refine At_skip ?_ | with_reducible refine At_then_n ?_ | with_reducible refine At_go (by assumption) ?_ | ((with_reducible refine is_cond ?_); (refine At_cond_f rfl ?_))))))
  refine At_alloc (cs := buf (sc u32v) (List.replicate 64 0) []) hF (by exact rfl) ?_
  intro b5
  refine At_alloc (cs := buf (sc u32v) (List.replicate 64 0) []) hF (by exact rfl) ?_
  intro b6
  (repeat (first | ((with_reducible refine is_AL ?_); (first | ((with_reducible refine is_move ?_); (refine At_plain hF (by (exact (rfl : _ = some (Value.int _ _)))) ?_)) | ((with_reducible refine is_call ?_); (refine At_len hF rfl ?_)) | ((with_reducible refine is_load ?_); (refine At_load hF 5 rfl rfl (by (exact (rfl : _ = some (Value.slice _ _ _)))) ?_)) | with_reducible refine At_nil ?_)) | ((with_reducible refine is_At ?_); (first | with_reducible refine At_seq ?_; intro K hK | with_reducible refine At_block ?_ | with_reducible refine At_region ?_ | with_reducible refine At_then_n ?_ | with_reducible refine At_go (by assumption) ?_))))
  have hp2 : 2 ≤ p.length ∧ p.length ≤ 10 := by omega
  have hgood : ¬ (p.length < 2 ∨ p.length > 10 ∨ ¬ patOk p) := by
    rintro (h | h | h)
    · omega
    · omega
    · exact h hok
  refine At_loop (fun t : Nat => [(1, ip b1), (2, ip b2), (3, ip b3), (4, ip b4), (5, ip b5), (6, ip b6), (29, .slice A p.length c), (30, .int .i64 p.length), (31, .int .i64 t)])
    (fun t => [.obj b6 (.cells (buf (sc u32v) (mst (-1) p t 0) []) 55), .obj b5 (.cells (buf (sc u32v) (mst 1 p t 0) []) 55), .obj b4 (.cells #[.int .i64 0] 26), .obj b3 (.cells #[.bool false] 4), .obj b2 (.cells #[.slice none 0 0] 29), .obj b1 (.cells #[.slice A p.length c] 23)]) (fun t => t ≤ p.length) (fun t => p.length - t) 0 ?_ ?_ (Nat.zero_le _) ?_
  · rw [mst_zero, mst_zero]; (repeat (first | exact List.Sublist.refl _ | exact List.Sublist.slnil | refine List.Sublist.cons_cons _ ?_ | refine List.Sublist.cons _ ?_))
  · (repeat (first | exact True.intro | (refine And.intro ?_ ?_; focus (show _ = (_ : Value); first | exact rfl | (refine Eq.trans (b := Value.int IntKind.i64 _) rfl (congrArg (Value.int IntKind.i64) ?_); omega)))))
  intro t ht K hL ρ0
  try dsimp only
  (repeat (first | ((with_reducible refine is_AL ?_); (first | ((with_reducible refine is_bin ?_); (refine At_plain hF (by (exact (rfl : _ = some (Value.bool _)))) ?_)) | with_reducible refine At_nil ?_)) | ((with_reducible refine is_At ?_); (first | with_reducible refine At_seq ?_; intro K hK | with_reducible refine At_region ?_ | with_reducible refine At_then_n ?_ | with_reducible refine At_go (by assumption) ?_))))
  ((with_reducible refine is_cond ?_); (refine At_cond rfl ?_ ?_ <;> (intro hg; try (simp only [decide_eq_true_eq, decide_eq_false_iff_not, beq_iff_eq, bne_iff_ne, beq_eq_false_iff_ne, bne_eq_false_iff_eq, ne_eq, Bool.not_eq_true', Bool.not_eq_false', Bool.not_true, Bool.not_false, Decidable.not_not] at hg); try (exfalso; first | omega | exact hg True.intro))))
  · have hlt : t < p.length := by omega
    obtain ⟨ad, A0, c0, hA, hcell, hc0, hrow⟩ := CL hr t hlt
    have hro := hok.2 _ (getD_mem' (d := []) hlt)
    have hrl : (p.getD t []).length ≤ 64 := hro.2.1
    (repeat (first | ((with_reducible refine is_AL ?_); (first | ((with_reducible refine is_move ?_); (refine At_plain hF (by (exact (rfl : _ = some (Value.int _ _)))) ?_)) | ((with_reducible refine is_index ?_); (refine At_indexC1 hF rfl (by assumption) rfl rfl (by omega) ?_)))) | ((with_reducible refine is_At ?_); (first | with_reducible refine At_seq ?_; intro K hK | with_reducible refine At_block ?_ | with_reducible refine At_region ?_ | with_reducible refine At_skip ?_ | with_reducible refine At_then_n ?_ | with_reducible refine At_go (by assumption) ?_))))
    refine At_loadC hF (by exact rfl) hcell ?_
    clear hA hcell
    (repeat (first | ((with_reducible refine is_AL ?_); (first | ((with_reducible refine is_move ?_); (refine At_plain hF (by (first | exact (rfl : _ = some (Value.int _ _)) | exact (rfl : _ = some (Value.slice _ _ _)))) ?_)) | ((with_reducible refine is_assign ?_); (refine At_plain hF (by (first | exact (rfl : _ = some (Value.int _ _)) | exact (rfl : _ = some (Value.slice _ _ _)))) ?_)) | ((with_reducible refine is_call ?_); (refine At_len hF rfl ?_)) | with_reducible refine At_nil ?_)) | ((with_reducible refine is_At ?_); (first | with_reducible refine At_seq ?_; intro K hK | with_reducible refine At_block ?_ | with_reducible refine At_region ?_ | with_reducible refine At_then_n ?_ | with_reducible refine At_go (by assumption) ?_))))
    refine At_loop (fun r : Nat => [(1, ip b1), (2, ip b2), (3, ip b3), (4, ip b4), (5, ip b5), (6, ip b6), (7, .int .i64 t), (29, .slice A p.length c), (30, .int .i64 p.length), (31, .int .i64 t), (36, .slice A0 (p.getD t []).length c0), (37, .int .i64 (p.getD t []).length), (38, .int .i64 r)])
      (fun r => [.obj b6 (.cells (buf (sc u32v) (mst (-1) p t r) []) 55), .obj b5 (.cells (buf (sc u32v) (mst 1 p t r) []) 55), .obj b4 (.cells #[.int .i64 0] 26), .obj b3 (.cells #[.bool false] 4), .obj b2 (.cells #[.slice none 0 0] 29), .obj b1 (.cells #[.slice A p.length c] 23)]) (fun r => r ≤ (p.getD t []).length) (fun r => (p.getD t []).length - r) 0 ?_ ?_ (Nat.zero_le _) ?_
    · (repeat (first | exact List.Sublist.refl _ | exact List.Sublist.slnil | refine List.Sublist.cons_cons _ ?_ | refine List.Sublist.cons _ ?_))
    · (repeat (first | exact True.intro | (refine And.intro ?_ ?_; focus (show _ = (_ : Value); first | exact rfl | (refine Eq.trans (b := Value.int IntKind.i64 _) rfl (congrArg (Value.int IntKind.i64) ?_); omega)))))
    intro r hr2 K hI ρ1
    try dsimp only
    (repeat (first | ((with_reducible refine is_AL ?_); (first | ((with_reducible refine is_bin ?_); (refine At_plain hF (by (exact (rfl : _ = some (Value.bool _)))) ?_)) | with_reducible refine At_nil ?_)) | ((with_reducible refine is_At ?_); (first | with_reducible refine At_seq ?_; intro K hK | with_reducible refine At_region ?_ | with_reducible refine At_then_n ?_ | with_reducible refine At_go (by assumption) ?_))))
    ((with_reducible refine is_cond ?_); (refine At_cond rfl ?_ ?_ <;> (intro hg; try (simp only [decide_eq_true_eq, decide_eq_false_iff_not, beq_iff_eq, bne_iff_ne, beq_eq_false_iff_ne, bne_eq_false_iff_eq, ne_eq, Bool.not_eq_true', Bool.not_eq_false', Bool.not_true, Bool.not_false, Decidable.not_not] at hg); try (exfalso; first | omega | exact hg True.intro))))
    · have hlt2 : r < (p.getD t []).length := by omega
      obtain ⟨ad, hA, hcell⟩ := CI hrow r hlt2
      have hr64 : r < 64 := by omega
      have hl1 := mst_len 1 p t r
      have hl2 := mst_len (-1) p t r
      have hg1 := mst_get 1 p t r hr64
      have hg2 := mst_get (-1) p t r hr64
      have hk1 := mk_lt 1 p t r (by omega)
      have hk2 := mk_lt (-1) p t r (by omega)
      have hpt : 1 * 2 ^ t < 1024 := by rw [Nat.one_mul]; exact Nat.pow_lt_pow_right (n := 10) (by decide) (by omega)
      (repeat (first | ((with_reducible refine is_AL ?_); (first | ((with_reducible refine is_move ?_); (refine At_plain hF (by (exact (rfl : _ = some (Value.int _ _)))) ?_)) | ((with_reducible refine is_index ?_); (refine At_indexC1 hF rfl (by assumption) rfl rfl (by omega) ?_)))) | ((with_reducible refine is_At ?_); (first | with_reducible refine At_seq ?_; intro K hK | with_reducible refine At_block ?_ | with_reducible refine At_region ?_ | with_reducible refine At_skip ?_ | with_reducible refine At_then_n ?_ | with_reducible refine At_go (by assumption) ?_))))
      refine At_loadC hF (by exact rfl) hcell ?_
      clear hA hcell
      (repeat (first | ((with_reducible refine is_AL ?_); (first | ((with_reducible refine is_move ?_); (refine At_plain hF (by (exact (rfl : _ = some (Value.int _ _)))) ?_)) | ((with_reducible refine is_bin ?_); (refine At_plain hF (by (exact (rfl : _ = some (Value.bool _)))) ?_)) | ((with_reducible refine is_assign ?_); (refine At_plain hF (by (first | exact (rfl : _ = some (Value.int _ _)) | exact (rfl : _ = some (Value.bool _)))) ?_)) | with_reducible refine At_nil ?_)) | ((with_reducible refine is_At ?_); (first | with_reducible refine At_seq ?_; intro K hK | with_reducible refine At_block ?_ | with_reducible refine At_region ?_ | with_reducible refine At_then_n ?_ | with_reducible refine At_go (by assumption) ?_))))
      ((with_reducible refine is_cond ?_); (refine At_cond rfl ?_ ?_ <;> (intro hg; try (simp only [decide_eq_true_eq, decide_eq_false_iff_not, beq_iff_eq, bne_iff_ne, beq_eq_false_iff_ne, bne_eq_false_iff_eq, ne_eq, Bool.not_eq_true', Bool.not_eq_false', Bool.not_true, Bool.not_false, Decidable.not_not] at hg); try (exfalso; first | omega | exact hg True.intro))))
      · have hs1 := mst_set 1 p t r hr64 hg
        have hs2 := mst_skip (-1) p t r (by omega)
        skip
        refine At_draw hF 7 (by kernel_rfl) (by decide +kernel) ?_; simp only [List.take_succ_cons, List.take_zero, List.drop_succ_cons, List.drop_zero]; (repeat ((with_reducible refine is_AQc ?_); refine AQ_cons (by intro K Q hK; (repeat (first | ((with_reducible refine is_move ?_); (refine At_plain hF (by (exact (rfl : _ = some (Value.int _ _)))) ?_)) | ((with_reducible refine is_load ?_); (refine At_load hF 1 rfl rfl (by (exact buf_getI _ (by omega))) ?_)) | ((with_reducible refine is_index ?_); (refine At_indexA1 hF rfl rfl rfl rfl (by first | decide | (simp only [TArr.m]; omega)) ?_)))); exact At_nilK hK) ?_))
        refine AQ_cons (by intro K Q hK; refine At_shl (a := 1) (b := t) hF (by exact rfl) (by exact rfl) (by omega) (by omega) ?_; exact At_nilK hK) ?_
        refine AQ_cons (by intro K Q hK; refine At_or (a := (mst 1 p t r).getD r default) (b := 1 * 2 ^ t) hF (by exact rfl) (by exact rfl) (by omega) (by omega) ?_; exact At_nilK hK) ?_
        (repeat ((with_reducible refine is_AQc ?_); refine AQ_cons (by intro K Q hK; (repeat ((with_reducible refine is_index ?_); (refine At_indexA1 hF rfl rfl rfl rfl (by first | decide | (simp only [TArr.m]; omega)) ?_))); exact At_nilK hK) ?_)); refine AQ_done ?_
        (repeat (first | ((with_reducible refine is_AL ?_); (first | ((with_reducible refine is_move ?_); (refine At_plain hF (by (exact (rfl : _ = some (Value.int _ _)))) ?_)) | ((with_reducible refine is_bin ?_); ((with_reducible refine is_badd ?_); (refine At_add hF rfl rfl (by omega) ?_))) | ((with_reducible refine is_store ?_); (refine At_store_1 hF rfl (by (exact (rfl : _ = (Value.int _ _)))) (by (simp [buf_size1]; omega)) (by exact rfl) (by exact rfl) (by (exact buf_set1 _ (by omega))) ?_)) | with_reducible refine At_nil ?_)) | ((with_reducible refine is_At ?_); (first | with_reducible refine At_region ?_ | with_reducible refine At_then_n ?_ | with_reducible refine At_inb_n ?_ | with_reducible refine At_go (by assumption) ?_))))
        rw [hg1, hs1, hs2]
        refine At.sub ?_ (hI (r + 1) _ (by omega) (by omega) ?_)
        · (repeat (first | exact List.Sublist.refl _ | exact List.Sublist.slnil | refine List.Sublist.cons_cons _ ?_ | refine List.Sublist.cons _ ?_))
        · (repeat (first | exact True.intro | (refine And.intro ?_ ?_; focus (show _ = (_ : Value); first | exact rfl | (refine Eq.trans (b := Value.int IntKind.i64 _) rfl (congrArg (Value.int IntKind.i64) ?_); omega)))))
      · have hs1 := mst_skip 1 p t r hg
        (repeat (first | ((with_reducible refine is_AL ?_); (first | ((with_reducible refine is_bin ?_); (refine At_plain hF (by (exact (rfl : _ = some (Value.bool _)))) ?_)) | ((with_reducible refine is_assign ?_); (refine At_plain hF (by (exact (rfl : _ = some (Value.bool _)))) ?_)) | with_reducible refine At_nil ?_)) | ((with_reducible refine is_At ?_); (first | with_reducible refine At_seq ?_; intro K hK | with_reducible refine At_region ?_ | with_reducible refine At_then_n ?_ | with_reducible refine At_go (by assumption) ?_))))
        ((with_reducible refine is_cond ?_); (refine At_cond rfl ?_ ?_ <;> (intro hg; try (simp only [decide_eq_true_eq, decide_eq_false_iff_not, beq_iff_eq, bne_iff_ne, beq_eq_false_iff_ne, bne_eq_false_iff_eq, ne_eq, Bool.not_eq_true', Bool.not_eq_false', Bool.not_true, Bool.not_false, Decidable.not_not] at hg); try (exfalso; first | omega | exact hg True.intro))))
        · have hs2 := mst_set (-1) p t r hr64 hg
          skip
          refine At_draw hF 7 (by kernel_rfl) (by decide +kernel) ?_; simp only [List.take_succ_cons, List.take_zero, List.drop_succ_cons, List.drop_zero]; (repeat ((with_reducible refine is_AQc ?_); refine AQ_cons (by intro K Q hK; (repeat (first | ((with_reducible refine is_move ?_); (refine At_plain hF (by (exact (rfl : _ = some (Value.int _ _)))) ?_)) | ((with_reducible refine is_load ?_); (refine At_load hF 0 rfl rfl (by (exact buf_getI _ (by omega))) ?_)) | ((with_reducible refine is_index ?_); (refine At_indexA1 hF rfl rfl rfl rfl (by first | decide | (simp only [TArr.m]; omega)) ?_)))); exact At_nilK hK) ?_))
          refine AQ_cons (by intro K Q hK; refine At_shl (a := 1) (b := t) hF (by exact rfl) (by exact rfl) (by omega) (by omega) ?_; exact At_nilK hK) ?_
          refine AQ_cons (by intro K Q hK; refine At_or (a := (mst (-1) p t r).getD r default) (b := 1 * 2 ^ t) hF (by exact rfl) (by exact rfl) (by omega) (by omega) ?_; exact At_nilK hK) ?_
          (repeat ((with_reducible refine is_AQc ?_); refine AQ_cons (by intro K Q hK; (repeat ((with_reducible refine is_index ?_); (refine At_indexA1 hF rfl rfl rfl rfl (by first | decide | (simp only [TArr.m]; omega)) ?_))); exact At_nilK hK) ?_)); refine AQ_done ?_
          (repeat (first | ((with_reducible refine is_AL ?_); (first | ((with_reducible refine is_move ?_); (refine At_plain hF (by (exact (rfl : _ = some (Value.int _ _)))) ?_)) | ((with_reducible refine is_bin ?_); ((with_reducible refine is_badd ?_); (refine At_add hF rfl rfl (by omega) ?_))) | ((with_reducible refine is_store ?_); (refine At_store_0 hF rfl (by (exact (rfl : _ = (Value.int _ _)))) (by (simp [buf_size1]; omega)) (by exact rfl) (by exact rfl) (by (exact buf_set1 _ (by omega))) ?_)) | with_reducible refine At_nil ?_)) | ((with_reducible refine is_At ?_); (first | with_reducible refine At_region ?_ | with_reducible refine At_then_n ?_ | with_reducible refine At_inb_n ?_ | with_reducible refine At_go (by assumption) ?_))))
          rw [hg2, hs2, hs1]
          refine At.sub ?_ (hI (r + 1) _ (by omega) (by omega) ?_)
          · (repeat (first | exact List.Sublist.refl _ | exact List.Sublist.slnil | refine List.Sublist.cons_cons _ ?_ | refine List.Sublist.cons _ ?_))
          · (repeat (first | exact True.intro | (refine And.intro ?_ ?_; focus (show _ = (_ : Value); first | exact rfl | (refine Eq.trans (b := Value.int IntKind.i64 _) rfl (congrArg (Value.int IntKind.i64) ?_); omega)))))
        · have hs2 := mst_skip (-1) p t r hg
          (repeat (first | ((with_reducible refine is_AL ?_); (first | ((with_reducible refine is_move ?_); (refine At_plain hF (by (exact (rfl : _ = some (Value.int _ _)))) ?_)) | ((with_reducible refine is_bin ?_); ((with_reducible refine is_badd ?_); (refine At_add hF rfl rfl (by omega) ?_))) | with_reducible refine At_nil ?_)) | ((with_reducible refine is_At ?_); (first | with_reducible refine At_region ?_ | with_reducible refine At_skip ?_ | with_reducible refine At_then_n ?_ | with_reducible refine At_inb_n ?_ | with_reducible refine At_go (by assumption) ?_))))
          rw [hs1, hs2]
          refine At.sub ?_ (hI (r + 1) _ (by omega) (by omega) ?_)
          · (repeat (first | exact List.Sublist.refl _ | exact List.Sublist.slnil | refine List.Sublist.cons_cons _ ?_ | refine List.Sublist.cons _ ?_))
          · (repeat (first | exact True.intro | (refine And.intro ?_ ?_; focus (show _ = (_ : Value); first | exact rfl | (refine Eq.trans (b := Value.int IntKind.i64 _) rfl (congrArg (Value.int IntKind.i64) ?_); omega)))))
    · obtain rfl : r = (p.getD t []).length := by omega
      have hs1 := mst_row 1 (by decide) p t _ (Nat.le_refl (p.getD t []).length)
      have hs2 := mst_row (-1) (by decide) p t _ (Nat.le_refl (p.getD t []).length)
      (repeat (first | ((with_reducible refine is_AL ?_); (first | ((with_reducible refine is_move ?_); (refine At_plain hF (by (exact (rfl : _ = some (Value.int _ _)))) ?_)) | ((with_reducible refine is_bin ?_); ((with_reducible refine is_badd ?_); (refine At_add hF rfl rfl (by omega) ?_))) | with_reducible refine At_nil ?_)) | ((with_reducible refine is_At ?_); (first | with_reducible refine At_region ?_ | with_reducible refine At_exit ?_ | with_reducible refine At_then_n ?_ | with_reducible refine At_then_e ?_ | with_reducible refine At_inb_n ?_ | with_reducible refine At_inb_e rfl ?_ | with_reducible refine At_go (by assumption) ?_))))
      rw [hs1, hs2]
      refine At.sub ?_ (hL (t + 1) _ (by omega) (by omega) ?_)
      · (repeat (first | exact List.Sublist.refl _ | exact List.Sublist.slnil | refine List.Sublist.cons_cons _ ?_ | refine List.Sublist.cons _ ?_))
      · (repeat (first | exact True.intro | (refine And.intro ?_ ?_; focus (show _ = (_ : Value); first | exact rfl | (refine Eq.trans (b := Value.int IntKind.i64 _) rfl (congrArg (Value.int IntKind.i64) ?_); omega)))))
  · obtain rfl : t = p.length := by omega
    (repeat (first | ((with_reducible refine is_AL ?_); (first | ((with_reducible refine is_call ?_); (refine At_len hF rfl ?_)) | ((with_reducible refine is_load ?_); (refine At_load hF 5 rfl rfl (by (exact (rfl : _ = some (Value.slice _ _ _)))) ?_)))) | ((with_reducible refine is_At ?_); (first | with_reducible refine At_seq ?_; intro K hK | with_reducible refine At_region ?_ | with_reducible refine At_label ?_ | with_reducible refine At_exit ?_ | with_reducible refine At_then_n ?_ | with_reducible refine At_then_e ?_ | with_reducible refine At_inb_e rfl ?_ | with_reducible refine At_go (by assumption) ?_))))
    refine At_callM hF E27 rfl (arg1 (by (first | exact (rfl : _ = (Value.int _ _)) | exact (rfl : _ = (Value.bool _)) | exact (rfl : _ = (Value.pointer _)) | exact (rfl : _ = (Value.slice _ _ _)) | exact (rfl : _ = (Value.map _)) | exact (rfl : _ = (Value.func _ _ _)) | exact (rfl : _ = (Value.tuple _)) | exact (rfl : _ = (Value.agg _)) | exact (rfl : _ = (Value.string _)) | exact (rfl : _ = (Value.nilFunc)) | exact (rfl : _ = (Value.nilIface))))) (fun w' hw' => sets_rets p.length w') ?_
    rintro u Rs ⟨bs, rfl, rfl⟩
    simp only [List.cons_append, List.nil_append]
    (repeat (first | ((with_reducible refine is_AL ?_); (with_reducible refine At_nil ?_)) | ((with_reducible refine is_At ?_); (first | with_reducible refine At_block ?_ | with_reducible refine At_then_n ?_ | with_reducible refine At_go (by assumption) ?_))))
    obtain ⟨ad, A0, c0, hA, hcell, hc0, hrow⟩ := CL hr 0 (by omega)
    have hR64 : (p.getD 0 []).length ≤ 64 := (hok.2 _ (getD_mem' (d := []) (k := 0) (by omega))).2.1
    refine At_range hF rfl rfl rfl E35 [.obj bs (.cells #[.int .i64 p.length] 3)] argsU (fun xs => xs <+: setsL p.length) (fun xs => xs = setsL p.length) (sets_iter hF rfl rfl w p.length bs (by omega))
      (VRs A c p b1 b2 b3 b4 b5 b6) (fun xs s => s = none ∧ ∀ x ∈ xs, shortB p x = false) (fun e s => e = .ret ∧ ∃ set A' c', s = some (set, A', c') ∧ (setsL p.length).find? (shortB p) = some set) none ?_ ⟨rfl, fun x h => (by cases h)⟩ (fun _ => rfl) ?_ ?_ ?_
    · exact List.Sublist.refl _
    · rintro l rec Ri xs a s ⟨rfl, hno⟩ hpre
      have hF := Wide.inRound hF l
      simp only [VRs, List.cons_append, List.nil_append]
      (repeat (first | ((with_reducible refine is_AL ?_); (first | ((with_reducible refine is_assign ?_); (refine At_plain hF (by (exact (rfl : _ = some (Value.int _ _)))) ?_)) | with_reducible refine At_nil ?_)) | ((with_reducible refine is_At ?_); (with_reducible refine At_region ?_))))
      refine fun w' hw' => ⟨rfl, hw', ?_⟩
      have hmem : a ∈ setsL p.length := hpre.subset (by simp)
      obtain ⟨ha, hpc⟩ := sets_ok p.length (by omega) a hmem
      have hpb := popc_bd a
      have hq := q_bd (popc a) hpb
      (repeat (first | ((with_reducible refine is_AL ?_); ((with_reducible refine is_move ?_); (refine At_plain hF (by (exact (rfl : _ = some (Value.int _ _)))) ?_))) | ((with_reducible refine is_At ?_); (first | with_reducible refine At_seq ?_; intro K hK | with_reducible refine At_block ?_ | with_reducible refine At_region ?_))))
      refine At_callB hF E28 rfl (arg1 (by (first | exact (rfl : _ = (Value.int _ _)) | exact (rfl : _ = (Value.bool _)) | exact (rfl : _ = (Value.pointer _)) | exact (rfl : _ = (Value.slice _ _ _)) | exact (rfl : _ = (Value.map _)) | exact (rfl : _ = (Value.func _ _ _)) | exact (rfl : _ = (Value.tuple _)) | exact (rfl : _ = (Value.agg _)) | exact (rfl : _ = (Value.string _)) | exact (rfl : _ = (Value.nilFunc)) | exact (rfl : _ = (Value.nilIface))))) (fun w' hw' => ones_rets a ha w') ?_
      (repeat (first | ((with_reducible refine is_AL ?_); (first | ((with_reducible refine is_move ?_); (refine At_plain hF (by (exact (rfl : _ = some (Value.int _ _)))) ?_)) | ((with_reducible refine is_bin ?_); (first | ((with_reducible refine is_bsub ?_); (refine At_sub hF rfl rfl (by omega) ?_)) | ((with_reducible refine is_bmul ?_); (refine At_mul hF rfl rfl (by omega) ?_)) | ((with_reducible refine is_bquo ?_); (refine At_quo hF rfl rfl (by omega) ?_)))) | ((with_reducible refine is_assign ?_); (refine At_plain hF (by (exact (rfl : _ = some (Value.int _ _)))) ?_)) | ((with_reducible refine is_load ?_); (refine At_load hF 6 rfl rfl (by (exact (rfl : _ = some (Value.slice _ _ _)))) ?_)) | ((with_reducible refine is_index ?_); (refine At_indexC1i hF rfl (by assumption) rfl rfl (by omega) (by omega) ?_)) | with_reducible refine At_nil ?_)) | ((with_reducible refine is_At ?_); (first | with_reducible refine At_seq ?_; intro K hK | with_reducible refine At_region ?_ | with_reducible refine At_then_n ?_ | with_reducible refine At_go (by assumption) ?_))))
      refine At_loadC hF (by exact rfl) hcell ?_
      (repeat (first | ((with_reducible refine is_AL ?_); (first | ((with_reducible refine is_move ?_); (refine At_plain hF (by (exact (rfl : _ = some (Value.int _ _)))) ?_)) | ((with_reducible refine is_call ?_); (refine At_len hF rfl ?_)) | with_reducible refine At_nil ?_)) | ((with_reducible refine is_At ?_); (first | with_reducible refine At_block ?_ | with_reducible refine At_then_n ?_ | with_reducible refine At_go (by assumption) ?_))))
      rw [show (popc a : Int) * ((popc a : Int) - 1) / 2 = leftR p a 0 from rfl]
      refine At_loop (fun r : Nat => [(1, ip b1), (2, ip b2), (3, ip b3), (4, ip b4), (5, ip b5), (6, ip b6), (11, .int .u32 a), (13, .int .i64 (leftR p a r)), (78, .int .i64 (p.getD 0 []).length), (79, .int .i64 r)])
        (fun r => .obj l (.loop { rec with state := .busy }) :: .obj b6 (.cells (buf (sc u32v) (mst (-1) p p.length 0) []) 55) :: .obj b5 (.cells (buf (sc u32v) (mst 1 p p.length 0) []) 55) :: .obj b4 (.cells #[.int .i64 0] 26) :: .obj b3 (.cells #[.bool false] 4) :: .obj b2 (.cells #[.slice none 0 0] 29) :: .obj b1 (.cells #[.slice A p.length c] 23) :: Ri) (fun r => r ≤ (p.getD 0 []).length ∧ 0 < leftR p a r) (fun r => (p.getD 0 []).length - r) 0 ?_ ?_ ⟨Nat.zero_le _, left0_pos hpc⟩ ?_
      · (repeat (first | exact List.Sublist.refl _ | exact List.Sublist.slnil | refine List.Sublist.cons_cons _ ?_ | refine List.Sublist.cons _ ?_))
      · (repeat (first | exact True.intro | (refine And.intro ?_ ?_; focus (show _ = (_ : Value); first | exact rfl | (refine Eq.trans (b := Value.int IntKind.i64 _) rfl (congrArg (Value.int IntKind.i64) ?_); omega)))))
      rintro r ⟨hr1, hpos⟩ K hL ρ1
      try dsimp only
      (repeat (first | ((with_reducible refine is_AL ?_); (first | ((with_reducible refine is_bin ?_); (refine At_plain hF (by (exact (rfl : _ = some (Value.bool _)))) ?_)) | with_reducible refine At_nil ?_)) | ((with_reducible refine is_At ?_); (first | with_reducible refine At_seq ?_; intro K hK | with_reducible refine At_region ?_ | with_reducible refine At_then_n ?_ | with_reducible refine At_go (by assumption) ?_))))
      ((with_reducible refine is_cond ?_); (refine At_cond rfl ?_ ?_ <;> (intro hg; try (simp only [decide_eq_true_eq, decide_eq_false_iff_not, beq_iff_eq, bne_iff_ne, beq_eq_false_iff_ne, bne_eq_false_iff_eq, ne_eq, Bool.not_eq_true', Bool.not_eq_false', Bool.not_true, Bool.not_false, Decidable.not_not] at hg); try (exfalso; first | omega | exact hg True.intro))))
      · have hlt : r < (p.getD 0 []).length := by omega
        have hl1 := mst_len 1 p p.length 0
        have hl2 := mst_len (-1) p p.length 0
        have hg1 := mst_get0 1 p p.length r (by omega)
        have hg2 := mst_get0 (-1) p p.length r (by omega)
        have hk1 := mk_lt 1 p p.length r (by omega)
        have hk2 := mk_lt (-1) p p.length r (by omega)
        have hlm := leftR_mono p a 0 r
        rw [Nat.zero_add] at hlm
        have hl0 : leftR p a 0 ≤ 50 := (left0_bd a).2
        have hgn := gameR_nn p a r
        have hsucc : leftR p a (r + 1) = leftR p a r - min (popc (a &&& (mst 1 p p.length 0).getD r default) : Int) (popc (a &&& (mst (-1) p p.length 0).getD r default)) := by rw [hg1, hg2, leftR, gameR]
        have hx1 : a &&& (mst 1 p p.length 0).getD r default < 1024 := Nat.lt_of_le_of_lt Nat.and_le_left ha
        have hx2 : a &&& (mst (-1) p p.length 0).getD r default < 1024 := Nat.lt_of_le_of_lt Nat.and_le_left ha
        have hpb1 := popc_bd (a &&& (mst 1 p p.length 0).getD r default)
        have hpb2 := popc_bd (a &&& (mst (-1) p p.length 0).getD r default)
        (repeat (first | ((with_reducible refine is_AL ?_); (first | ((with_reducible refine is_move ?_); (refine At_plain hF (by (exact (rfl : _ = some (Value.int _ _)))) ?_)) | ((with_reducible refine is_assign ?_); (refine At_plain hF (by (exact (rfl : _ = some (Value.int _ _)))) ?_)) | with_reducible refine At_nil ?_)) | ((with_reducible refine is_At ?_); (first | with_reducible refine At_seq ?_; intro K hK | with_reducible refine At_block ?_ | with_reducible refine At_region ?_ | with_reducible refine At_skip ?_ | with_reducible refine At_then_n ?_ | with_reducible refine At_go (by assumption) ?_))))
        refine At_draw hF 15 (by kernel_rfl) (by decide +kernel) ?_; simp only [List.take_succ_cons, List.take_zero, List.drop_succ_cons, List.drop_zero]; (repeat ((with_reducible refine is_AQc ?_); refine AQ_cons (by intro K Q hK; (repeat (first | ((with_reducible refine is_move ?_); (refine At_plain hF (by (exact (rfl : _ = some (Value.int _ _)))) ?_)) | ((with_reducible refine is_load ?_); (refine At_load hF 2 rfl rfl (by (exact buf_getI _ (by omega))) ?_)) | ((with_reducible refine is_index ?_); (refine At_indexA1 hF rfl rfl rfl rfl (by first | decide | (simp only [TArr.m]; omega)) ?_)))); exact At_nilK hK) ?_))
        refine AQ_cons (by intro K Q hK; refine At_and (a := a) (b := (mst 1 p p.length 0).getD r default) hF (by exact rfl) (by exact rfl) (by omega) (by omega) ?_; exact At_nilK hK) ?_
        refine AQ_cons (by intro K Q hK; refine At_callB hF E28 rfl (arg1 (by (first | exact (rfl : _ = (Value.int _ _)) | exact (rfl : _ = (Value.bool _)) | exact (rfl : _ = (Value.pointer _)) | exact (rfl : _ = (Value.slice _ _ _)) | exact (rfl : _ = (Value.map _)) | exact (rfl : _ = (Value.func _ _ _)) | exact (rfl : _ = (Value.tuple _)) | exact (rfl : _ = (Value.agg _)) | exact (rfl : _ = (Value.string _)) | exact (rfl : _ = (Value.nilFunc)) | exact (rfl : _ = (Value.nilIface))))) (fun w' hw' => ones_rets _ hx1 w') ?_; exact At_nilK hK) ?_
        (repeat ((with_reducible refine is_AQc ?_); refine AQ_cons (by intro K Q hK; (repeat (first | ((with_reducible refine is_move ?_); (refine At_plain hF (by (exact (rfl : _ = some (Value.int _ _)))) ?_)) | ((with_reducible refine is_load ?_); (refine At_load hF 1 rfl rfl (by (exact buf_getI _ (by omega))) ?_)) | ((with_reducible refine is_index ?_); (refine At_indexA1 hF rfl rfl rfl rfl (by first | decide | (simp only [TArr.m]; omega)) ?_)))); exact At_nilK hK) ?_))
        refine AQ_cons (by intro K Q hK; refine At_and (a := a) (b := (mst (-1) p p.length 0).getD r default) hF (by exact rfl) (by exact rfl) (by omega) (by omega) ?_; exact At_nilK hK) ?_
        refine AQ_cons (by intro K Q hK; refine At_callB hF E28 rfl (arg1 (by (first | exact (rfl : _ = (Value.int _ _)) | exact (rfl : _ = (Value.bool _)) | exact (rfl : _ = (Value.pointer _)) | exact (rfl : _ = (Value.slice _ _ _)) | exact (rfl : _ = (Value.map _)) | exact (rfl : _ = (Value.func _ _ _)) | exact (rfl : _ = (Value.tuple _)) | exact (rfl : _ = (Value.agg _)) | exact (rfl : _ = (Value.string _)) | exact (rfl : _ = (Value.nilFunc)) | exact (rfl : _ = (Value.nilIface))))) (fun w' hw' => ones_rets _ hx2 w') ?_; exact At_nilK hK) ?_
        (repeat ((with_reducible refine is_AQc ?_); refine AQ_cons (by intro K Q hK; (repeat (first | ((with_reducible refine is_bin ?_); ((with_reducible refine is_bsub ?_); (refine At_sub hF rfl rfl (by omega) ?_))) | ((with_reducible refine is_call ?_); (refine At_min hF rfl rfl ?_)))); exact At_nilK hK) ?_)); refine AQ_done ?_
        rw [← hsucc]
        (repeat (first | ((with_reducible refine is_AL ?_); (first | ((with_reducible refine is_move ?_); (refine At_plain hF (by (exact (rfl : _ = some (Value.int _ _)))) ?_)) | ((with_reducible refine is_bin ?_); (refine At_plain hF (by (exact (rfl : _ = some (Value.bool _)))) ?_)) | ((with_reducible refine is_assign ?_); (refine At_plain hF (by (exact (rfl : _ = some (Value.int _ _)))) ?_)) | with_reducible refine At_nil ?_)) | ((with_reducible refine is_At ?_); (first | with_reducible refine At_seq ?_; intro K hK | with_reducible refine At_region ?_ | with_reducible refine At_then_n ?_ | with_reducible refine At_go (by assumption) ?_))))
        ((with_reducible refine is_cond ?_); (refine At_cond rfl ?_ ?_ <;> (intro hg; try (simp only [decide_eq_true_eq, decide_eq_false_iff_not, beq_iff_eq, bne_iff_ne, beq_eq_false_iff_ne, bne_eq_false_iff_eq, ne_eq, Bool.not_eq_true', Bool.not_eq_false', Bool.not_true, Bool.not_false, Decidable.not_not] at hg); try (exfalso; first | omega | exact hg True.intro))))
        · (repeat ((with_reducible refine is_At ?_); (first | with_reducible refine At_exit ?_ | with_reducible refine At_then_e ?_ | with_reducible refine At_inb_e rfl ?_ | with_reducible refine At_inb_x rfl ?_)))
          refine rnd_n none ?_ ⟨rfl, fun x hx => ?_⟩
          · exact List.Sublist.refl _
          · rcases List.mem_append.1 hx with hx | hx
            · exact hno x hx
            · rw [List.mem_singleton] at hx; subst hx
              have := leftR_mono p x (r + 1) ((p.getD 0 []).length - (r + 1))
              rw [show r + 1 + ((p.getD 0 []).length - (r + 1)) = (p.getD 0 []).length by omega] at this
              exact decide_eq_false (by omega)
        · (repeat (first | ((with_reducible refine is_AL ?_); (first | ((with_reducible refine is_move ?_); (refine At_plain hF (by (exact (rfl : _ = some (Value.int _ _)))) ?_)) | ((with_reducible refine is_bin ?_); ((with_reducible refine is_badd ?_); (refine At_add hF rfl rfl (by omega) ?_))) | with_reducible refine At_nil ?_)) | ((with_reducible refine is_At ?_); (first | with_reducible refine At_region ?_ | with_reducible refine At_skip ?_ | with_reducible refine At_then_n ?_ | with_reducible refine At_inb_n ?_ | with_reducible refine At_go (by assumption) ?_))))
          refine At.sub ?_ (hL (r + 1) _ ⟨by omega, by omega⟩ (by omega) ?_)
          · (repeat (first | exact List.Sublist.refl _ | exact List.Sublist.slnil | refine List.Sublist.cons_cons _ ?_ | refine List.Sublist.cons _ ?_))
          · (repeat (first | exact True.intro | (refine And.intro ?_ ?_; focus (show _ = (_ : Value); first | exact rfl | (refine Eq.trans (b := Value.int IntKind.i64 _) rfl (congrArg (Value.int IntKind.i64) ?_); omega)))))
      · obtain rfl : r = (p.getD 0 []).length := by omega
        have hfind := find_pre hpre hno (show shortB p a = true from decide_eq_true hpos)
        refine At.newNil 3 1 (sc (Value.int .i64)) (fun _ => rfl) ?_
        refine At.perm' (List.Perm.swap _ _ _) ?_
        (repeat (first | ((with_reducible refine is_AL ?_); (first | ((with_reducible refine is_move ?_); (refine At_plain hF (by (exact (rfl : _ = some (Value.int _ _)))) ?_)) | ((with_reducible refine is_call ?_); (refine At_len hF rfl ?_)) | ((with_reducible refine is_load ?_); (refine At_load hF 7 rfl rfl (by (exact (rfl : _ = some (Value.slice _ _ _)))) ?_)) | with_reducible refine At_nil ?_)) | ((with_reducible refine is_At ?_); (first | with_reducible refine At_seq ?_; intro K hK | with_reducible refine At_block ?_ | with_reducible refine At_region ?_ | with_reducible refine At_exit ?_ | with_reducible refine At_then_n ?_ | with_reducible refine At_then_e ?_ | with_reducible refine At_inb_e rfl ?_ | with_reducible refine At_go (by assumption) ?_))))
        refine At_loop (fun st : Nat × Option Nat × Nat => [(1, ip b1), (2, ip b2), (3, ip b3), (4, ip b4), (11, .int .u32 a), (101, .int .i64 p.length), (102, .int .i64 st.1)])
          (fun st => .obj l (.loop { rec with state := .busy }) :: .row 3 1 (sc (Value.int .i64)) st.2.1 st.2.2 (membs st.1 a) :: .obj b4 (.cells #[.int .i64 0] 26) :: .obj b3 (.cells #[.bool false] 4) :: .obj b2 (.cells #[rowV st.2.1 (membs st.1 a).length st.2.2] 29) :: .obj b1 (.cells #[.slice A p.length c] 23) :: Ri) (fun st => st.1 ≤ p.length) (fun st => p.length - st.1) (0, none, 0) ?_ ?_ (Nat.zero_le _) ?_
        · (repeat (first | exact List.Sublist.refl _ | exact List.Sublist.slnil | refine List.Sublist.cons_cons _ ?_ | refine List.Sublist.cons _ ?_))
        · (repeat (first | exact True.intro | (refine And.intro ?_ ?_; focus (show _ = (_ : Value); first | exact rfl | (refine Eq.trans (b := Value.int IntKind.i64 _) rfl (congrArg (Value.int IntKind.i64) ?_); omega)))))
        rintro ⟨t, A', c'⟩ ht K hI ρ2
        simp only at ht
        try dsimp only
        (repeat (first | ((with_reducible refine is_AL ?_); (first | ((with_reducible refine is_bin ?_); (refine At_plain hF (by (exact (rfl : _ = some (Value.bool _)))) ?_)) | with_reducible refine At_nil ?_)) | ((with_reducible refine is_At ?_); (first | with_reducible refine At_seq ?_; intro K hK | with_reducible refine At_region ?_ | with_reducible refine At_then_n ?_ | with_reducible refine At_go (by assumption) ?_))))
        ((with_reducible refine is_cond ?_); (refine At_cond rfl ?_ ?_ <;> (intro hg; try (simp only [decide_eq_true_eq, decide_eq_false_iff_not, beq_iff_eq, bne_iff_ne, beq_eq_false_iff_ne, bne_eq_false_iff_eq, ne_eq, Bool.not_eq_true', Bool.not_eq_false', Bool.not_true, Bool.not_false, Decidable.not_not] at hg); try (exfalso; first | omega | exact hg True.intro))))
        · have hlt : t < p.length := by omega
          have hda : a / 2 ^ t < 4294967296 := Nat.lt_of_le_of_lt (Nat.div_le_self ..) (by omega)
          have hms := membs_succ t a
          have hml := membs_len t a
          have htb := tb_iff a t
          (repeat (first | ((with_reducible refine is_AL ?_); (first | ((with_reducible refine is_move ?_); (refine At_plain hF (by (exact (rfl : _ = some (Value.int _ _)))) ?_)) | ((with_reducible refine is_assign ?_); (refine At_plain hF (by (exact (rfl : _ = some (Value.int _ _)))) ?_)) | with_reducible refine At_nil ?_)) | ((with_reducible refine is_At ?_); (first | with_reducible refine At_seq ?_; intro K hK | with_reducible refine At_block ?_ | with_reducible refine At_region ?_ | with_reducible refine At_skip ?_ | with_reducible refine At_then_n ?_ | with_reducible refine At_go (by assumption) ?_))))
          refine At_shr (a := a) (b := t) hF (by exact rfl) (by exact rfl) (by omega) ?_
          refine At_and (a := a / 2 ^ t) (b := 1) hF (by exact rfl) (by exact rfl) hda (by decide) ?_
          (repeat (first | ((with_reducible refine is_AL ?_); (first | ((with_reducible refine is_bin ?_); (refine At_plain hF (by (exact (rfl : _ = some (Value.bool _)))) ?_)) | with_reducible refine At_nil ?_)) | ((with_reducible refine is_At ?_); (first | with_reducible refine At_then_n ?_ | with_reducible refine At_go (by assumption) ?_))))
          ((with_reducible refine is_cond ?_); (refine At_cond rfl ?_ ?_ <;> (intro hg; try (simp only [decide_eq_true_eq, decide_eq_false_iff_not, beq_iff_eq, bne_iff_ne, beq_eq_false_iff_ne, bne_eq_false_iff_eq, ne_eq, Bool.not_eq_true', Bool.not_eq_false', Bool.not_true, Bool.not_false, Decidable.not_not] at hg); try (exfalso; first | omega | exact hg True.intro))))
          · rw [if_pos (htb.1 (by omega))] at hms
            ((repeat (first | ((with_reducible refine is_AL ?_); (first | ((with_reducible refine is_move ?_); (refine At_plain hF (by (exact (rfl : _ = some (Value.int _ _)))) ?_)) | ((with_reducible refine is_load ?_); (refine At_load hF 4 rfl rfl (by (exact (rfl : _ = some (Value.slice _ _ _)))) ?_)))) | ((with_reducible refine is_At ?_); (with_reducible refine At_region ?_)))); ((with_reducible refine is_bslice ?_); (refine At_slice1_1 hF (by decide) (by (exact (rfl : _ = (Value.int _ _)))) rfl ?_; intro bl)); (repeat (first | ((with_reducible refine is_AL ?_); (first | ((with_reducible refine is_move ?_); (refine At_plain hF (by (exact (rfl : _ = some (Value.int _ _)))) ?_)) | ((with_reducible refine is_load ?_); (refine At_load hF 4 rfl rfl (by (exact (rfl : _ = some (Value.slice _ _ _)))) ?_)))) | ((with_reducible refine is_At ?_); (with_reducible refine At_region ?_)))))
            refine At_append_2 hF 0 rfl rfl rfl rfl (x0 := (t : Int)) rfl (by decide) (by simp [Value.one1]) (by simp only [TS.bytes]; omega) (by omega) ?_
            intro A2 c2
            rw [← hms, show (membs t a).length + 1 = (membs (t + 1) a).length by rw [hms]; simp]
            (repeat (first | ((with_reducible refine is_AL ?_); (first | ((with_reducible refine is_move ?_); (refine At_plain hF (by (exact (rfl : _ = some (Value.int _ _)))) ?_)) | ((with_reducible refine is_bin ?_); ((with_reducible refine is_badd ?_); (refine At_add hF rfl rfl (by omega) ?_))) | ((with_reducible refine is_store ?_); (refine At_store_5 hF rfl (by (exact (rfl : _ = (Value.slice _ _ _)))) (by (exact of_decide_eq_true rfl)) (by exact rfl) (by exact rfl) (by (exact (rfl : _ = List.toArray (_ :: _)))) ?_)) | with_reducible refine At_nil ?_)) | ((with_reducible refine is_At ?_); (first | with_reducible refine At_region ?_ | with_reducible refine At_then_n ?_ | with_reducible refine At_inb_n ?_ | with_reducible refine At_go (by assumption) ?_))))
            refine At.sub ?_ (hI (t + 1, A2, c2) _ hlt (by simp only; omega) ?_)
            · (repeat (first | exact List.Sublist.refl _ | exact List.Sublist.slnil | refine List.Sublist.cons_cons _ ?_ | refine List.Sublist.cons _ ?_))
            · (repeat (first | exact True.intro | (refine And.intro ?_ ?_; focus (show _ = (_ : Value); first | exact rfl | (refine Eq.trans (b := Value.int IntKind.i64 _) rfl (congrArg (Value.int IntKind.i64) ?_); omega)))))
          · rw [if_neg (fun h => by have := htb.2 h; omega), List.append_nil] at hms
            rw [← hms]
            (repeat (first | ((with_reducible refine is_AL ?_); (first | ((with_reducible refine is_move ?_); (refine At_plain hF (by (exact (rfl : _ = some (Value.int _ _)))) ?_)) | ((with_reducible refine is_bin ?_); ((with_reducible refine is_badd ?_); (refine At_add hF rfl rfl (by omega) ?_))) | with_reducible refine At_nil ?_)) | ((with_reducible refine is_At ?_); (first | with_reducible refine At_region ?_ | with_reducible refine At_skip ?_ | with_reducible refine At_then_n ?_ | with_reducible refine At_inb_n ?_ | with_reducible refine At_go (by assumption) ?_))))
            refine At.sub ?_ (hI (t + 1, A', c') _ hlt (by simp only; omega) ?_)
            · (repeat (first | exact List.Sublist.refl _ | exact List.Sublist.slnil | refine List.Sublist.cons_cons _ ?_ | refine List.Sublist.cons _ ?_))
            · (repeat (first | exact True.intro | (refine And.intro ?_ ?_; focus (show _ = (_ : Value); first | exact rfl | (refine Eq.trans (b := Value.int IntKind.i64 _) rfl (congrArg (Value.int IntKind.i64) ?_); omega)))))
        · obtain rfl : t = p.length := by omega
          (repeat (first | ((with_reducible refine is_AL ?_); (first | ((with_reducible refine is_load ?_); (refine At_load hF 4 rfl rfl (by (exact (rfl : _ = some (Value.slice _ _ _)))) ?_)) | ((with_reducible refine is_store ?_); (first | refine At_store_2 hF rfl (by (first | exact (rfl : _ = (Value.int _ _)) | exact (rfl : _ = (Value.bool _)) | exact (rfl : _ = (Value.slice _ _ _)))) (by (decide)) (by exact rfl) (by exact rfl) (by (exact (rfl : _ = List.toArray (_ :: _)))) ?_ | refine At_store_3 hF rfl (by (first | exact (rfl : _ = (Value.bool _)) | exact (rfl : _ = (Value.slice _ _ _)))) (by (decide)) (by exact rfl) (by exact rfl) (by (exact (rfl : _ = List.toArray (_ :: _)))) ?_ | refine At_store_4 hF rfl (by (exact (rfl : _ = (Value.slice _ _ _)))) (by (exact of_decide_eq_true rfl)) (by exact rfl) (by exact rfl) (by (exact (rfl : _ = List.toArray (_ :: _)))) ?_)) | with_reducible refine At_nil ?_)) | ((with_reducible refine is_At ?_); (first | with_reducible refine At_seq ?_; intro K hK | with_reducible refine At_region ?_ | with_reducible refine At_ret ?_ | with_reducible refine At_exit ?_ | with_reducible refine At_then_n ?_ | with_reducible refine At_then_e ?_ | with_reducible refine At_inb_r ?_ | with_reducible refine At_inb_e rfl ?_ | with_reducible refine At_go (by assumption) ?_))))
          refine rnd_r (some (a, A', c')) ?_ ⟨rfl, a, A', c', rfl, hfind⟩
          simp only [VRs, List.cons_append, List.nil_append]
          (repeat (first | exact List.Sublist.refl _ | exact List.Sublist.slnil | refine List.Sublist.cons_cons _ ?_ | refine List.Sublist.cons _ ?_))
    · rintro D xs s hall ⟨rfl, hno⟩
      subst hall
      have hv : vioF p = ([], false, 0) := by
        rw [vioF, if_neg hgood, List.find?_eq_none.2 (fun x hx => by rw [hno x hx]; simp)]
      simp only [VRs, List.cons_append, List.nil_append]
      (repeat (first | ((with_reducible refine is_AL ?_); (first | ((with_reducible refine is_store ?_); (first | refine At_store_4 hF rfl (by (first | exact (rfl : _ = (Value.int _ _)) | exact (rfl : _ = (Value.bool _)) | exact (rfl : _ = (Value.slice _ _ _)))) (by (decide)) (by exact rfl) (by exact rfl) (by (exact (rfl : _ = List.toArray (_ :: _)))) ?_ | refine At_store_5 hF rfl (by (first | exact (rfl : _ = (Value.bool _)) | exact (rfl : _ = (Value.slice _ _ _)))) (by (decide)) (by exact rfl) (by exact rfl) (by (exact (rfl : _ = List.toArray (_ :: _)))) ?_ | refine At_store_6 hF rfl (by (exact (rfl : _ = (Value.slice _ _ _)))) (by (decide)) (by exact rfl) (by exact rfl) (by (exact (rfl : _ = List.toArray (_ :: _)))) ?_)) | with_reducible refine At_nil ?_)) | ((with_reducible refine is_At ?_); (first | with_reducible refine At_seq ?_; intro K hK | with_reducible refine At_region ?_ | with_reducible refine At_ret ?_ | with_reducible refine At_then_n ?_ | with_reducible refine At_inb_n ?_ | with_reducible refine At_nogo_r ?_ | with_reducible refine At_go (by assumption) ?_))))
      refine At_retm3 rfl (rv_cell (by decide) rfl 5 rfl rfl) (rv_cell (by decide) rfl 4 rfl rfl) (rv_cell (by decide) rfl 3 rfl rfl) ?_
      exact At.sub (R' := []) (List.nil_sublist _) (At.newNil 3 1 (sc (Value.int .i64)) (fun _ => rfl) (fun w' hw' => ⟨_, rfl, _, by unfold vioPost; rw [hv]; exact ⟨none, 0, rfl, rfl⟩, hw'⟩))
    · rintro D e s hpe ⟨rfl, set, A', c', rfl, hfind⟩
      have hv : vioF p = (membs p.length set, true, 0) := by
        rw [vioF, if_neg hgood, hfind]
      simp only [VRs, List.cons_append, List.nil_append]
      (repeat ((with_reducible refine is_At ?_); (first | with_reducible refine At_then_r ?_ | with_reducible refine At_inb_r ?_ | with_reducible refine At_nogo_r ?_)))
      refine At_retm3 rfl (rv_cell (by decide) rfl 4 rfl rfl) (rv_cell (by decide) rfl 3 rfl rfl) (rv_cell (by decide) rfl 2 rfl rfl) ?_
      exact At.pick [1] (by decide) rfl (fun w' hw' => ⟨_, rfl, _, by unfold vioPost; rw [hv]; exact ⟨A', c', rfl, rfl⟩, hw'⟩)
end Go.Proofs.Ytecgklfcblpkdaa.P
