/- What right meetings are, and their patterns: plain. -/
import Derived.Test.YtecgklfcblpkdaaP0
import Derived.Test.YtecgklfcblpkdaaXB
import Derived.Test.YtecgklfcblpkdaaXTy
namespace Go.Proofs.Ytecgklfcblpkdaa.P
open Go.RowKit Go.Proofs.YtecgklfcblpkdaaW.PrintWords Go.Proofs.YtecgklfcblpkdaaW.PrintLast Go.Proofs.YtecgklfcblpkdaaW.PrintMore
open XW
set_option linter.unusedSimpArgs false
set_option linter.unusedVariables false

theorem w64 {x : Int} (h : -9223372036854775808 ≤ x ∧ x ≤ 9223372036854775807) : wrap64 x = x := by unfold wrap64; omega
theorem getD_mem' {α : Type} {l : List α} {k : Nat} {d : α} (h : k < l.length) : l.getD k d ∈ l := by
  rw [List.getD_eq_getElem?_getD, List.getElem?_eq_getElem h]; exact List.getElem_mem h
theorem take_snocD {α : Type} (l : List α) (k : Nat) (d : α) (h : k < l.length) : l.take (k + 1) = l.take k ++ [l.getD k d] := by
  rw [List.take_succ_eq_append_getElem h, List.getD_eq_getElem?_getD, List.getElem?_eq_getElem h]; rfl
abbrev bad (n : Int) (x : S44) : Prop := x.f0 < 0 ∨ x.f0 ≥ 64 ∨ x.f1 < 0 ∨ x.f1 ≥ n ∨ x.f2 < 0 ∨ x.f2 ≥ n ∨ x.f1 = x.f2
def key2 (x : S44) : List (Int × Int) := [(x.f1, x.f0), (x.f2, x.f0)]
def ks (m : List S44) : List (Int × Int) := m.flatMap key2
def okM (n : Int) (m : List S44) : Prop := (∀ x ∈ m, ¬ bad n x) ∧ (ks m).Nodup
instance (n : Int) (m : List S44) : Decidable (okM n m) := by unfold okM; infer_instance
theorem ks_app (a b : List S44) : ks (a ++ b) = ks a ++ ks b := by simp [ks, List.flatMap_append]
theorem okM_nil (n : Int) : okM n [] := ⟨fun x h => (by cases h), (by simp [ks])⟩
theorem okM_snoc {n : Int} {m : List S44} {x : S44} (h : okM n m) : okM n (m ++ [x]) ↔ ¬ bad n x ∧ (x.f1, x.f0) ∉ ks m ∧ (x.f2, x.f0) ∉ ks m := by
  unfold okM
  rw [ks_app, show ks [x] = key2 x by simp [ks], List.nodup_append]
  constructor
  · rintro ⟨h1, _, _, h3⟩
    exact ⟨h1 x (by simp), fun hc => h3 _ hc _ (by simp [key2]) rfl, fun hc => h3 _ hc (x.f2, x.f0) (by simp [key2]) rfl⟩
  · rintro ⟨h1, h2, h3⟩
    have hne : x.f1 ≠ x.f2 := fun e => h1 (by unfold bad; omega)
    refine ⟨fun y hy => ?_, h.2, by simp [key2, hne], ?_⟩
    · rcases List.mem_append.1 hy with hy | hy
      · exact h.1 y hy
      · rw [List.mem_singleton] at hy; subst hy; exact h1
    · rintro a ha b hb rfl
      rcases List.mem_cons.1 hb with rfl | hb
      · exact h2 ha
      · rw [List.mem_singleton] at hb; subst hb; exact h3 ha
theorem okM_pre {n : Int} {a b : List S44} (h : okM n (a ++ b)) : okM n a := by
  refine ⟨fun x hx => h.1 x (by simp [hx]), ?_⟩
  have := h.2
  rw [ks_app] at this
  exact (List.nodup_append.1 this).1
theorem okM_take {n : Int} {m : List S44} (h : okM n m) (k : Nat) : okM n (m.take k) := by
  rw [← List.take_append_drop k m] at h; exact okM_pre h
/-- the last round -/
def lastF (s : Int) (x : S44) : Int := max s x.f0
def lastR (m : List S44) : Int := m.foldl lastF (-1)
theorem last_bd (m : List S44) (h : ∀ x ∈ m, 0 ≤ x.f0 ∧ x.f0 < 64) : ∀ s : Int, -1 ≤ s → s < 64 → (-1 ≤ m.foldl lastF s ∧ m.foldl lastF s < 64) ∧ s ≤ m.foldl lastF s ∧ ∀ x ∈ m, x.f0 ≤ m.foldl lastF s := by
  induction m with
  | nil => intro s h1 h2; exact ⟨⟨h1, h2⟩, Int.le_refl _, fun x h => by cases h⟩
  | cons x m ih =>
    intro s h1 h2
    have hx := h x (by simp)
    obtain ⟨a, b, c⟩ := ih (fun y hy => h y (by simp [hy])) (lastF s x) (by unfold lastF; omega) (by unfold lastF; omega)
    rw [List.foldl_cons]
    refine ⟨a, by unfold lastF at b ⊢; omega, fun y hy => ?_⟩
    rcases List.mem_cons.1 hy with rfl | hy
    · unfold lastF at b ⊢; omega
    · exact c y hy
/-- the patterns -/
def setP (M : List (List Int)) (x : S44) : List (List Int) :=
  let M1 := M.set x.f1.toNat ((M.getD x.f1.toNat []).set x.f0.toNat 1)
  M1.set x.f2.toNat ((M1.getD x.f2.toNat []).set x.f0.toNat (-1))
def Z0 (R N : Nat) : List (List Int) := List.replicate N (List.replicate R 0)
def patM (N : Nat) (m : List S44) : List (List Int) := m.foldl setP (Z0 (lastR m + 1).toNat N)
def ofF (n : Int) (m : List S44) : List (List Int) × Int := if n < 2 ∨ n > 20 then ([], 1) else if okM n m then (patM n.toNat m, 0) else ([], 210)
def Rect (R N : Nat) (M : List (List Int)) : Prop := M.length = N ∧ ∀ row ∈ M, row.length = R
theorem Rect.get {R N : Nat} {M : List (List Int)} (h : Rect R N M) {t : Nat} (ht : t < N) : (M.getD t []).length = R := h.2 _ (getD_mem' (by rw [h.1]; exact ht))
theorem Rect.set {R N : Nat} {M : List (List Int)} (h : Rect R N M) {t : Nat} {row : List Int} (hl : row.length = R) : Rect R N (M.set t row) := ⟨by rw [List.length_set]; exact h.1, fun row' hm => by
  rcases List.mem_or_eq_of_mem_set hm with hm | rfl
  · exact h.2 _ hm
  · exact hl⟩
theorem Rect.rep (R N : Nat) : Rect R N (Z0 R N) := ⟨by simp [Z0], fun row h => by rw [Z0] at h; rw [List.eq_of_mem_replicate h]; simp⟩
theorem Rect.pat {R N : Nat} {M : List (List Int)} (h : Rect R N M) {x : S44} (h1 : x.f1.toNat < N) (h2 : x.f2.toNat < N) : Rect R N (setP M x) := by
  have r1 : Rect R N (M.set x.f1.toNat ((M.getD x.f1.toNat []).set x.f0.toNat 1)) := h.set (by rw [List.length_set]; exact h.get h1)
  exact r1.set (by rw [List.length_set]; exact r1.get h2)
/-! ### who plays in a round, as bits -/
def Rep (p : List Nat) (l : List (Int × Int)) : Prop := p.length = 64 ∧ (∀ r, r < 64 → p.getD r 0 < 1048576) ∧ ∀ r t : Nat, r < 64 → t < 20 → ((p.getD r 0).testBit t = true ↔ ((t : Int), (r : Int)) ∈ l)
theorem rep_nil : Rep (List.replicate 64 0) [] := by
  refine ⟨by simp, fun r hr => ?_, fun r t hr ht => ?_⟩
  · rw [List.getD_eq_getElem?_getD, List.getElem?_replicate, if_pos hr]; decide
  · rw [List.getD_eq_getElem?_getD, List.getElem?_replicate, if_pos hr]; simp
theorem both_lt {h a : Nat} (hh : h < 20) (ha : a < 20) : 1 * 2 ^ h ||| 1 * 2 ^ a < 1048576 := Nat.or_lt_two_pow (n := 20) (by rw [Nat.one_mul]; exact Nat.pow_lt_pow_right (by decide) hh) (by rw [Nat.one_mul]; exact Nat.pow_lt_pow_right (by decide) ha)
theorem both_bit (h a t : Nat) : (1 * 2 ^ h ||| 1 * 2 ^ a).testBit t = (decide (h = t) || decide (a = t)) := by
  rw [Nat.one_mul, Nat.one_mul, Nat.testBit_or, Nat.testBit_two_pow, Nat.testBit_two_pow]
theorem and_ne {x h a : Nat} (hx : x < 1048576) : x &&& (1 * 2 ^ h ||| 1 * 2 ^ a) ≠ 0 ↔ x.testBit h = true ∨ x.testBit a = true := by
  constructor
  · intro hne
    obtain ⟨t, ht⟩ := Nat.exists_testBit_of_ne_zero hne
    rw [Nat.testBit_and, both_bit] at ht
    simp only [Bool.and_eq_true, Bool.or_eq_true, decide_eq_true_eq] at ht
    rcases ht.2 with rfl | rfl
    · exact .inl ht.1
    · exact .inr ht.1
  · intro hb hz
    have key : ∀ t, (x &&& (1 * 2 ^ h ||| 1 * 2 ^ a)).testBit t = false := fun t => by rw [hz]; simp
    rcases hb with hb | hb
    · have := key h
      rw [Nat.testBit_and, both_bit, hb] at this; simp at this
    · have := key a
      rw [Nat.testBit_and, both_bit, hb] at this; simp at this
theorem rep_snoc {p : List Nat} {l : List (Int × Int)} (hp : Rep p l) {r h a : Nat} (hr : r < 64) (hh : h < 20) (ha : a < 20) : Rep (p.set r (p.getD r 0 ||| (1 * 2 ^ h ||| 1 * 2 ^ a))) (l ++ [((h : Int), (r : Int)), ((a : Int), (r : Int))]) := by
  obtain ⟨h1, h2, h3⟩ := hp
  refine ⟨by rw [List.length_set]; exact h1, fun s hs => ?_, fun s t hs ht => ?_⟩
  · rw [List.getD_eq_getElem?_getD]
    by_cases e : r = s
    · subst e
      rw [List.getElem?_set_self (by omega)]
      exact Nat.or_lt_two_pow (n := 20) (h2 r hr) (both_lt hh ha)
    · rw [List.getElem?_set_ne e, ← List.getD_eq_getElem?_getD]; exact h2 s hs
  · rw [List.getD_eq_getElem?_getD, List.mem_append]
    by_cases e : r = s
    · subst e
      rw [List.getElem?_set_self (by omega), Option.getD_some, Nat.testBit_or, both_bit, Bool.or_eq_true, h3 r t hr ht]
      simp only [Bool.or_eq_true, decide_eq_true_eq, List.mem_cons, List.not_mem_nil, or_false, Prod.mk.injEq]
      by_cases hA : ((t : Int), (r : Int)) ∈ l
      · simp [hA]
      · simp only [hA, false_or]
        constructor
        · rintro (rfl | rfl)
          · exact .inl ⟨rfl, trivial⟩
          · exact .inr ⟨rfl, trivial⟩
        · rintro (⟨e, _⟩ | ⟨e, _⟩)
          · left; omega
          · right; omega
    · rw [List.getElem?_set_ne e, ← List.getD_eq_getElem?_getD, h3 s t hs ht]
      simp only [List.mem_cons, List.not_mem_nil, or_false, Prod.mk.injEq]
      by_cases hA : ((t : Int), (s : Int)) ∈ l
      · simp [hA]
      · simp only [hA, false_or]
        constructor
        · exact False.elim
        · rintro (⟨_, e2⟩ | ⟨_, e2⟩) <;> exact absurd e2 (by omega)
end Go.Proofs.Ytecgklfcblpkdaa.P
