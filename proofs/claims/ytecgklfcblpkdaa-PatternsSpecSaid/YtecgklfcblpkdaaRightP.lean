/- Right, plain. -/
import Derived.Test.YtecgklfcblpkdaaP4
import Derived.Test.YtecgklfcblpkdaaOfP
namespace Go.Proofs.Ytecgklfcblpkdaa.P
open Go.RowKit Go.Proofs.YtecgklfcblpkdaaW.PrintWords Go.Proofs.YtecgklfcblpkdaaW.PrintLast Go.Proofs.YtecgklfcblpkdaaW.PrintMore
open XW
set_option linter.unusedSimpArgs false
set_option linter.unusedVariables false

theorem leO_le {α : Type} {f : Nat → Option α} (h : ∀ k, LeO (f k) (f (k + 1))) {k k' : Nat} (hk : k ≤ k') : LeO (f k) (f k') := by
  induction hk with
  | refl => exact LeO.refl _
  | step _ ih => exact fun r hr => h _ _ (ih _ hr)
theorem mem_ks {l : List S44} {k : Int × Int} : k ∈ ks l ↔ ∃ y ∈ l, k = (y.f1, y.f0) ∨ k = (y.f2, y.f0) := by
  simp [ks, key2, List.mem_flatMap]
def conf (y x : S44) : Prop := y.f0 = x.f0 ∧ (y.f1 = x.f1 ∨ y.f1 = x.f2 ∨ y.f2 = x.f1 ∨ y.f2 = x.f2)
theorem okM_conf {n : Int} {m : List S44} {x : S44} (h : okM n m) : okM n (m ++ [x]) ↔ ¬ bad n x ∧ ∀ y ∈ m, ¬ conf y x := by
  rw [okM_snoc h, mem_ks, mem_ks]
  simp only [Prod.mk.injEq, not_exists, not_and, not_or]
  unfold conf
  constructor
  · rintro ⟨h1, h2, h3⟩
    refine ⟨h1, fun y hy hc => ?_⟩
    have a := h2 y hy
    have b := h3 y hy
    omega
  · rintro ⟨h1, h2⟩
    refine ⟨h1, fun y hy => ?_, fun y hy => ?_⟩
    · have a := h2 y hy; omega
    · have a := h2 y hy; omega
theorem right_l0 (n : Int) (m : List S44) (hm : m.length ≤ 1280) : ∀ (d i : Nat), m.length - i ≤ d → i ≤ m.length → okM n (m.take i) → ∃ K0, ∀ k, K0 ≤ k → fastiref21_Right.l0 k n m i = some (decide (okM n m)) := by
  intro d
  induction d with
  | zero =>
    intro i hd hi hok
    refine ⟨1, fun k hk => ?_⟩
    obtain ⟨k, rfl⟩ : ∃ k', k = k' + 1 := ⟨k - 1, by omega⟩
    rw [List.take_of_length_le (by omega)] at hok
    rw [fastiref21_Right.l0, if_neg (by omega), decide_eq_true hok]
  | succ d ih =>
    intro i hd hi hok
    by_cases h : i < m.length
    · have htk : m.take (i + 1) = m.take i ++ [m.getD i z44] := take_snocD m i z44 h
      have hno : ¬ okM n (m.take (i + 1)) → some false = some (decide (okM n m)) := fun hc => by
        rw [decide_eq_false (fun hc2 => hc (okM_take hc2 (i + 1)))]
      have hx : rd_T44 m (i : Int) = m.getD i z44 := by rw [rd_T44, Int.toNat_natCast]
      have hj : ∀ k a b c, fastiref21_Right.j1 (k + 1) n m i true a b c = some false := fun k a b c => by rw [fastiref21_Right.j1, if_pos rfl]
      obtain ⟨K, hK⟩ : ∃ K, okM n (m.take (i + 1)) → ∀ k, K ≤ k → fastiref21_Right.l0 k n m ((i + 1 : Nat) : Int) = some (decide (okM n m)) := by
        by_cases h1 : okM n (m.take (i + 1))
        · obtain ⟨K, hK⟩ := ih (i + 1) (by omega) h h1
          exact ⟨K, fun _ => hK⟩
        · exact ⟨0, fun h2 => absurd h2 h1⟩
      have inner : ∀ (d2 j k2 : Nat), i - j ≤ d2 → d2 + K + 2 ≤ k2 → j ≤ i → ¬ bad n (m.getD i z44) → (∀ q, q < j → ¬ conf (m.getD q z44) (m.getD i z44)) → fastiref21_Right.l1 k2 n m i j (m.getD i z44).f0 (m.getD i z44).f1 (m.getD i z44).f2 = some (decide (okM n m)) := by
        intro d2
        have hend : ∀ k2, K + 1 ≤ k2 → ¬ bad n (m.getD i z44) → (∀ q, q < i → ¬ conf (m.getD q z44) (m.getD i z44)) → fastiref21_Right.l1 k2 n m i i (m.getD i z44).f0 (m.getD i z44).f1 (m.getD i z44).f2 = some (decide (okM n m)) := by
          intro k2 hk2 hb hc
          obtain ⟨k2, rfl⟩ : ∃ k', k2 = k' + 1 := ⟨k2 - 1, by omega⟩
          rw [fastiref21_Right.l1, if_neg (by omega), w64 (by omega)]
          refine hK ?_ k2 (by omega)
          rw [htk, okM_conf hok]
          refine ⟨hb, fun y hy => ?_⟩
          obtain ⟨q, hq, rfl⟩ := List.getElem_of_mem hy
          have hq' : q < i := by simp at hq; omega
          have := hc q hq'
          rw [List.getD_eq_getElem?_getD, List.getElem?_eq_getElem (by omega)] at this
          rw [List.getElem_take]; exact this
        induction d2 with
        | zero =>
          intro j k2 hd2 hk2 hj2 hb hc
          obtain rfl : j = i := by omega
          exact hend k2 (by omega) hb hc
        | succ d2 ih2 =>
          intro j k2 hd2 hk2 hj2 hb hc
          by_cases hlt : j < i
          · obtain ⟨k2, rfl⟩ : ∃ k', k2 = k' + 1 := ⟨k2 - 1, by omega⟩
            have hy : rd_T44 m (j : Int) = m.getD j z44 := by rw [rd_T44, Int.toNat_natCast]
            have hstop : conf (m.getD j z44) (m.getD i z44) → some false = some (decide (okM n m)) := fun hcf => hno (by
              rw [htk, okM_conf hok]
              rintro ⟨_, h2⟩
              refine h2 (m.getD j z44) ?_ hcf
              have : (m.take i)[j]'(by simp; omega) ∈ m.take i := List.getElem_mem _
              rw [List.getElem_take] at this
              rw [List.getD_eq_getElem?_getD, List.getElem?_eq_getElem (by omega)]
              exact this)
            have hnext : ¬ conf (m.getD j z44) (m.getD i z44) → fastiref21_Right.l1 k2 n m i ((j : Int) + 1) (m.getD i z44).f0 (m.getD i z44).f1 (m.getD i z44).f2 = some (decide (okM n m)) := fun hncf => by
              refine ih2 (j + 1) k2 (by omega) (by omega) hlt hb fun q hq => ?_
              by_cases e : q = j
              · subst e; exact hncf
              · exact hc q (by omega)
            rw [fastiref21_Right.l1, if_pos (by omega), if_pos (by omega), if_pos (by omega), hy, w64 (by omega)]
            generalize m.getD j z44 = y at *
            generalize m.getD i z44 = x at *
            unfold conf at hstop hnext
            by_cases e0 : y.f0 = x.f0
            · rw [if_pos e0]
              by_cases e1 : y.f1 = x.f1
              · rw [if_pos e1]; exact hstop ⟨e0, .inl e1⟩
              rw [if_neg e1]
              by_cases e2 : y.f1 = x.f2
              · rw [if_pos e2]; exact hstop ⟨e0, .inr (.inl e2)⟩
              rw [if_neg e2]
              by_cases e3 : y.f2 = x.f1
              · rw [if_pos e3]; exact hstop ⟨e0, .inr (.inr (.inl e3))⟩
              rw [if_neg e3]
              by_cases e4 : y.f2 = x.f2
              · rw [if_pos e4]; exact hstop ⟨e0, .inr (.inr (.inr e4))⟩
              rw [if_neg e4]
              exact hnext (by omega)
            · rw [if_neg e0]
              exact hnext (by omega)
          · obtain rfl : j = i := by omega
            exact hend k2 (by omega) hb hc
      have hin := inner i 0
      refine ⟨i + K + 4, fun k hk => ?_⟩
      obtain ⟨k, rfl⟩ : ∃ k', k = k' + 1 := ⟨k - 1, by omega⟩
      rw [fastiref21_Right.l0, if_pos (by omega), if_pos (by omega), hx]
      have hbad : bad n (m.getD i z44) → some false = some (decide (okM n m)) := fun hb => hno (by rw [htk, okM_conf hok]; exact fun h => h.1 hb)
      obtain ⟨k, rfl⟩ : ∃ k', k = k' + 1 := ⟨k - 1, by omega⟩
      simp only [hj]
      unfold bad at hbad
      by_cases e1 : (m.getD i z44).f0 < 0
      · rw [if_pos e1]; exact hbad (by omega)
      rw [if_neg e1]
      by_cases e2 : (m.getD i z44).f0 > 63
      · rw [if_pos e2]; exact hbad (by omega)
      rw [if_neg e2]
      by_cases e3 : (m.getD i z44).f1 < 0
      · rw [if_pos e3]; exact hbad (by omega)
      rw [if_neg e3]
      by_cases e4 : (m.getD i z44).f1 ≥ n
      · rw [if_pos e4]; exact hbad (by omega)
      rw [if_neg e4]
      by_cases e5 : (m.getD i z44).f2 < 0
      · rw [if_pos e5]; exact hbad (by omega)
      rw [if_neg e5]
      by_cases e6 : (m.getD i z44).f2 ≥ n
      · rw [if_pos e6]; exact hbad (by omega)
      rw [if_neg e6]
      by_cases e7 : (m.getD i z44).f1 = (m.getD i z44).f2
      · rw [show ((m.getD i z44).f1 == (m.getD i z44).f2) = true from by simpa using e7, hj]; exact hbad (by omega)
      · rw [show ((m.getD i z44).f1 == (m.getD i z44).f2) = false from by simpa using e7, fastiref21_Right.j1, if_neg (by simp)]
        exact hin k (by omega) (by omega) (by omega) (by unfold bad; omega) (fun q hq => by omega)
    · exact ih i (by omega) hi hok
theorem ks_len (m : List S44) : (ks m).length = 2 * m.length := by
  induction m with
  | nil => rfl
  | cons x m ih => rw [show ks (x :: m) = key2 x ++ ks m from rfl, List.length_append, ih, List.length_cons]; simp [key2]; omega
theorem okM_len {n : Int} (hn : n ≤ 20) {m : List S44} (h : okM n m) : m.length ≤ 640 := by
  let K : List (Int × Int) := (List.range 20).flatMap fun t : Nat => (List.range 64).map fun r : Nat => ((t : Int), (r : Int))
  have hK : K.length = 1280 := by decide +kernel
  have hs : ks m ⊆ K := fun k hk => by
    obtain ⟨y, hy, hk⟩ := mem_ks.1 hk
    have hb := h.1 y hy
    unfold bad at hb
    rcases hk with rfl | rfl
    · exact List.mem_flatMap.2 ⟨y.f1.toNat, List.mem_range.2 (by omega), List.mem_map.2 ⟨y.f0.toNat, List.mem_range.2 (by omega), Prod.ext (by simp only; omega) (by simp only; omega)⟩⟩
    · exact List.mem_flatMap.2 ⟨y.f2.toNat, List.mem_range.2 (by omega), List.mem_map.2 ⟨y.f0.toNat, List.mem_range.2 (by omega), Prod.ext (by simp only; omega) (by simp only; omega)⟩⟩
  have := h.2.length_le_of_subset hs
  rw [ks_len, hK] at this
  omega
theorem right_f (n : Int) (hn : n ≤ 20) (m : List S44) : ∃ k, fastiref21_Right.f k n m = some (decide (okM n m)) := by
  by_cases h : (m.length : Int) > 1280
  · exact ⟨0, by rw [fastiref21_Right.f, if_pos h, decide_eq_false (fun hc => by have := okM_len hn hc; omega)]⟩
  · obtain ⟨K, hK⟩ := right_l0 n m (by omega) m.length 0 (by omega) (by omega) (okM_nil n)
    exact ⟨K, by rw [fastiref21_Right.f, if_neg h]; exact hK K (Nat.le_refl _)⟩
end Go.Proofs.Ytecgklfcblpkdaa.P
