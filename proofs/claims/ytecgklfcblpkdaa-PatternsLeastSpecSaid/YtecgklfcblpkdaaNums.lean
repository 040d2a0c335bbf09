/- Plain laws of the printed parts. -/
import Derived.Test.YtecgklfcblpkdaaP1
import Derived.Test.YtecgklfcblpkdaaP2
import Derived.Test.YtecgklfcblpkdaaP3
import Derived.Test.YtecgklfcblpkdaaP5
import Derived.Test.YtecgklfcblpkdaaP6
import Derived.Test.YtecgklfcblpkdaaP7
import Derived.Test.YtecgklfcblpkdaaP8
import Derived.Test.YtecgklfcblpkdaaP9
import Derived.Test.YtecgklfcblpkdaaGVio
namespace Go.Proofs.Ytecgklfcblpkdaa.P
open Go.RowKit Go.Proofs.YtecgklfcblpkdaaW.PrintWords Go.Proofs.YtecgklfcblpkdaaW.PrintLast Go.Proofs.YtecgklfcblpkdaaW.PrintMore
open XW
set_option linter.unusedSimpArgs false
set_option linter.unusedVariables false

/-- from some number of rounds on -/
def Ev {α : Type} (f : Nat → Option α) (v : α) : Prop := ∃ K, ∀ k, K ≤ k → f k = some v
theorem ev_of {α : Type} {f : Nat → Option α} (h : ∀ k, LeO (f k) (f (k + 1))) {v : α} (hv : ∃ k, f k = some v) : Ev f v := by
  obtain ⟨K, hK⟩ := hv
  exact ⟨K, fun k hk => leO_le h hk _ hK⟩
theorem few_l0 (p : List (List Int)) : ∀ (d : Nat) (x5 : Int) (i : Nat), 100 - i ≤ d → ∃ b, fastiref21_Few.l0 (d + 1) p x5 i = some b := by
  intro d
  have hend : ∀ (k : Nat) (x5 : Int) (i : Nat), ¬ (i < p.length ∧ i < 100) → ∃ b, fastiref21_Few.l0 (k + 1) p x5 i = some b := by
    intro k x5 i h
    rw [fastiref21_Few.l0]
    by_cases h1 : i < p.length
    · rw [if_pos (by omega), if_neg (by omega)]; split <;> exact ⟨_, rfl⟩
    · rw [if_neg (by omega)]; split <;> exact ⟨_, rfl⟩
  induction d with
  | zero => intro x5 i hd; exact hend 0 x5 i (by omega)
  | succ d ih =>
    intro x5 i hd
    by_cases h : i < p.length ∧ i < 100
    · rw [fastiref21_Few.l0, if_pos (by omega), if_pos (by omega), if_pos (by omega), w64 (x := (i : Int) + 1) (by omega)]
      exact ih _ (i + 1) (by omega)
    · exact hend _ x5 i h
theorem few_ev (m : List S44) (p : List (List Int)) : ∃ b, Ev (fun k => fastiref21_Few.f k m p) b := by
  obtain ⟨b, hb⟩ := few_l0 p 100 (m.length : Int) 0 (by omega)
  exact ⟨b, ev_of (fun k => fastiref21_Few.mono _ _ k) ⟨101, hb⟩⟩
theorem ints_l0 (l : List Int) (hl : l.length ≤ 9223372036854775807) : ∀ (d i : Nat), l.length - i ≤ d → i ≤ l.length → fastiref21_SameInts.l0 (d + 1) l l i = some true := by
  intro d
  induction d with
  | zero => intro i hd hi; rw [fastiref21_SameInts.l0, if_neg (by omega)]
  | succ d ih =>
    intro i hd hi
    rw [fastiref21_SameInts.l0]
    by_cases h : i < l.length
    · rw [if_pos (by omega), if_pos (by omega), if_pos (by omega), if_pos rfl, w64 (by omega)]; exact ih (i + 1) (by omega) h
    · rw [if_neg (by omega)]
theorem ints_ev (l : List Int) (hl : l.length ≤ 9223372036854775807) : Ev (fun k => fastiref21_SameInts.f k l l) true :=
  ev_of (fun k => fastiref21_SameInts.mono _ _ k) ⟨l.length + 1, by show fastiref21_SameInts.f _ l l = _; rw [fastiref21_SameInts.f, if_pos rfl]; exact ints_l0 l hl l.length 0 (by omega) (by omega)⟩
/-! ### breaks -/
/-! ### the reference's patterns -/
theorem rpats_ev (p : List (List Int)) : Ev (fun k => fastiref21_Patterns.f k p) (decide (patOk p)) := by
  by_cases hlen : p.length > 20
  · exact ⟨0, fun k _ => by show fastiref21_Patterns.f k p = _; rw [fastiref21_Patterns.f, if_pos (by omega), decide_eq_false (fun h => by have := h.1; omega)]⟩
  have key : ∀ (d i : Nat), p.length - i ≤ d → i ≤ p.length → (∀ q, q < i → rowOk1 p (p.getD q [])) → Ev (fun k => fastiref21_Patterns.l0 k p i) (decide (patOk p)) := by
    intro d
    have hlast : (∀ q, q < p.length → rowOk1 p (p.getD q [])) → Ev (fun k => fastiref21_Patterns.l0 k p (p.length : Nat)) (decide (patOk p)) := fun h => by
      refine ⟨1, fun k hk => ?_⟩
      obtain ⟨k, rfl⟩ : ∃ k', k = k' + 1 := ⟨k - 1, by omega⟩
      show fastiref21_Patterns.l0 _ _ _ = _
      rw [fastiref21_Patterns.l0, if_neg (by omega)]
      congr 1
      have hok : patOk p := ⟨by omega, fun l hl => by
        obtain ⟨q, hq, rfl⟩ := List.getElem_of_mem hl
        have := h q hq
        rwa [List.getD_eq_getElem?_getD, List.getElem?_eq_getElem hq] at this⟩
      rw [decide_eq_true hok]
    induction d with
    | zero =>
      intro i hd hi h
      obtain rfl : i = p.length := by omega
      exact hlast h
    | succ d ih =>
      intro i hd hi h
      by_cases hlt : i < p.length
      · have hrd : rd_L3 p (i : Int) = p.getD i [] := by rw [rd_L3, Int.toNat_natCast]
        have hrd0 : rd_L3 p 0 = p.getD 0 [] := rfl
        have hno : ¬ rowOk1 p (p.getD i []) → some false = some (decide (patOk p)) := fun hc => by
          rw [decide_eq_false (fun h2 => hc (h2.2 _ (getD_mem' hlt)))]
        obtain ⟨K, hK⟩ : ∃ K, rowOk1 p (p.getD i []) → ∀ k, K ≤ k → fastiref21_Patterns.l0 k p ((i + 1 : Nat) : Int) = some (decide (patOk p)) := by
          by_cases h1 : rowOk1 p (p.getD i [])
          · obtain ⟨K, hK⟩ := ih (i + 1) (by omega) hlt (fun q hq => by
              by_cases e : q = i
              · subst e; exact h1
              · exact h q (by omega))
            exact ⟨K, fun _ => hK⟩
          · exact ⟨0, fun h2 => absurd h2 h1⟩
        have hj : ∀ k, fastiref21_Patterns.j1 (k + 1) p i true = some false := fun k => by rw [fastiref21_Patterns.j1, if_pos rfl]
        have inner : (p.getD i []).length = (p.getD 0 []).length → (p.getD i []).length ≤ 64 → ∀ (d2 j k2 : Nat), (p.getD i []).length - j ≤ d2 → d2 + K + 2 ≤ k2 → j ≤ (p.getD i []).length → (∀ q, q < j → -1 ≤ (p.getD i []).getD q 0 ∧ (p.getD i []).getD q 0 ≤ 1) → fastiref21_Patterns.l1 k2 p i j = some (decide (patOk p)) := by
          intro hl1 hl2 d2
          have hend : ∀ k2, K + 1 ≤ k2 → (∀ q, q < (p.getD i []).length → -1 ≤ (p.getD i []).getD q 0 ∧ (p.getD i []).getD q 0 ≤ 1) → fastiref21_Patterns.l1 k2 p i ((p.getD i []).length : Nat) = some (decide (patOk p)) := by
            intro k2 hk2 hc
            obtain ⟨k2, rfl⟩ : ∃ k', k2 = k' + 1 := ⟨k2 - 1, by omega⟩
            rw [fastiref21_Patterns.l1, if_pos (by omega), if_pos (by omega), hrd, if_neg (by omega), w64 (by omega)]
            refine hK ⟨hl1, hl2, fun x hx => ?_⟩ k2 (by omega)
            obtain ⟨q, hq, rfl⟩ := List.getElem_of_mem hx
            have := hc q hq
            rwa [List.getD_eq_getElem?_getD, List.getElem?_eq_getElem hq] at this
          induction d2 with
          | zero =>
            intro j k2 hd2 hk2 hj2 hc
            obtain rfl : j = (p.getD i []).length := by omega
            exact hend k2 (by omega) hc
          | succ d2 ih2 =>
            intro j k2 hd2 hk2 hj2 hc
            by_cases hlt2 : j < (p.getD i []).length
            · obtain ⟨k2, rfl⟩ : ∃ k', k2 = k' + 1 := ⟨k2 - 1, by omega⟩
              have hx : rd (p.getD i []) (j : Int) = (p.getD i []).getD j 0 := by rw [rd, Int.toNat_natCast]
              have hbad : ¬ (-1 ≤ (p.getD i []).getD j 0 ∧ (p.getD i []).getD j 0 ≤ 1) → some false = some (decide (patOk p)) := fun hb => hno (fun h2 => hb (h2.2.2 _ (getD_mem' hlt2)))
              rw [fastiref21_Patterns.l1, if_pos (by omega), if_pos (by omega), hrd, if_pos (by omega), if_pos (by omega), hx, w64 (by omega)]
              by_cases e1 : (p.getD i []).getD j 0 < -1
              · rw [if_pos e1]; exact hbad (by omega)
              rw [if_neg e1]
              by_cases e2 : (p.getD i []).getD j 0 > 1
              · rw [if_pos e2]; exact hbad (by omega)
              rw [if_neg e2]
              refine ih2 (j + 1) k2 (by omega) (by omega) hlt2 fun q hq => ?_
              by_cases e : q = j
              · subst e; omega
              · exact hc q (by omega)
            · obtain rfl : j = (p.getD i []).length := by omega
              exact hend k2 (by omega) hc
        refine ⟨(p.getD i []).length + K + 5, fun k hk => ?_⟩
        obtain ⟨k, rfl⟩ : ∃ k', k = k' + 1 := ⟨k - 1, by omega⟩
        show fastiref21_Patterns.l0 _ _ _ = _
        rw [fastiref21_Patterns.l0, if_pos (by omega), if_pos (by omega), if_pos (by omega), hrd, hrd0]
        obtain ⟨k, rfl⟩ : ∃ k', k = k' + 1 := ⟨k - 1, by omega⟩
        by_cases e1 : ((p.getD i []).length : Int) = ((p.getD 0 []).length : Int)
        · rw [if_pos e1]
          by_cases e2 : ((p.getD i []).length : Int) > 64
          · rw [decide_eq_true e2, hj]; exact hno (fun h2 => by have := h2.2.1; omega)
          · rw [decide_eq_false e2, fastiref21_Patterns.j1, if_neg (by simp)]
            exact inner (by omega) (by omega) (p.getD i []).length 0 k (by omega) (by omega) (by omega) (fun q hq => by omega)
        · rw [if_neg e1, hj]; exact hno (fun h2 => by have := h2.1; omega)
      · obtain rfl : i = p.length := by omega
        exact hlast h
  obtain ⟨K, hK⟩ := key p.length 0 (by omega) (by omega) (fun q hq => by omega)
  exact ⟨K, fun k hk => by show fastiref21_Patterns.f k p = _; rw [fastiref21_Patterns.f, if_neg (by omega)]; exact hK k hk⟩
end Go.Proofs.Ytecgklfcblpkdaa.P
