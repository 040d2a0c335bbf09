/- Plain laws of the printed parts. -/
import Derived.Test.YtecgklfcblpkdaaP1
import Derived.Test.YtecgklfcblpkdaaP2
import Derived.Test.YtecgklfcblpkdaaP3
import Derived.Test.YtecgklfcblpkdaaP5
import Derived.Test.YtecgklfcblpkdaaP6
import Derived.Test.YtecgklfcblpkdaaVioP
namespace Go.Proofs.Ytecgklfcblpkdaa.P
open Go.RowKit Go.Proofs.YtecgklfcblpkdaaW.PrintWords Go.Proofs.YtecgklfcblpkdaaW.PrintLast Go.Proofs.YtecgklfcblpkdaaW.PrintMore
open XW
set_option linter.unusedSimpArgs false
set_option linter.unusedVariables false

/-- from some number of rounds on -/
def Ev {α : Type} (f : Nat → Option α) (v : α) : Prop := ∃ K, ∀ k, K ≤ k → f k = some v
theorem ev_of {α : Type} {f : Nat → Option α} (h : ∀ k, LeO (f k) (f (k + 1))) {v : α} (hv : ∃ k, f k = some v) : Ev f v := by
  obtain ⟨K, hK⟩ := hv
  exact ⟨K, fun k hk => leO_le h hk _ hK⟩
theorem few_l0 (p : List (List Int)) : ∀ (d : Nat) (x5 : Int) (i : Nat), 100 - i ≤ d → ∃ b, fastiref21_Few.l0 (d + 1) p x5 i = some b := by
  intro d
  have hend : ∀ (k : Nat) (x5 : Int) (i : Nat), ¬ (i < p.length ∧ i < 100) → ∃ b, fastiref21_Few.l0 (k + 1) p x5 i = some b := by
    intro k x5 i h
    rw [fastiref21_Few.l0]
    by_cases h1 : i < p.length
    · rw [if_pos (by omega), if_neg (by omega)]; split <;> exact ⟨_, rfl⟩
    · rw [if_neg (by omega)]; split <;> exact ⟨_, rfl⟩
  induction d with
  | zero => intro x5 i hd; exact hend 0 x5 i (by omega)
  | succ d ih =>
    intro x5 i hd
    by_cases h : i < p.length ∧ i < 100
    · rw [fastiref21_Few.l0, if_pos (by omega), if_pos (by omega), if_pos (by omega), w64 (x := (i : Int) + 1) (by omega)]
      exact ih _ (i + 1) (by omega)
    · exact hend _ x5 i h
theorem few_ev (m : List S44) (p : List (List Int)) : ∃ b, Ev (fun k => fastiref21_Few.f k m p) b := by
  obtain ⟨b, hb⟩ := few_l0 p 100 (m.length : Int) 0 (by omega)
  exact ⟨b, ev_of (fun k => fastiref21_Few.mono _ _ k) ⟨101, hb⟩⟩
theorem ints_l0 (l : List Int) (hl : l.length ≤ 9223372036854775807) : ∀ (d i : Nat), l.length - i ≤ d → i ≤ l.length → fastiref21_SameInts.l0 (d + 1) l l i = some true := by
  intro d
  induction d with
  | zero => intro i hd hi; rw [fastiref21_SameInts.l0, if_neg (by omega)]
  | succ d ih =>
    intro i hd hi
    rw [fastiref21_SameInts.l0]
    by_cases h : i < l.length
    · rw [if_pos (by omega), if_pos (by omega), if_pos (by omega), if_pos rfl, w64 (by omega)]; exact ih (i + 1) (by omega) h
    · rw [if_neg (by omega)]
theorem ints_ev (l : List Int) (hl : l.length ≤ 9223372036854775807) : Ev (fun k => fastiref21_SameInts.f k l l) true :=
  ev_of (fun k => fastiref21_SameInts.mono _ _ k) ⟨l.length + 1, by show fastiref21_SameInts.f _ l l = _; rw [fastiref21_SameInts.f, if_pos rfl]; exact ints_l0 l hl l.length 0 (by omega) (by omega)⟩
theorem same_ev (M : List (List Int)) (hM : M.length ≤ 9223372036854775807) (hr : ∀ row ∈ M, row.length ≤ 9223372036854775807) : Ev (fun k => fastiref21_Same.f k M M) true := by
  have key : ∀ (d i : Nat), M.length - i ≤ d → i ≤ M.length → Ev (fun k => fastiref21_Same.l0 k M M i) true := by
    intro d
    induction d with
    | zero => intro i hd hi; exact ⟨1, fun k hk => by
        obtain ⟨k, rfl⟩ : ∃ k', k = k' + 1 := ⟨k - 1, by omega⟩
        show fastiref21_Same.l0 _ M M i = _
        rw [fastiref21_Same.l0, if_neg (by omega)]⟩
    | succ d ih =>
      intro i hd hi
      by_cases h : i < M.length
      · obtain ⟨K1, h1⟩ := ih (i + 1) (by omega) h
        obtain ⟨K2, h2⟩ := ints_ev (M.getD i []) (hr _ (getD_mem' h))
        refine ⟨K1 + K2 + 1, fun k hk => ?_⟩
        obtain ⟨k, rfl⟩ : ∃ k', k = k' + 1 := ⟨k - 1, by omega⟩
        show fastiref21_Same.l0 _ M M i = _
        have hrd : rd_L3 M (i : Int) = M.getD i [] := by rw [rd_L3, Int.toNat_natCast]
        have h2' := h2 k (by omega)
        have h1' := h1 k (by omega)
        simp only [] at h2' h1'
        rw [fastiref21_Same.l0, if_pos (by omega), if_pos (by omega), if_pos (by omega), hrd, h2', Option.bind_some, if_pos rfl, w64 (by omega)]
        exact h1'
      · exact ⟨1, fun k hk => by
          obtain ⟨k, rfl⟩ : ∃ k', k = k' + 1 := ⟨k - 1, by omega⟩
          show fastiref21_Same.l0 _ M M i = _
          rw [fastiref21_Same.l0, if_neg (by omega)]⟩
  obtain ⟨K, hK⟩ := key M.length 0 (by omega) (by omega)
  exact ⟨K, fun k hk => by show fastiref21_Same.f k M M = _; rw [fastiref21_Same.f, if_pos rfl]; exact hK k hk⟩
theorem pats_ev (p : List (List Int)) (hp : p.length ≤ 9223372036854775807) : Ev (fun k => patterns_patterns.f k p) (decide (patOk p)) := ev_of (fun k => patterns_patterns.mono _ k) (pats_f p hp)
/-! ### breaks -/
def cntB (l : List Int) : Nat → Int
  | 0 => 0
  | j + 1 => cntB l j + if 0 < j ∧ l.getD j 0 ≠ 0 ∧ l.getD j 0 = l.getD (j - 1) 0 then 1 else 0
theorem cntB_bd (l : List Int) : ∀ j, 0 ≤ cntB l j ∧ cntB l j ≤ j
  | 0 => by simp [cntB]
  | j + 1 => by
    have := cntB_bd l j
    rw [cntB]; split <;> omega
def brk (l : List Int) : Int := cntB l l.length
def brF (p : List (List Int)) : List Int × Int := if patOk p then (p.map brk, 0) else ([], 210)
theorem br_l1 (p : List (List Int)) (b : List Int) (i : Nat) (row : List Int) (hl : row.length ≤ 64) (hb : b.length ≤ 20) (hi : i < 20) {R : List Int × Int} {K : Nat} (hK : ∀ k, K ≤ k → patterns_Breaks.l0 k (b ++ [brk row]) p p.length ((i + 1 : Nat) : Int) = some R) :
    ∀ (d j k : Nat), row.length - j ≤ d → d + K + 1 ≤ k → j ≤ row.length → patterns_Breaks.l1 k b (cntB row j) (if j = 0 then 0 else row.getD (j - 1) 0) p p.length i row row.length j = some R := by
  intro d
  have hend : ∀ k, K + 1 ≤ k → ∀ was, patterns_Breaks.l1 k b (cntB row row.length) was p p.length i row row.length (row.length : Nat) = some R := fun k hk was => by
    obtain ⟨k, rfl⟩ : ∃ k', k = k' + 1 := ⟨k - 1, by omega⟩
    rw [patterns_Breaks.l1, if_neg (by omega), if_pos (by omega), w64 (by omega)]
    exact hK k (by omega)
  induction d with
  | zero =>
    intro j k hd hk hj
    obtain rfl : j = row.length := by omega
    exact hend k (by omega) _
  | succ d ih =>
    intro j k hd hk hj
    by_cases h : j < row.length
    · obtain ⟨k, rfl⟩ : ∃ k', k = k' + 1 := ⟨k - 1, by omega⟩
      have hrd : rd row (j : Int) = row.getD j 0 := by rw [rd, Int.toNat_natCast]
      have hbd := cntB_bd row j
      have ih' := ih (j + 1) k (by omega) (by omega) h
      rw [if_neg (by omega), show j + 1 - 1 = j from rfl, cntB] at ih'
      rw [patterns_Breaks.l1, if_pos (by omega), if_pos (by omega), if_pos (by omega), hrd, w64 (x := (j : Int) + 1) (by omega), w64 (x := cntB row j + 1) (by omega)]
      by_cases e1 : row.getD j 0 = 0
      · rw [if_pos e1]; rw [if_neg (fun hh => hh.2.1 e1), Int.add_zero] at ih'; exact ih'
      · rw [if_neg e1]
        by_cases ej : j = 0
        · subst ej
          rw [if_pos rfl, if_neg e1]; rw [if_neg (by omega), Int.add_zero] at ih'; exact ih'
        · rw [if_neg ej]
          by_cases e2 : row.getD j 0 = row.getD (j - 1) 0
          · rw [if_pos e2]; rw [if_pos ⟨by omega, e1, e2⟩] at ih'; exact ih'
          · rw [if_neg e2]; rw [if_neg (fun hh => e2 hh.2.2), Int.add_zero] at ih'; exact ih'
    · obtain rfl : j = row.length := by omega
      exact hend k (by omega) _
theorem br_ev (p : List (List Int)) (hp : p.length ≤ 9223372036854775807) : Ev (fun k => patterns_Breaks.f k p) (brF p) := by
  obtain ⟨K0, h0⟩ := pats_ev p hp
  by_cases hok : patOk p
  · have key : ∀ (d i : Nat), p.length - i ≤ d → i ≤ p.length → Ev (fun k => patterns_Breaks.l0 k ((p.take i).map brk) p p.length i) (p.map brk, 0) := by
      intro d
      have hend : Ev (fun k => patterns_Breaks.l0 k ((p.take p.length).map brk) p p.length (p.length : Nat)) (p.map brk, 0) := ⟨1, fun k hk => by
        obtain ⟨k, rfl⟩ : ∃ k', k = k' + 1 := ⟨k - 1, by omega⟩
        show patterns_Breaks.l0 _ _ _ _ _ = _
        rw [patterns_Breaks.l0, if_neg (by omega), List.take_length]⟩
      induction d with
      | zero => intro i hd hi; obtain rfl : i = p.length := by omega
                exact hend
      | succ d ih =>
        intro i hd hi
        by_cases h : i < p.length
        · obtain ⟨K, hK⟩ := ih (i + 1) (by omega) h
          have hlen := hok.1
          have hrow := hok.2 _ (getD_mem' (d := []) h)
          rw [take_snocD p i [] h, List.map_append, List.map_singleton] at hK
          refine ⟨64 + K + 2, fun k hk => ?_⟩
          obtain ⟨k, rfl⟩ : ∃ k', k = k' + 1 := ⟨k - 1, by omega⟩
          show patterns_Breaks.l0 _ _ _ _ _ = _
          have hrd : rd_L3 p (i : Int) = p.getD i [] := by rw [rd_L3, Int.toNat_natCast]
          rw [patterns_Breaks.l0, if_pos (by omega), if_pos (by omega), if_pos (by omega), hrd]
          exact br_l1 p _ i (p.getD i []) hrow.2.1 (by simp; omega) (by omega) hK (p.getD i []).length 0 k (by omega) (by have := hrow.2.1; omega) (by omega)
        · obtain rfl : i = p.length := by omega
          exact hend
    obtain ⟨K, hK⟩ := key p.length 0 (by omega) (by omega)
    refine ⟨K0 + K, fun k hk => ?_⟩
    show patterns_Breaks.f k p = _
    have h0' := h0 k (by omega)
    simp only [] at h0'
    rw [patterns_Breaks.f, h0', Option.bind_some, decide_eq_true hok, if_pos rfl, brF, if_pos hok]
    exact hK k (by omega)
  · refine ⟨K0, fun k hk => ?_⟩
    show patterns_Breaks.f k p = _
    have h0' := h0 k (by omega)
    simp only [] at h0'
    rw [patterns_Breaks.f, h0', Option.bind_some, decide_eq_false hok, if_neg (by simp), brF, if_neg hok]
/-! ### the reference's patterns -/
theorem rpats_ev (p : List (List Int)) : Ev (fun k => fastiref21_Patterns.f k p) (decide (patOk p)) := by
  by_cases hlen : p.length > 20
  · exact ⟨0, fun k _ => by show fastiref21_Patterns.f k p = _; rw [fastiref21_Patterns.f, if_pos (by omega), decide_eq_false (fun h => by have := h.1; omega)]⟩
  have key : ∀ (d i : Nat), p.length - i ≤ d → i ≤ p.length → (∀ q, q < i → rowOk1 p (p.getD q [])) → Ev (fun k => fastiref21_Patterns.l0 k p i) (decide (patOk p)) := by
    intro d
    have hlast : (∀ q, q < p.length → rowOk1 p (p.getD q [])) → Ev (fun k => fastiref21_Patterns.l0 k p (p.length : Nat)) (decide (patOk p)) := fun h => by
      refine ⟨1, fun k hk => ?_⟩
      obtain ⟨k, rfl⟩ : ∃ k', k = k' + 1 := ⟨k - 1, by omega⟩
      show fastiref21_Patterns.l0 _ _ _ = _
      rw [fastiref21_Patterns.l0, if_neg (by omega)]
      congr 1
      have hok : patOk p := ⟨by omega, fun l hl => by
        obtain ⟨q, hq, rfl⟩ := List.getElem_of_mem hl
        have := h q hq
        rwa [List.getD_eq_getElem?_getD, List.getElem?_eq_getElem hq] at this⟩
      rw [decide_eq_true hok]
    induction d with
    | zero =>
      intro i hd hi h
      obtain rfl : i = p.length := by omega
      exact hlast h
    | succ d ih =>
      intro i hd hi h
      by_cases hlt : i < p.length
      · have hrd : rd_L3 p (i : Int) = p.getD i [] := by rw [rd_L3, Int.toNat_natCast]
        have hrd0 : rd_L3 p 0 = p.getD 0 [] := rfl
        have hno : ¬ rowOk1 p (p.getD i []) → some false = some (decide (patOk p)) := fun hc => by
          rw [decide_eq_false (fun h2 => hc (h2.2 _ (getD_mem' hlt)))]
        obtain ⟨K, hK⟩ : ∃ K, rowOk1 p (p.getD i []) → ∀ k, K ≤ k → fastiref21_Patterns.l0 k p ((i + 1 : Nat) : Int) = some (decide (patOk p)) := by
          by_cases h1 : rowOk1 p (p.getD i [])
          · obtain ⟨K, hK⟩ := ih (i + 1) (by omega) hlt (fun q hq => by
              by_cases e : q = i
              · subst e; exact h1
              · exact h q (by omega))
            exact ⟨K, fun _ => hK⟩
          · exact ⟨0, fun h2 => absurd h2 h1⟩
        have hj : ∀ k, fastiref21_Patterns.j1 (k + 1) p i true = some false := fun k => by rw [fastiref21_Patterns.j1, if_pos rfl]
        have inner : (p.getD i []).length = (p.getD 0 []).length → (p.getD i []).length ≤ 64 → ∀ (d2 j k2 : Nat), (p.getD i []).length - j ≤ d2 → d2 + K + 2 ≤ k2 → j ≤ (p.getD i []).length → (∀ q, q < j → -1 ≤ (p.getD i []).getD q 0 ∧ (p.getD i []).getD q 0 ≤ 1) → fastiref21_Patterns.l1 k2 p i j = some (decide (patOk p)) := by
          intro hl1 hl2 d2
          have hend : ∀ k2, K + 1 ≤ k2 → (∀ q, q < (p.getD i []).length → -1 ≤ (p.getD i []).getD q 0 ∧ (p.getD i []).getD q 0 ≤ 1) → fastiref21_Patterns.l1 k2 p i ((p.getD i []).length : Nat) = some (decide (patOk p)) := by
            intro k2 hk2 hc
            obtain ⟨k2, rfl⟩ : ∃ k', k2 = k' + 1 := ⟨k2 - 1, by omega⟩
            rw [fastiref21_Patterns.l1, if_pos (by omega), if_pos (by omega), hrd, if_neg (by omega), w64 (by omega)]
            refine hK ⟨hl1, hl2, fun x hx => ?_⟩ k2 (by omega)
            obtain ⟨q, hq, rfl⟩ := List.getElem_of_mem hx
            have := hc q hq
            rwa [List.getD_eq_getElem?_getD, List.getElem?_eq_getElem hq] at this
          induction d2 with
          | zero =>
            intro j k2 hd2 hk2 hj2 hc
            obtain rfl : j = (p.getD i []).length := by omega
            exact hend k2 (by omega) hc
          | succ d2 ih2 =>
            intro j k2 hd2 hk2 hj2 hc
            by_cases hlt2 : j < (p.getD i []).length
            · obtain ⟨k2, rfl⟩ : ∃ k', k2 = k' + 1 := ⟨k2 - 1, by omega⟩
              have hx : rd (p.getD i []) (j : Int) = (p.getD i []).getD j 0 := by rw [rd, Int.toNat_natCast]
              have hbad : ¬ (-1 ≤ (p.getD i []).getD j 0 ∧ (p.getD i []).getD j 0 ≤ 1) → some false = some (decide (patOk p)) := fun hb => hno (fun h2 => hb (h2.2.2 _ (getD_mem' hlt2)))
              rw [fastiref21_Patterns.l1, if_pos (by omega), if_pos (by omega), hrd, if_pos (by omega), if_pos (by omega), hx, w64 (by omega)]
              by_cases e1 : (p.getD i []).getD j 0 < -1
              · rw [if_pos e1]; exact hbad (by omega)
              rw [if_neg e1]
              by_cases e2 : (p.getD i []).getD j 0 > 1
              · rw [if_pos e2]; exact hbad (by omega)
              rw [if_neg e2]
              refine ih2 (j + 1) k2 (by omega) (by omega) hlt2 fun q hq => ?_
              by_cases e : q = j
              · subst e; omega
              · exact hc q (by omega)
            · obtain rfl : j = (p.getD i []).length := by omega
              exact hend k2 (by omega) hc
        refine ⟨(p.getD i []).length + K + 5, fun k hk => ?_⟩
        obtain ⟨k, rfl⟩ : ∃ k', k = k' + 1 := ⟨k - 1, by omega⟩
        show fastiref21_Patterns.l0 _ _ _ = _
        rw [fastiref21_Patterns.l0, if_pos (by omega), if_pos (by omega), if_pos (by omega), hrd, hrd0]
        obtain ⟨k, rfl⟩ : ∃ k', k = k' + 1 := ⟨k - 1, by omega⟩
        by_cases e1 : ((p.getD i []).length : Int) = ((p.getD 0 []).length : Int)
        · rw [if_pos e1]
          by_cases e2 : ((p.getD i []).length : Int) > 64
          · rw [decide_eq_true e2, hj]; exact hno (fun h2 => by have := h2.2.1; omega)
          · rw [decide_eq_false e2, fastiref21_Patterns.j1, if_neg (by simp)]
            exact inner (by omega) (by omega) (p.getD i []).length 0 k (by omega) (by omega) (by omega) (fun q hq => by omega)
        · rw [if_neg e1, hj]; exact hno (fun h2 => by have := h2.1; omega)
      · obtain rfl : i = p.length := by omega
        exact hlast h
  obtain ⟨K, hK⟩ := key p.length 0 (by omega) (by omega) (fun q hq => by omega)
  exact ⟨K, fun k hk => by show fastiref21_Patterns.f k p = _; rw [fastiref21_Patterns.f, if_neg (by omega)]; exact hK k hk⟩
theorem rbr_l1 (p : List (List Int)) (b : List Int) (i : Nat) (row : List Int) (hrow : p.getD i [] = row) (hi : i < p.length) (hp : p.length ≤ 20) (hl : row.length ≤ 64) (hb : b.length ≤ 20) {R : List Int × Int} {K : Nat} (hK : ∀ k, K ≤ k → fastiref21_Breaks.l0 k p (b ++ [brk row]) ((i + 1 : Nat) : Int) = some R) :
    ∀ (d j k : Nat), row.length - j ≤ d → d + K + 1 ≤ k → 1 ≤ j → (j ≤ row.length ∨ row.length = 0 ∧ j = 1) → fastiref21_Breaks.l1 k p b i (cntB row j) j = some R := by
  intro d
  have hrd : rd_L3 p (i : Int) = row := by rw [rd_L3, Int.toNat_natCast, hrow]
  have hend : ∀ (k j : Nat), K + 1 ≤ k → 1 ≤ j → row.length ≤ j → cntB row j = brk row → fastiref21_Breaks.l1 k p b i (cntB row j) j = some R := fun k j hk hj1 hj hc => by
    obtain ⟨k, rfl⟩ : ∃ k', k = k' + 1 := ⟨k - 1, by omega⟩
    rw [fastiref21_Breaks.l1, if_pos (by omega), if_pos (by omega), hrd, if_neg (by omega), if_pos (by omega), w64 (by omega), hc]
    exact hK k (by omega)
  have hlast : ∀ j, row.length ≤ j → (j ≤ row.length ∨ row.length = 0 ∧ j = 1) → cntB row j = brk row := fun j h1 h2 => by
    rcases h2 with h2 | ⟨h2, h3⟩
    · obtain rfl : j = row.length := by omega
      rfl
    · subst h3; rw [brk, h2, cntB, cntB, if_neg (by omega)]; rfl
  induction d with
  | zero =>
    intro j k hd hk hj1 hj
    exact hend k j (by omega) hj1 (by omega) (hlast j (by omega) hj)
  | succ d ih =>
    intro j k hd hk hj1 hj
    by_cases h : j < row.length
    · obtain ⟨k, rfl⟩ : ∃ k', k = k' + 1 := ⟨k - 1, by omega⟩
      have hx : rd row (j : Int) = row.getD j 0 := by rw [rd, Int.toNat_natCast]
      have hx1 : rd row ((j : Int) - 1) = row.getD (j - 1) 0 := by rw [rd]; congr 1; omega
      have hbd := cntB_bd row j
      have ih' := ih (j + 1) k (by omega) (by omega) (by omega) (.inl h)
      rw [cntB] at ih'
      rw [fastiref21_Breaks.l1, if_pos (by omega), if_pos (by omega), hrd, if_pos (by omega), if_pos (by omega), hx, w64 (x := (j : Int) + 1) (by omega), w64 (x := (j : Int) - 1) (by omega), hx1, w64 (x := cntB row j + 1) (by omega)]
      by_cases e1 : row.getD j 0 = 0
      · rw [if_pos e1]; rw [if_neg (fun hh => hh.2.1 e1), Int.add_zero] at ih'; exact ih'
      · rw [if_neg e1, if_pos (by omega), if_pos (by omega)]
        by_cases e2 : row.getD j 0 = row.getD (j - 1) 0
        · rw [if_pos e2]; rw [if_pos ⟨by omega, e1, e2⟩] at ih'; exact ih'
        · rw [if_neg e2]; rw [if_neg (fun hh => e2 hh.2.2), Int.add_zero] at ih'; exact ih'
    · exact hend k j (by omega) hj1 (by omega) (hlast j (by omega) hj)
theorem rbr_ev (p : List (List Int)) : Ev (fun k => fastiref21_Breaks.f k p) (brF p) := by
  obtain ⟨K0, h0⟩ := rpats_ev p
  by_cases hok : patOk p
  · have hlen := hok.1
    have key : ∀ (d i : Nat), p.length - i ≤ d → i ≤ p.length → Ev (fun k => fastiref21_Breaks.l0 k p ((p.take i).map brk) i) (p.map brk, 0) := by
      intro d
      have hend : Ev (fun k => fastiref21_Breaks.l0 k p ((p.take p.length).map brk) (p.length : Nat)) (p.map brk, 0) := ⟨1, fun k hk => by
        obtain ⟨k, rfl⟩ : ∃ k', k = k' + 1 := ⟨k - 1, by omega⟩
        show fastiref21_Breaks.l0 _ _ _ _ = _
        rw [fastiref21_Breaks.l0, if_neg (by omega), List.take_length]⟩
      induction d with
      | zero => intro i hd hi; obtain rfl : i = p.length := by omega
                exact hend
      | succ d ih =>
        intro i hd hi
        by_cases h : i < p.length
        · obtain ⟨K, hK⟩ := ih (i + 1) (by omega) h
          have hrow := hok.2 _ (getD_mem' (d := []) h)
          rw [take_snocD p i [] h, List.map_append, List.map_singleton] at hK
          refine ⟨64 + K + 2, fun k hk => ?_⟩
          obtain ⟨k, rfl⟩ : ∃ k', k = k' + 1 := ⟨k - 1, by omega⟩
          show fastiref21_Breaks.l0 _ _ _ _ = _
          rw [fastiref21_Breaks.l0, if_pos (by omega)]
          have := rbr_l1 p _ i (p.getD i []) rfl h hlen hrow.2.1 (by simp; omega) hK (p.getD i []).length 1 k (by omega) (by have := hrow.2.1; omega) (by omega) (by omega)
          rw [cntB, cntB, if_neg (by omega)] at this
          exact this
        · obtain rfl : i = p.length := by omega
          exact hend
    obtain ⟨K, hK⟩ := key p.length 0 (by omega) (by omega)
    refine ⟨K0 + K, fun k hk => ?_⟩
    show fastiref21_Breaks.f k p = _
    have h0' := h0 k (by omega)
    simp only [] at h0'
    rw [fastiref21_Breaks.f, h0', Option.bind_some, decide_eq_true hok, if_pos rfl, brF, if_pos hok]
    exact hK k (by omega)
  · refine ⟨K0, fun k hk => ?_⟩
    show fastiref21_Breaks.f k p = _
    have h0' := h0 k (by omega)
    simp only [] at h0'
    rw [fastiref21_Breaks.f, h0', Option.bind_some, decide_eq_false hok, if_neg (by simp), brF, if_neg hok]
theorem brF_len (p : List (List Int)) : (brF p).1.length ≤ 20 := by
  unfold brF
  split
  · rename_i h; have := h.1; simpa using this
  · simp
end Go.Proofs.Ytecgklfcblpkdaa.P
