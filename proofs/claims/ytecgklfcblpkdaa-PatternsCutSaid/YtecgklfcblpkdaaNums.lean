/- Plain laws of the printed parts. -/
import Derived.Test.YtecgklfcblpkdaaP1
import Derived.Test.YtecgklfcblpkdaaP2
import Derived.Test.YtecgklfcblpkdaaP3
import Derived.Test.YtecgklfcblpkdaaP5
import Derived.Test.YtecgklfcblpkdaaP6
import Derived.Test.YtecgklfcblpkdaaP7
import Derived.Test.YtecgklfcblpkdaaP8
import Derived.Test.YtecgklfcblpkdaaP9
import Derived.Test.YtecgklfcblpkdaaVioP
namespace Go.Proofs.Ytecgklfcblpkdaa.P
open Go.RowKit Go.Proofs.YtecgklfcblpkdaaW.PrintWords Go.Proofs.YtecgklfcblpkdaaW.PrintLast Go.Proofs.YtecgklfcblpkdaaW.PrintMore
open XW
set_option linter.unusedSimpArgs false
set_option linter.unusedVariables false

/-- from some number of rounds on -/
def Ev {α : Type} (f : Nat → Option α) (v : α) : Prop := ∃ K, ∀ k, K ≤ k → f k = some v
theorem ev_of {α : Type} {f : Nat → Option α} (h : ∀ k, LeO (f k) (f (k + 1))) {v : α} (hv : ∃ k, f k = some v) : Ev f v := by
  obtain ⟨K, hK⟩ := hv
  exact ⟨K, fun k hk => leO_le h hk _ hK⟩
theorem few_l0 (p : List (List Int)) : ∀ (d : Nat) (x5 : Int) (i : Nat), 100 - i ≤ d → ∃ b, fastiref21_Few.l0 (d + 1) p x5 i = some b := by
  intro d
  have hend : ∀ (k : Nat) (x5 : Int) (i : Nat), ¬ (i < p.length ∧ i < 100) → ∃ b, fastiref21_Few.l0 (k + 1) p x5 i = some b := by
    intro k x5 i h
    rw [fastiref21_Few.l0]
    by_cases h1 : i < p.length
    · rw [if_pos (by omega), if_neg (by omega)]; split <;> exact ⟨_, rfl⟩
    · rw [if_neg (by omega)]; split <;> exact ⟨_, rfl⟩
  induction d with
  | zero => intro x5 i hd; exact hend 0 x5 i (by omega)
  | succ d ih =>
    intro x5 i hd
    by_cases h : i < p.length ∧ i < 100
    · rw [fastiref21_Few.l0, if_pos (by omega), if_pos (by omega), if_pos (by omega), w64 (x := (i : Int) + 1) (by omega)]
      exact ih _ (i + 1) (by omega)
    · exact hend _ x5 i h
theorem few_ev (m : List S44) (p : List (List Int)) : ∃ b, Ev (fun k => fastiref21_Few.f k m p) b := by
  obtain ⟨b, hb⟩ := few_l0 p 100 (m.length : Int) 0 (by omega)
  exact ⟨b, ev_of (fun k => fastiref21_Few.mono _ _ k) ⟨101, hb⟩⟩
theorem pats_ev (p : List (List Int)) (hp : p.length ≤ 9223372036854775807) : Ev (fun k => patterns_patterns.f k p) (decide (patOk p)) := ev_of (fun k => patterns_patterns.mono _ k) (pats_f p hp)
/-! ### breaks -/
def cntB (l : List Int) : Nat → Int
  | 0 => 0
  | j + 1 => cntB l j + if 0 < j ∧ l.getD j 0 ≠ 0 ∧ l.getD j 0 = l.getD (j - 1) 0 then 1 else 0
theorem cntB_bd (l : List Int) : ∀ j, 0 ≤ cntB l j ∧ cntB l j ≤ j
  | 0 => by simp [cntB]
  | j + 1 => by
    have := cntB_bd l j
    rw [cntB]; split <;> omega
def brk (l : List Int) : Int := cntB l l.length
def brF (p : List (List Int)) : List Int × Int := if patOk p then (p.map brk, 0) else ([], 210)
theorem br_l1 (p : List (List Int)) (b : List Int) (i : Nat) (row : List Int) (hl : row.length ≤ 64) (hb : b.length ≤ 20) (hi : i < 20) {R : List Int × Int} {K : Nat} (hK : ∀ k, K ≤ k → patterns_Breaks.l0 k (b ++ [brk row]) p p.length ((i + 1 : Nat) : Int) = some R) :
    ∀ (d j k : Nat), row.length - j ≤ d → d + K + 1 ≤ k → j ≤ row.length → patterns_Breaks.l1 k b (cntB row j) (if j = 0 then 0 else row.getD (j - 1) 0) p p.length i row row.length j = some R := by
  intro d
  have hend : ∀ k, K + 1 ≤ k → ∀ was, patterns_Breaks.l1 k b (cntB row row.length) was p p.length i row row.length (row.length : Nat) = some R := fun k hk was => by
    obtain ⟨k, rfl⟩ : ∃ k', k = k' + 1 := ⟨k - 1, by omega⟩
    rw [patterns_Breaks.l1, if_neg (by omega), if_pos (by omega), w64 (by omega)]
    exact hK k (by omega)
  induction d with
  | zero =>
    intro j k hd hk hj
    obtain rfl : j = row.length := by omega
    exact hend k (by omega) _
  | succ d ih =>
    intro j k hd hk hj
    by_cases h : j < row.length
    · obtain ⟨k, rfl⟩ : ∃ k', k = k' + 1 := ⟨k - 1, by omega⟩
      have hrd : rd row (j : Int) = row.getD j 0 := by rw [rd, Int.toNat_natCast]
      have hbd := cntB_bd row j
      have ih' := ih (j + 1) k (by omega) (by omega) h
      rw [if_neg (by omega), show j + 1 - 1 = j from rfl, cntB] at ih'
      rw [patterns_Breaks.l1, if_pos (by omega), if_pos (by omega), if_pos (by omega), hrd, w64 (x := (j : Int) + 1) (by omega), w64 (x := cntB row j + 1) (by omega)]
      by_cases e1 : row.getD j 0 = 0
      · rw [if_pos e1]; rw [if_neg (fun hh => hh.2.1 e1), Int.add_zero] at ih'; exact ih'
      · rw [if_neg e1]
        by_cases ej : j = 0
        · subst ej
          rw [if_pos rfl, if_neg e1]; rw [if_neg (by omega), Int.add_zero] at ih'; exact ih'
        · rw [if_neg ej]
          by_cases e2 : row.getD j 0 = row.getD (j - 1) 0
          · rw [if_pos e2]; rw [if_pos ⟨by omega, e1, e2⟩] at ih'; exact ih'
          · rw [if_neg e2]; rw [if_neg (fun hh => e2 hh.2.2), Int.add_zero] at ih'; exact ih'
    · obtain rfl : j = row.length := by omega
      exact hend k (by omega) _
theorem br_ev (p : List (List Int)) (hp : p.length ≤ 9223372036854775807) : Ev (fun k => patterns_Breaks.f k p) (brF p) := by
  obtain ⟨K0, h0⟩ := pats_ev p hp
  by_cases hok : patOk p
  · have key : ∀ (d i : Nat), p.length - i ≤ d → i ≤ p.length → Ev (fun k => patterns_Breaks.l0 k ((p.take i).map brk) p p.length i) (p.map brk, 0) := by
      intro d
      have hend : Ev (fun k => patterns_Breaks.l0 k ((p.take p.length).map brk) p p.length (p.length : Nat)) (p.map brk, 0) := ⟨1, fun k hk => by
        obtain ⟨k, rfl⟩ : ∃ k', k = k' + 1 := ⟨k - 1, by omega⟩
        show patterns_Breaks.l0 _ _ _ _ _ = _
        rw [patterns_Breaks.l0, if_neg (by omega), List.take_length]⟩
      induction d with
      | zero => intro i hd hi; obtain rfl : i = p.length := by omega
                exact hend
      | succ d ih =>
        intro i hd hi
        by_cases h : i < p.length
        · obtain ⟨K, hK⟩ := ih (i + 1) (by omega) h
          have hlen := hok.1
          have hrow := hok.2 _ (getD_mem' (d := []) h)
          rw [take_snocD p i [] h, List.map_append, List.map_singleton] at hK
          refine ⟨64 + K + 2, fun k hk => ?_⟩
          obtain ⟨k, rfl⟩ : ∃ k', k = k' + 1 := ⟨k - 1, by omega⟩
          show patterns_Breaks.l0 _ _ _ _ _ = _
          have hrd : rd_L3 p (i : Int) = p.getD i [] := by rw [rd_L3, Int.toNat_natCast]
          rw [patterns_Breaks.l0, if_pos (by omega), if_pos (by omega), if_pos (by omega), hrd]
          exact br_l1 p _ i (p.getD i []) hrow.2.1 (by simp; omega) (by omega) hK (p.getD i []).length 0 k (by omega) (by have := hrow.2.1; omega) (by omega)
        · obtain rfl : i = p.length := by omega
          exact hend
    obtain ⟨K, hK⟩ := key p.length 0 (by omega) (by omega)
    refine ⟨K0 + K, fun k hk => ?_⟩
    show patterns_Breaks.f k p = _
    have h0' := h0 k (by omega)
    simp only [] at h0'
    rw [patterns_Breaks.f, h0', Option.bind_some, decide_eq_true hok, if_pos rfl, brF, if_pos hok]
    exact hK k (by omega)
  · refine ⟨K0, fun k hk => ?_⟩
    show patterns_Breaks.f k p = _
    have h0' := h0 k (by omega)
    simp only [] at h0'
    rw [patterns_Breaks.f, h0', Option.bind_some, decide_eq_false hok, if_neg (by simp), brF, if_neg hok]
/-! ### the reference's patterns -/
end Go.Proofs.Ytecgklfcblpkdaa.P
