import Derived.Test.YtecgklfcblpkdaaP1
import Derived.Test.YtecgklfcblpkdaaP2
import Derived.Test.YtecgklfcblpkdaaP3
import Derived.Test.YtecgklfcblpkdaaP5
import Derived.Test.YtecgklfcblpkdaaP6
import Derived.Test.YtecgklfcblpkdaaP7
import Derived.Test.YtecgklfcblpkdaaP8
import Derived.Test.YtecgklfcblpkdaaP9
import Derived.Test.YtecgklfcblpkdaaVioW
/- Plain laws of the printed parts. -/
namespace Go.Proofs.Ytecgklfcblpkdaa.P
open Go.RowKit Go.Proofs.YtecgklfcblpkdaaW.PrintWords Go.Proofs.YtecgklfcblpkdaaW.PrintLast Go.Proofs.YtecgklfcblpkdaaW.PrintMore
open XW
set_option linter.unusedSimpArgs false
set_option linter.unusedVariables false

/-- from some number of rounds on -/
def Ev {α : Type} (f : Nat → Option α) (v : α) : Prop := ∃ K, ∀ k, K ≤ k → f k = some v
theorem ev_of {α : Type} {f : Nat → Option α} (h : ∀ k, LeO (f k) (f (k + 1))) {v : α} (hv : ∃ k, f k = some v) : Ev f v := by
  obtain ⟨K, hK⟩ := hv
  exact ⟨K, fun k hk => leO_le h hk _ hK⟩
theorem pats_ev (p : List (List Int)) (hp : p.length ≤ 9223372036854775807) : Ev (fun k => patterns_patterns.f k p) (decide (patOk p)) := ev_of (fun k => patterns_patterns.mono _ k) (pats_f p hp)
/-! ### breaks -/
def cntB (l : List Int) : Nat → Int
  | 0 => 0
  | j + 1 => cntB l j + if 0 < j ∧ l.getD j 0 ≠ 0 ∧ l.getD j 0 = l.getD (j - 1) 0 then 1 else 0
theorem cntB_bd (l : List Int) : ∀ j, 0 ≤ cntB l j ∧ cntB l j ≤ j
  | 0 => by simp [cntB]
  | j + 1 => by
    have := cntB_bd l j
    rw [cntB]; split <;> omega
def brk (l : List Int) : Int := cntB l l.length
def brF (p : List (List Int)) : List Int × Int := if patOk p then (p.map brk, 0) else ([], 210)
theorem br_l1 (p : List (List Int)) (b : List Int) (i : Nat) (row : List Int) (hl : row.length ≤ 64) (hb : b.length ≤ 20) (hi : i < 20) {R : List Int × Int} {K : Nat} (hK : ∀ k, K ≤ k → patterns_Breaks.l0 k (b ++ [brk row]) p p.length ((i + 1 : Nat) : Int) = some R) :
    ∀ (d j k : Nat), row.length - j ≤ d → d + K + 1 ≤ k → j ≤ row.length → patterns_Breaks.l1 k b (cntB row j) (if j = 0 then 0 else row.getD (j - 1) 0) p p.length i row row.length j = some R := by
  intro d
  have hend : ∀ k, K + 1 ≤ k → ∀ was, patterns_Breaks.l1 k b (cntB row row.length) was p p.length i row row.length (row.length : Nat) = some R := fun k hk was => by
    obtain ⟨k, rfl⟩ : ∃ k', k = k' + 1 := ⟨k - 1, by omega⟩
    rw [patterns_Breaks.l1, if_neg (by omega), if_pos (by omega), w64 (by omega)]
    exact hK k (by omega)
  induction d with
  | zero =>
    intro j k hd hk hj
    obtain rfl : j = row.length := by omega
    exact hend k (by omega) _
  | succ d ih =>
    intro j k hd hk hj
    by_cases h : j < row.length
    · obtain ⟨k, rfl⟩ : ∃ k', k = k' + 1 := ⟨k - 1, by omega⟩
      have hrd : rd row (j : Int) = row.getD j 0 := by rw [rd, Int.toNat_natCast]
      have hbd := cntB_bd row j
      have ih' := ih (j + 1) k (by omega) (by omega) h
      rw [if_neg (by omega), show j + 1 - 1 = j from rfl, cntB] at ih'
      rw [patterns_Breaks.l1, if_pos (by omega), if_pos (by omega), if_pos (by omega), hrd, w64 (x := (j : Int) + 1) (by omega), w64 (x := cntB row j + 1) (by omega)]
      by_cases e1 : row.getD j 0 = 0
      · rw [if_pos e1]; rw [if_neg (fun hh => hh.2.1 e1), Int.add_zero] at ih'; exact ih'
      · rw [if_neg e1]
        by_cases ej : j = 0
        · subst ej
          rw [if_pos rfl, if_neg e1]; rw [if_neg (by omega), Int.add_zero] at ih'; exact ih'
        · rw [if_neg ej]
          by_cases e2 : row.getD j 0 = row.getD (j - 1) 0
          · rw [if_pos e2]; rw [if_pos ⟨by omega, e1, e2⟩] at ih'; exact ih'
          · rw [if_neg e2]; rw [if_neg (fun hh => e2 hh.2.2), Int.add_zero] at ih'; exact ih'
    · obtain rfl : j = row.length := by omega
      exact hend k (by omega) _
theorem br_ev (p : List (List Int)) (hp : p.length ≤ 9223372036854775807) : Ev (fun k => patterns_Breaks.f k p) (brF p) := by
  obtain ⟨K0, h0⟩ := pats_ev p hp
  by_cases hok : patOk p
  · have key : ∀ (d i : Nat), p.length - i ≤ d → i ≤ p.length → Ev (fun k => patterns_Breaks.l0 k ((p.take i).map brk) p p.length i) (p.map brk, 0) := by
      intro d
      have hend : Ev (fun k => patterns_Breaks.l0 k ((p.take p.length).map brk) p p.length (p.length : Nat)) (p.map brk, 0) := ⟨1, fun k hk => by
        obtain ⟨k, rfl⟩ : ∃ k', k = k' + 1 := ⟨k - 1, by omega⟩
        show patterns_Breaks.l0 _ _ _ _ _ = _
        rw [patterns_Breaks.l0, if_neg (by omega), List.take_length]⟩
      induction d with
      | zero => intro i hd hi; obtain rfl : i = p.length := by omega
                exact hend
      | succ d ih =>
        intro i hd hi
        by_cases h : i < p.length
        · obtain ⟨K, hK⟩ := ih (i + 1) (by omega) h
          have hlen := hok.1
          have hrow := hok.2 _ (getD_mem' (d := []) h)
          rw [take_snocD p i [] h, List.map_append, List.map_singleton] at hK
          refine ⟨64 + K + 2, fun k hk => ?_⟩
          obtain ⟨k, rfl⟩ : ∃ k', k = k' + 1 := ⟨k - 1, by omega⟩
          show patterns_Breaks.l0 _ _ _ _ _ = _
          have hrd : rd_L3 p (i : Int) = p.getD i [] := by rw [rd_L3, Int.toNat_natCast]
          rw [patterns_Breaks.l0, if_pos (by omega), if_pos (by omega), if_pos (by omega), hrd]
          exact br_l1 p _ i (p.getD i []) hrow.2.1 (by simp; omega) (by omega) hK (p.getD i []).length 0 k (by omega) (by have := hrow.2.1; omega) (by omega)
        · obtain rfl : i = p.length := by omega
          exact hend
    obtain ⟨K, hK⟩ := key p.length 0 (by omega) (by omega)
    refine ⟨K0 + K, fun k hk => ?_⟩
    show patterns_Breaks.f k p = _
    have h0' := h0 k (by omega)
    simp only [] at h0'
    rw [patterns_Breaks.f, h0', Option.bind_some, decide_eq_true hok, if_pos rfl, brF, if_pos hok]
    exact hK k (by omega)
  · refine ⟨K0, fun k hk => ?_⟩
    show patterns_Breaks.f k p = _
    have h0' := h0 k (by omega)
    simp only [] at h0'
    rw [patterns_Breaks.f, h0', Option.bind_some, decide_eq_false hok, if_neg (by simp), brF, if_neg hok]
/-! ### the reference's patterns -/
end Go.Proofs.Ytecgklfcblpkdaa.P

/- Sets of teams, in their order; when one is short of games: plain. -/
namespace Go.Proofs.Ytecgklfcblpkdaa.P
open Go.RowKit Go.Proofs.YtecgklfcblpkdaaW.PrintWords Go.Proofs.YtecgklfcblpkdaaW.PrintLast Go.Proofs.YtecgklfcblpkdaaW.PrintMore
open XW
set_option linter.unusedSimpArgs false
set_option linter.unusedVariables false
def lexB : List Int → List Int → Bool
  | a :: xs, b :: ys => if a = b then lexB xs ys else decide (a < b)
  | _, _ => false
def befB (a b : List Int) : Bool := if a.length = b.length then lexB a b else decide (a.length < b.length)
theorem lex_trans : ∀ a b c : List Int, lexB a b = true → lexB b c = true → lexB a c = true
  | a :: xs, b :: ys, c :: cs, h1, h2 => by
    rw [lexB] at h1 h2 ⊢
    by_cases e1 : a = b
    · subst e1
      rw [if_pos rfl] at h1
      by_cases e2 : a = c
      · subst e2; rw [if_pos rfl] at h2 ⊢; exact lex_trans xs ys cs h1 h2
      · rw [if_neg e2] at h2 ⊢; exact h2
    · rw [if_neg e1] at h1
      have h1 := of_decide_eq_true h1
      by_cases e2 : b = c
      · subst e2; rw [if_neg e1]; exact decide_eq_true h1
      · rw [if_neg e2] at h2
        have h2 := of_decide_eq_true h2
        rw [if_neg (by omega)]; exact decide_eq_true (by omega)
  | [], _, _, h1, _ => by simp [lexB] at h1
  | _ :: _, [], _, h1, _ => by simp [lexB] at h1
  | _ :: _, _ :: _, [], _, h2 => by simp [lexB] at h2
theorem bef_trans {a b c : List Int} (h1 : befB a b = true) (h2 : befB b c = true) : befB a c = true := by
  unfold befB at *
  by_cases e1 : a.length = b.length
  · rw [if_pos e1] at h1
    by_cases e2 : b.length = c.length
    · rw [if_pos e2] at h2; rw [if_pos (e1.trans e2)]; exact lex_trans _ _ _ h1 h2
    · rw [if_neg e2] at h2; rw [if_neg (by omega)]; have := of_decide_eq_true h2; exact decide_eq_true (by omega)
  · rw [if_neg e1] at h1
    have h1 := of_decide_eq_true h1
    by_cases e2 : b.length = c.length
    · rw [if_neg (by omega)]; exact decide_eq_true (by omega)
    · rw [if_neg e2] at h2; have := of_decide_eq_true h2; rw [if_neg (by omega)]; exact decide_eq_true (by omega)
set_option maxRecDepth 100000 in
theorem sets_in : ((List.range 11).all fun n => (setsL n).all fun x => decide (x < 2 ^ n) && decide (2 ≤ popc x)) = true := by decide +kernel
def bigM : List Nat → Nat
  | [] => 0
  | x :: l => bigM l ||| 2 ^ x
theorem bigM_mem (x : Nat) : ∀ l : List Nat, (bigM l).testBit x = true → x ∈ l
  | [], h => by simp [bigM] at h
  | y :: l, h => by
    rw [bigM, Nat.testBit_or, Bool.or_eq_true] at h
    rcases h with h | h
    · exact List.mem_cons.2 (.inr (bigM_mem x l h))
    · rw [Nat.testBit_two_pow] at h
      exact List.mem_cons.2 (.inl (of_decide_eq_true h).symm)
set_option maxRecDepth 100000 in
theorem sets_all : ((List.range 11).all fun n => (List.range (2 ^ n)).all fun x => decide (popc x < 2) || (bigM (setsL n)).testBit x) = true := by decide +kernel
set_option maxRecDepth 100000 in
theorem membs_all : ((List.range 11).all fun n => (List.range (2 ^ n)).all fun x => decide (membs n x = membs 10 x)) = true := by decide +kernel
end Go.Proofs.Ytecgklfcblpkdaa.P

/- The specification's short sets and its search: plain. -/
namespace Go.Proofs.Ytecgklfcblpkdaa.P
open Go.RowKit Go.Proofs.YtecgklfcblpkdaaW.PrintWords Go.Proofs.YtecgklfcblpkdaaW.PrintLast Go.Proofs.YtecgklfcblpkdaaW.PrintMore
open XW
set_option linter.unusedSimpArgs false
set_option linter.unusedVariables false

def cntV (p : List (List Int)) (l : List Int) (r : Nat) (v : Int) : Nat := (l.filter fun t => decide ((p.getD t.toNat []).getD r 0 = v)).length
def sumG (p : List (List Int)) (l : List Int) : Nat → Int
  | 0 => 0
  | r + 1 => sumG p l r + min (cntV p l r 1 : Int) (cntV p l r (-1))
theorem mk_bit (v : Int) (p : List (List Int)) : ∀ (n t r : Nat), (mk v p n r).testBit t = (decide (t < n) && decide ((p.getD t []).getD r 0 = v))
  | 0, t, r => by simp [mk]
  | n + 1, t, r => by
    have ih := mk_bit v p n t r
    rw [mk]
    by_cases hv : (p.getD n []).getD r 0 = v
    · rw [if_pos hv, Nat.testBit_or, ih, Nat.one_mul, Nat.testBit_two_pow]
      by_cases e : n = t
      · subst e; simp only [Nat.lt_irrefl, decide_false, Bool.false_and, Bool.false_or, hv, decide_true, Bool.and_self, Nat.lt_succ_self]
      · by_cases e2 : t < n
        · simp [e, e2, Nat.lt_succ_of_lt e2]
        · simp [e, e2, show ¬ t < n + 1 by omega]
    · rw [if_neg hv, ih]
      by_cases e : n = t
      · subst e; simp only [Nat.lt_irrefl, decide_false, Bool.false_and, hv, Bool.and_false]
      · by_cases e2 : t < n
        · simp [e2, Nat.lt_succ_of_lt e2]
        · simp [e2, show ¬ t < n + 1 by omega]
theorem range_filter_lt (q : Nat → Bool) (n : Nat) : ∀ N, n ≤ N → ((List.range N).filter fun t => decide (t < n) && q t) = (List.range n).filter q
  | N, h => by
    induction N with
    | zero => obtain rfl : n = 0 := by omega
              rfl
    | succ N ih =>
      by_cases e : n = N + 1
      · subst e
        refine List.filter_congr fun t ht => ?_
        rw [decide_eq_true (List.mem_range.1 ht), Bool.true_and]
      · rw [List.range_succ, List.filter_append, ih (by omega), List.filter_cons, decide_eq_false (by omega : ¬ N < n)]
        simp
theorem cnt_eq (p : List (List Int)) (set n r : Nat) (v : Int) (hn : n ≤ 10) : popc (set &&& mk v p n r) = cntV p (membs n set) r v := by
  rw [popc, cntV, membs, List.filter_map, List.length_map, List.filter_filter]
  have e : (fun t => (set &&& mk v p n r).testBit t) = fun t => decide (t < n) && (set.testBit t && decide ((p.getD t []).getD r 0 = v)) := by
    funext t
    rw [Nat.testBit_and, mk_bit]
    cases set.testBit t <;> cases decide (t < n) <;> rfl
  rw [e, range_filter_lt _ n 10 hn]
  congr 1
  refine List.filter_congr fun t _ => ?_
  simp only [Function.comp, Int.toNat_natCast]
  exact Bool.and_comm _ _
theorem all_at {P : Nat → Nat → Bool} (h : ((List.range 11).all fun n => (List.range (2 ^ n)).all fun x => P n x) = true) {n x : Nat} (hn : n ≤ 10) (hx : x < 2 ^ n) : P n x = true := by
  have := List.all_eq_true.1 h n (List.mem_range.2 (by omega))
  exact List.all_eq_true.1 this x (List.mem_range.2 hx)
theorem membs_10 {n x : Nat} (hn : n ≤ 10) (hx : x < 2 ^ n) : membs n x = membs 10 x := of_decide_eq_true (all_at membs_all hn hx)
theorem popc_len (x : Nat) : popc x = (membs 10 x).length := by simp [popc, membs]
theorem sets_mem {n x : Nat} (hn : n ≤ 10) : x ∈ setsL n ↔ x < 2 ^ n ∧ 2 ≤ popc x := by
  constructor
  · intro h
    have := List.all_eq_true.1 (List.all_eq_true.1 sets_in n (List.mem_range.2 (by omega))) x h
    simpa using this
  · rintro ⟨h1, h2⟩
    have := all_at sets_all hn h1
    rw [decide_eq_false (by omega), Bool.false_or] at this
    exact bigM_mem _ _ this
theorem membs_mem {n x : Nat} {t : Int} (h : t ∈ membs n x) : 0 ≤ t ∧ t < n := by
  rw [membs, List.mem_map] at h
  obtain ⟨a, ha, rfl⟩ := h
  have := List.mem_range.1 (List.mem_filter.1 ha).1
  omega
theorem gameR_eq (p : List (List Int)) (set r : Nat) (hn : p.length ≤ 10) : gameR p set r = min (cntV p (membs p.length set) r 1 : Int) (cntV p (membs p.length set) r (-1)) := by
  rw [gameR, cnt_eq p set p.length r 1 hn, cnt_eq p set p.length r (-1) hn]
theorem left_eq (p : List (List Int)) (set : Nat) (hn : p.length ≤ 10) : ∀ R, leftR p set R = left0 set - sumG p (membs p.length set) R
  | 0 => by simp [leftR, sumG]
  | R + 1 => by rw [leftR, left_eq p set hn R, gameR_eq p set R hn, sumG]; omega
theorem short_eq (p : List (List Int)) (set : Nat) (hn : p.length ≤ 10) (hs : set < 2 ^ p.length) :
    shortB p set = decide (2 * sumG p (membs p.length set) (p.getD 0 []).length < ((membs p.length set).length : Int) * (((membs p.length set).length : Int) - 1)) := by
  rw [shortB, left_eq p set hn, left0, popc_len, ← membs_10 hn hs]
  have hl := membs_len p.length set
  have key : ∀ k : Nat, k ≤ 10 → (k : Int) * ((k : Int) - 1) / 2 * 2 = (k : Int) * ((k : Int) - 1) := by decide
  have := key (membs p.length set).length (by omega)
  rw [decide_eq_decide]
  omega
/-! ### Short -/
/-! ### before -/
end Go.Proofs.Ytecgklfcblpkdaa.P

/- The specification's Violates is the program's: plain. -/
namespace Go.Proofs.Ytecgklfcblpkdaa.P
open Go.RowKit Go.Proofs.YtecgklfcblpkdaaW.PrintWords Go.Proofs.YtecgklfcblpkdaaW.PrintLast Go.Proofs.YtecgklfcblpkdaaW.PrintMore
open XW
set_option linter.unusedSimpArgs false
set_option linter.unusedVariables false

abbrev bef (a b : Nat) : Prop := befB (membs 10 a) (membs 10 b) = true
def good (p : List (List Int)) (x : Nat) : Prop := 2 ≤ popc x ∧ shortB p x = true
instance (p : List (List Int)) (x : Nat) : Decidable (good p x) := by unfold good; infer_instance
/-! ### Least -/
def leastF (n k : Int) : Int × Int := if n < 2 ∨ n > 20 then (0, 1) else if k = 1 ∨ k = 2 then (if n % 2 = 1 then (0, 0) else (n - 2, 0)) else if k = 3 then (if n % 2 = 1 then (0, 0) else (3 * n - 6, 0)) else (0, 1)
theorem tmod2 {n : Int} (h : 0 ≤ n) : Int.tmod n 2 = n % 2 := Int.tmod_eq_emod_of_nonneg h
theorem least_facts {n : Int} (h1 : ¬ n < 2) (h2 : ¬ n > 20) : Int.tmod n 2 = n % 2 ∧ wrap64 (n - 2) = n - 2 ∧ wrap64 (3 * (n - 2)) = 3 * n - 6 ∧ wrap64 (wrap64 (3 * n) - 6) = 3 * n - 6 := by
  refine ⟨tmod2 (by omega), w64 (by omega), ?_, ?_⟩
  · rw [w64 (by omega)]; omega
  · rw [w64 (x := 3 * n) (by omega), w64 (by omega)]
theorem least_ev (n k : Int) : Ev (fun f => patterns_Least.f f n k) (leastF n k) := by
  refine ⟨3, fun f hf => ?_⟩
  obtain ⟨f, rfl⟩ : ∃ f', f = f' + 2 := ⟨f - 2, by have : 3 ≤ f := hf; omega⟩
  show patterns_Least.f _ n k = _
  by_cases h1 : n < 2
  · simp [patterns_Least.f, patterns_Least.j0, leastF, h1]
  · by_cases h2 : n > 20
    · simp [patterns_Least.f, patterns_Least.j0, leastF, h1, h2]
    · obtain ⟨a, b, c, d⟩ := least_facts h1 h2
      by_cases ho : n % 2 = 1 <;> by_cases k1 : k = 1
      · simp [patterns_Least.f, patterns_Least.j0, patterns_Least.j1, leastF, h1, h2, a, b, c, ho, k1]
      · by_cases k2 : k = 2
        · simp [patterns_Least.f, patterns_Least.j0, patterns_Least.j1, leastF, h1, h2, a, b, c, ho, k2]
        · by_cases k3 : k = 3 <;> simp [patterns_Least.f, patterns_Least.j0, patterns_Least.j1, leastF, h1, h2, a, b, c, ho, k1, k2, k3]
      · simp [patterns_Least.f, patterns_Least.j0, patterns_Least.j1, leastF, h1, h2, a, b, c, ho, k1]
      · by_cases k2 : k = 2
        · simp [patterns_Least.f, patterns_Least.j0, patterns_Least.j1, leastF, h1, h2, a, b, c, ho, k2]
        · by_cases k3 : k = 3 <;> simp [patterns_Least.f, patterns_Least.j0, patterns_Least.j1, leastF, h1, h2, a, b, c, ho, k1, k2, k3]
end Go.Proofs.Ytecgklfcblpkdaa.P

/- Patterns that are cut in two: plain. -/
namespace Go.Proofs.Ytecgklfcblpkdaa.P
open Go.RowKit Go.Proofs.YtecgklfcblpkdaaW.PrintWords Go.Proofs.YtecgklfcblpkdaaW.PrintLast Go.Proofs.YtecgklfcblpkdaaW.PrintMore
open XW
set_option linter.unusedSimpArgs false
set_option linter.unusedVariables false
theorem cntB_take (l : List Int) (k : Nat) : ∀ j, j ≤ k → cntB (l.take k) j = cntB l j
  | 0, _ => rfl
  | j + 1, h => by
    rw [cntB, cntB, cntB_take l k j (by omega)]
    have e : ∀ i, i < k → (l.take k).getD i 0 = l.getD i 0 := fun i hi => by
      rw [List.getD_eq_getElem?_getD, List.getD_eq_getElem?_getD, List.getElem?_take, if_pos hi]
    rw [e j (by omega), e (j - 1) (by omega)]
def moreB (l : List Int) (k : Nat) : Int := if 0 < k ∧ k < l.length ∧ l.getD k 0 ≠ 0 ∧ l.getD (k - 1) 0 = l.getD k 0 then 1 else 0
theorem cntB_drop (l : List Int) (k : Nat) (hk : k < l.length) : ∀ j, cntB l (k + 1 + j) = cntB l k + moreB l k + cntB (l.drop k) (j + 1)
  | 0 => by
    have e1 : cntB (l.drop k) (0 + 1) = 0 := by rw [cntB, if_neg (by omega)]; rfl
    rw [e1]
    show cntB l (k + 1) = _
    rw [cntB, moreB]
    by_cases h : 0 < k ∧ l.getD k 0 ≠ 0 ∧ l.getD k 0 = l.getD (k - 1) 0
    · rw [if_pos h, if_pos ⟨h.1, hk, h.2.1, h.2.2.symm⟩]; omega
    · rw [if_neg h, if_neg (fun h' => h ⟨h'.1, h'.2.2.1, h'.2.2.2.symm⟩)]; omega
  | j + 1 => by
    have e : ∀ i, (l.drop k).getD i 0 = l.getD (k + i) 0 := fun i => by
      rw [List.getD_eq_getElem?_getD, List.getD_eq_getElem?_getD, List.getElem?_drop]
    rw [← Nat.add_assoc, cntB, cntB_drop l k hk j, cntB.eq_2 (l.drop k) (j + 1), e, e]
    rw [show k + 1 + j - 1 = k + j by omega, show k + (j + 1) = k + 1 + j by omega, show k + (j + 1 - 1) = k + j by omega]
    rw [Int.add_assoc]
    congr 2
    by_cases h : l.getD (k + 1 + j) 0 ≠ 0 ∧ l.getD (k + 1 + j) 0 = l.getD (k + j) 0
    · rw [if_pos ⟨by omega, h⟩, if_pos ⟨by omega, h⟩]
    · rw [if_neg (fun h' => h h'.2), if_neg (fun h' => h h'.2)]
theorem brk_cut (l : List Int) (k : Nat) (hk : k ≤ l.length) : brk l = brk (l.take k) + brk (l.drop k) + moreB l k := by
  unfold brk
  rw [List.length_take, Nat.min_eq_left hk, cntB_take l k k (Nat.le_refl _), List.length_drop]
  rcases Nat.lt_or_ge k l.length with h | h
  · have := cntB_drop l k h (l.length - k - 1)
    rw [show k + 1 + (l.length - k - 1) = l.length by omega, show l.length - k - 1 + 1 = l.length - k by omega] at this
    omega
  · have e : k = l.length := by omega
    subst e
    rw [Nat.sub_self, moreB, if_neg (by omega)]
    show cntB l l.length = cntB l l.length + 0 + 0
    omega
theorem brk_bd (l : List Int) : 0 ≤ brk l ∧ brk l ≤ l.length := cntB_bd l l.length
theorem brF_get {p : List (List Int)} (i : Nat) (h : i < p.length) : (p.map brk).getD i 0 = brk (p.getD i []) := by
  rw [List.getD_eq_getElem?_getD, List.getD_eq_getElem?_getD, List.getElem?_map, List.getElem?_eq_getElem h]; rfl
end Go.Proofs.Ytecgklfcblpkdaa.P
