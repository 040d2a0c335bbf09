import Derived.Test.YtecgklfcblpkdaaNums
/- Sets of teams, in their order; when one is short of games: plain. -/
namespace Go.Proofs.Ytecgklfcblpkdaa.P
open Go.RowKit Go.Proofs.YtecgklfcblpkdaaW.PrintWords Go.Proofs.YtecgklfcblpkdaaW.PrintLast Go.Proofs.YtecgklfcblpkdaaW.PrintMore
open XW
set_option linter.unusedSimpArgs false
set_option linter.unusedVariables false

/-! ### the order -/
def lexB : List Int → List Int → Bool
  | a :: xs, b :: ys => if a = b then lexB xs ys else decide (a < b)
  | _, _ => false
def befB (a b : List Int) : Bool := if a.length = b.length then lexB a b else decide (a.length < b.length)
theorem lex_trans : ∀ a b c : List Int, lexB a b = true → lexB b c = true → lexB a c = true
  | a :: xs, b :: ys, c :: cs, h1, h2 => by
    rw [lexB] at h1 h2 ⊢
    by_cases e1 : a = b
    · subst e1
      rw [if_pos rfl] at h1
      by_cases e2 : a = c
      · subst e2; rw [if_pos rfl] at h2 ⊢; exact lex_trans xs ys cs h1 h2
      · rw [if_neg e2] at h2 ⊢; exact h2
    · rw [if_neg e1] at h1
      have h1 := of_decide_eq_true h1
      by_cases e2 : b = c
      · subst e2; rw [if_neg e1]; exact decide_eq_true h1
      · rw [if_neg e2] at h2
        have h2 := of_decide_eq_true h2
        rw [if_neg (by omega)]; exact decide_eq_true (by omega)
  | [], _, _, h1, _ => by simp [lexB] at h1
  | _ :: _, [], _, h1, _ => by simp [lexB] at h1
  | _ :: _, _ :: _, [], _, h2 => by simp [lexB] at h2
theorem bef_trans {a b c : List Int} (h1 : befB a b = true) (h2 : befB b c = true) : befB a c = true := by
  unfold befB at *
  by_cases e1 : a.length = b.length
  · rw [if_pos e1] at h1
    by_cases e2 : b.length = c.length
    · rw [if_pos e2] at h2; rw [if_pos (e1.trans e2)]; exact lex_trans _ _ _ h1 h2
    · rw [if_neg e2] at h2; rw [if_neg (by omega)]; have := of_decide_eq_true h2; exact decide_eq_true (by omega)
  · rw [if_neg e1] at h1
    have h1 := of_decide_eq_true h1
    by_cases e2 : b.length = c.length
    · rw [if_neg (by omega)]; exact decide_eq_true (by omega)
    · rw [if_neg e2] at h2; have := of_decide_eq_true h2; rw [if_neg (by omega)]; exact decide_eq_true (by omega)
theorem bef_len {a b : List Int} (h : befB a b = true) : a.length ≤ b.length := by
  unfold befB at h
  split at h
  · omega
  · have := of_decide_eq_true h; omega
def chainB : List Nat → Bool
  | a :: b :: l => befB (membs 10 a) (membs 10 b) && chainB (b :: l)
  | _ => true
theorem chain_pw : ∀ l : List Nat, chainB l = true → l.Pairwise fun a b => befB (membs 10 a) (membs 10 b) = true
  | [], _ => List.Pairwise.nil
  | [a], _ => List.pairwise_singleton _ _
  | a :: b :: l, h => by
    rw [chainB, Bool.and_eq_true] at h
    have ih := chain_pw (b :: l) h.2
    refine List.pairwise_cons.2 ⟨fun c hc => ?_, ih⟩
    rcases List.mem_cons.1 hc with rfl | hc
    · exact h.1
    · exact bef_trans h.1 ((List.pairwise_cons.1 ih).1 c hc)
set_option maxRecDepth 100000 in
theorem sets_chain : ∀ n, n ≤ 10 → chainB (setsL n) = true := by decide +kernel
set_option maxRecDepth 100000 in
theorem sets_in : ((List.range 11).all fun n => (setsL n).all fun x => decide (x < 2 ^ n) && decide (2 ≤ popc x)) = true := by decide +kernel
def bigM : List Nat → Nat
  | [] => 0
  | x :: l => bigM l ||| 2 ^ x
theorem bigM_mem (x : Nat) : ∀ l : List Nat, (bigM l).testBit x = true → x ∈ l
  | [], h => by simp [bigM] at h
  | y :: l, h => by
    rw [bigM, Nat.testBit_or, Bool.or_eq_true] at h
    rcases h with h | h
    · exact List.mem_cons.2 (.inr (bigM_mem x l h))
    · rw [Nat.testBit_two_pow] at h
      exact List.mem_cons.2 (.inl (of_decide_eq_true h).symm)
set_option maxRecDepth 100000 in
theorem sets_all : ((List.range 11).all fun n => (List.range (2 ^ n)).all fun x => decide (popc x < 2) || (bigM (setsL n)).testBit x) = true := by decide +kernel
set_option maxRecDepth 100000 in
theorem membs_all : ((List.range 11).all fun n => (List.range (2 ^ n)).all fun x => decide (membs n x = membs 10 x)) = true := by decide +kernel
end Go.Proofs.Ytecgklfcblpkdaa.P

/- The specification's short sets and its search: plain. -/
namespace Go.Proofs.Ytecgklfcblpkdaa.P
open Go.RowKit Go.Proofs.YtecgklfcblpkdaaW.PrintWords Go.Proofs.YtecgklfcblpkdaaW.PrintLast Go.Proofs.YtecgklfcblpkdaaW.PrintMore
open XW
set_option linter.unusedSimpArgs false
set_option linter.unusedVariables false

def cntV (p : List (List Int)) (l : List Int) (r : Nat) (v : Int) : Nat := (l.filter fun t => decide ((p.getD t.toNat []).getD r 0 = v)).length
def sumG (p : List (List Int)) (l : List Int) : Nat → Int
  | 0 => 0
  | r + 1 => sumG p l r + min (cntV p l r 1 : Int) (cntV p l r (-1))
theorem mk_bit (v : Int) (p : List (List Int)) : ∀ (n t r : Nat), (mk v p n r).testBit t = (decide (t < n) && decide ((p.getD t []).getD r 0 = v))
  | 0, t, r => by simp [mk]
  | n + 1, t, r => by
    have ih := mk_bit v p n t r
    rw [mk]
    by_cases hv : (p.getD n []).getD r 0 = v
    · rw [if_pos hv, Nat.testBit_or, ih, Nat.one_mul, Nat.testBit_two_pow]
      by_cases e : n = t
      · subst e; simp only [Nat.lt_irrefl, decide_false, Bool.false_and, Bool.false_or, hv, decide_true, Bool.and_self, Nat.lt_succ_self]
      · by_cases e2 : t < n
        · simp [e, e2, Nat.lt_succ_of_lt e2]
        · simp [e, e2, show ¬ t < n + 1 by omega]
    · rw [if_neg hv, ih]
      by_cases e : n = t
      · subst e; simp only [Nat.lt_irrefl, decide_false, Bool.false_and, hv, Bool.and_false]
      · by_cases e2 : t < n
        · simp [e2, Nat.lt_succ_of_lt e2]
        · simp [e2, show ¬ t < n + 1 by omega]
theorem range_filter_lt (q : Nat → Bool) (n : Nat) : ∀ N, n ≤ N → ((List.range N).filter fun t => decide (t < n) && q t) = (List.range n).filter q
  | N, h => by
    induction N with
    | zero => obtain rfl : n = 0 := by omega
              rfl
    | succ N ih =>
      by_cases e : n = N + 1
      · subst e
        refine List.filter_congr fun t ht => ?_
        rw [decide_eq_true (List.mem_range.1 ht), Bool.true_and]
      · rw [List.range_succ, List.filter_append, ih (by omega), List.filter_cons, decide_eq_false (by omega : ¬ N < n)]
        simp
theorem cnt_eq (p : List (List Int)) (set n r : Nat) (v : Int) (hn : n ≤ 10) : popc (set &&& mk v p n r) = cntV p (membs n set) r v := by
  rw [popc, cntV, membs, List.filter_map, List.length_map, List.filter_filter]
  have e : (fun t => (set &&& mk v p n r).testBit t) = fun t => decide (t < n) && (set.testBit t && decide ((p.getD t []).getD r 0 = v)) := by
    funext t
    rw [Nat.testBit_and, mk_bit]
    cases set.testBit t <;> cases decide (t < n) <;> rfl
  rw [e, range_filter_lt _ n 10 hn]
  congr 1
  refine List.filter_congr fun t _ => ?_
  simp only [Function.comp, Int.toNat_natCast]
  exact Bool.and_comm _ _
theorem all_at {P : Nat → Nat → Bool} (h : ((List.range 11).all fun n => (List.range (2 ^ n)).all fun x => P n x) = true) {n x : Nat} (hn : n ≤ 10) (hx : x < 2 ^ n) : P n x = true := by
  have := List.all_eq_true.1 h n (List.mem_range.2 (by omega))
  exact List.all_eq_true.1 this x (List.mem_range.2 hx)
theorem membs_10 {n x : Nat} (hn : n ≤ 10) (hx : x < 2 ^ n) : membs n x = membs 10 x := of_decide_eq_true (all_at membs_all hn hx)
theorem popc_len (x : Nat) : popc x = (membs 10 x).length := by simp [popc, membs]
theorem sets_mem {n x : Nat} (hn : n ≤ 10) : x ∈ setsL n ↔ x < 2 ^ n ∧ 2 ≤ popc x := by
  constructor
  · intro h
    have := List.all_eq_true.1 (List.all_eq_true.1 sets_in n (List.mem_range.2 (by omega))) x h
    simpa using this
  · rintro ⟨h1, h2⟩
    have := all_at sets_all hn h1
    rw [decide_eq_false (by omega), Bool.false_or] at this
    exact bigM_mem _ _ this
theorem membs_mem {n x : Nat} {t : Int} (h : t ∈ membs n x) : 0 ≤ t ∧ t < n := by
  rw [membs, List.mem_map] at h
  obtain ⟨a, ha, rfl⟩ := h
  have := List.mem_range.1 (List.mem_filter.1 ha).1
  omega
theorem gameR_eq (p : List (List Int)) (set r : Nat) (hn : p.length ≤ 10) : gameR p set r = min (cntV p (membs p.length set) r 1 : Int) (cntV p (membs p.length set) r (-1)) := by
  rw [gameR, cnt_eq p set p.length r 1 hn, cnt_eq p set p.length r (-1) hn]
theorem left_eq (p : List (List Int)) (set : Nat) (hn : p.length ≤ 10) : ∀ R, leftR p set R = left0 set - sumG p (membs p.length set) R
  | 0 => by simp [leftR, sumG]
  | R + 1 => by rw [leftR, left_eq p set hn R, gameR_eq p set R hn, sumG]; omega
theorem short_eq (p : List (List Int)) (set : Nat) (hn : p.length ≤ 10) (hs : set < 2 ^ p.length) :
    shortB p set = decide (2 * sumG p (membs p.length set) (p.getD 0 []).length < ((membs p.length set).length : Int) * (((membs p.length set).length : Int) - 1)) := by
  rw [shortB, left_eq p set hn, left0, popc_len, ← membs_10 hn hs]
  have hl := membs_len p.length set
  have key : ∀ k : Nat, k ≤ 10 → (k : Int) * ((k : Int) - 1) / 2 * 2 = (k : Int) * ((k : Int) - 1) := by decide
  have := key (membs p.length set).length (by omega)
  rw [decide_eq_decide]
  omega
/-! ### Short -/
theorem cntV_succ (p : List (List Int)) (l : List Int) (i r : Nat) (v : Int) (h : i < l.length) : cntV p (l.take (i + 1)) r v = cntV p (l.take i) r v + if (p.getD (l.getD i 0).toNat []).getD r 0 = v then 1 else 0 := by
  rw [take_snocD l i 0 h, cntV, List.filter_append, List.length_append, cntV]
  congr 1
  rw [List.filter_cons]
  by_cases e : (p.getD (l.getD i 0).toNat []).getD r 0 = v
  · rw [if_pos (decide_eq_true e), if_pos e]; rfl
  · rw [if_neg (by simpa using e), if_neg e]; rfl
theorem cntV_bd (p : List (List Int)) (l : List Int) (r : Nat) (v : Int) : cntV p l r v ≤ l.length := List.length_filter_le _ _
theorem sumG_bd (p : List (List Int)) (l : List Int) : ∀ R, 0 ≤ sumG p l R ∧ sumG p l R ≤ R * l.length
  | 0 => by simp [sumG]
  | R + 1 => by
    have ih := sumG_bd p l R
    have h1 := cntV_bd p l R 1
    rw [sumG]
    have e : ((R + 1 : Nat) : Int) * l.length = R * l.length + l.length := by rw [Int.natCast_succ, Int.add_mul, Int.one_mul]
    rw [e]
    omega
/-! ### before -/
end Go.Proofs.Ytecgklfcblpkdaa.P

/- The specification's Violates is the program's: plain. -/
namespace Go.Proofs.Ytecgklfcblpkdaa.P
open Go.RowKit Go.Proofs.YtecgklfcblpkdaaW.PrintWords Go.Proofs.YtecgklfcblpkdaaW.PrintLast Go.Proofs.YtecgklfcblpkdaaW.PrintMore
open XW
set_option linter.unusedSimpArgs false
set_option linter.unusedVariables false

abbrev bef (a b : Nat) : Prop := befB (membs 10 a) (membs 10 b) = true
def good (p : List (List Int)) (x : Nat) : Prop := 2 ≤ popc x ∧ shortB p x = true
instance (p : List (List Int)) (x : Nat) : Decidable (good p x) := by unfold good; infer_instance
theorem find_least {α : Type} {R : α → α → Prop} {q : α → Bool} : ∀ {L : List α} {a : α}, L.Pairwise R → L.find? q = some a → q a = true ∧ a ∈ L ∧ ∀ x ∈ L, q x = true → x = a ∨ R a x
  | b :: L, a, hp, h => by
    rw [List.find?_cons] at h
    cases hb : q b with
    | true =>
      rw [hb] at h
      obtain rfl : b = a := Option.some.inj h
      refine ⟨hb, List.mem_cons_self .., fun x hx _ => ?_⟩
      rcases List.mem_cons.1 hx with rfl | hx
      · exact .inl rfl
      · exact .inr ((List.pairwise_cons.1 hp).1 x hx)
    | false =>
      rw [hb] at h
      obtain ⟨h1, h2, h3⟩ := find_least (List.pairwise_cons.1 hp).2 h
      refine ⟨h1, List.mem_cons_of_mem _ h2, fun x hx hq => ?_⟩
      rcases List.mem_cons.1 hx with rfl | hx
      · rw [hb] at hq; cases hq
      · exact h3 x hx hq
theorem sets_pw {n : Nat} (hn : n ≤ 10) : (setsL n).Pairwise bef := chain_pw _ (sets_chain n hn)
/-! ### Least -/
end Go.Proofs.Ytecgklfcblpkdaa.P
