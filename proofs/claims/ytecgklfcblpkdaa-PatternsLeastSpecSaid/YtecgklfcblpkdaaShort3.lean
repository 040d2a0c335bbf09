import Derived.Test.YtecgklfcblpkdaaNums
/- Sets of teams, in their order; when one is short of games: plain. -/
namespace Go.Proofs.Ytecgklfcblpkdaa.P
open Go.RowKit Go.Proofs.YtecgklfcblpkdaaW.PrintWords Go.Proofs.YtecgklfcblpkdaaW.PrintLast Go.Proofs.YtecgklfcblpkdaaW.PrintMore
open XW
set_option linter.unusedSimpArgs false
set_option linter.unusedVariables false

/-! ### the order -/
def lexB : List Int → List Int → Bool
  | a :: xs, b :: ys => if a = b then lexB xs ys else decide (a < b)
  | _, _ => false
def befB (a b : List Int) : Bool := if a.length = b.length then lexB a b else decide (a.length < b.length)
theorem lex_trans : ∀ a b c : List Int, lexB a b = true → lexB b c = true → lexB a c = true
  | a :: xs, b :: ys, c :: cs, h1, h2 => by
    rw [lexB] at h1 h2 ⊢
    by_cases e1 : a = b
    · subst e1
      rw [if_pos rfl] at h1
      by_cases e2 : a = c
      · subst e2; rw [if_pos rfl] at h2 ⊢; exact lex_trans xs ys cs h1 h2
      · rw [if_neg e2] at h2 ⊢; exact h2
    · rw [if_neg e1] at h1
      have h1 := of_decide_eq_true h1
      by_cases e2 : b = c
      · subst e2; rw [if_neg e1]; exact decide_eq_true h1
      · rw [if_neg e2] at h2
        have h2 := of_decide_eq_true h2
        rw [if_neg (by omega)]; exact decide_eq_true (by omega)
  | [], _, _, h1, _ => by simp [lexB] at h1
  | _ :: _, [], _, h1, _ => by simp [lexB] at h1
  | _ :: _, _ :: _, [], _, h2 => by simp [lexB] at h2
theorem lex_irr : ∀ a : List Int, lexB a a = false
  | [] => rfl
  | a :: xs => by rw [lexB, if_pos rfl]; exact lex_irr xs
theorem bef_trans {a b c : List Int} (h1 : befB a b = true) (h2 : befB b c = true) : befB a c = true := by
  unfold befB at *
  by_cases e1 : a.length = b.length
  · rw [if_pos e1] at h1
    by_cases e2 : b.length = c.length
    · rw [if_pos e2] at h2; rw [if_pos (e1.trans e2)]; exact lex_trans _ _ _ h1 h2
    · rw [if_neg e2] at h2; rw [if_neg (by omega)]; have := of_decide_eq_true h2; exact decide_eq_true (by omega)
  · rw [if_neg e1] at h1
    have h1 := of_decide_eq_true h1
    by_cases e2 : b.length = c.length
    · rw [if_neg (by omega)]; exact decide_eq_true (by omega)
    · rw [if_neg e2] at h2; have := of_decide_eq_true h2; rw [if_neg (by omega)]; exact decide_eq_true (by omega)
theorem bef_irr (a : List Int) : befB a a = false := by rw [befB, if_pos rfl]; exact lex_irr a
def chainB : List Nat → Bool
  | a :: b :: l => befB (membs 10 a) (membs 10 b) && chainB (b :: l)
  | _ => true
theorem chain_pw : ∀ l : List Nat, chainB l = true → l.Pairwise fun a b => befB (membs 10 a) (membs 10 b) = true
  | [], _ => List.Pairwise.nil
  | [a], _ => List.pairwise_singleton _ _
  | a :: b :: l, h => by
    rw [chainB, Bool.and_eq_true] at h
    have ih := chain_pw (b :: l) h.2
    refine List.pairwise_cons.2 ⟨fun c hc => ?_, ih⟩
    rcases List.mem_cons.1 hc with rfl | hc
    · exact h.1
    · exact bef_trans h.1 ((List.pairwise_cons.1 ih).1 c hc)
set_option maxRecDepth 100000 in
theorem sets_chain : ∀ n, n ≤ 10 → chainB (setsL n) = true := by decide +kernel
set_option maxRecDepth 100000 in
theorem sets_in : ((List.range 11).all fun n => (setsL n).all fun x => decide (x < 2 ^ n) && decide (2 ≤ popc x)) = true := by decide +kernel
def bigM : List Nat → Nat
  | [] => 0
  | x :: l => bigM l ||| 2 ^ x
theorem bigM_mem (x : Nat) : ∀ l : List Nat, (bigM l).testBit x = true → x ∈ l
  | [], h => by simp [bigM] at h
  | y :: l, h => by
    rw [bigM, Nat.testBit_or, Bool.or_eq_true] at h
    rcases h with h | h
    · exact List.mem_cons.2 (.inr (bigM_mem x l h))
    · rw [Nat.testBit_two_pow] at h
      exact List.mem_cons.2 (.inl (of_decide_eq_true h).symm)
set_option maxRecDepth 100000 in
theorem sets_all : ((List.range 11).all fun n => (List.range (2 ^ n)).all fun x => decide (popc x < 2) || (bigM (setsL n)).testBit x) = true := by decide +kernel
set_option maxRecDepth 100000 in
theorem membs_all : ((List.range 11).all fun n => (List.range (2 ^ n)).all fun x => decide (membs n x = membs 10 x)) = true := by decide +kernel
set_option maxRecDepth 100000 in
theorem members_all : ((List.range 1024).all fun x => decide (fastiref21_members.f 12 (x : Int) = some (membs 10 x))) = true := by decide +kernel
end Go.Proofs.Ytecgklfcblpkdaa.P

/- The specification's short sets and its search: plain. -/
namespace Go.Proofs.Ytecgklfcblpkdaa.P
open Go.RowKit Go.Proofs.YtecgklfcblpkdaaW.PrintWords Go.Proofs.YtecgklfcblpkdaaW.PrintLast Go.Proofs.YtecgklfcblpkdaaW.PrintMore
open XW
set_option linter.unusedSimpArgs false
set_option linter.unusedVariables false

def cntV (p : List (List Int)) (l : List Int) (r : Nat) (v : Int) : Nat := (l.filter fun t => decide ((p.getD t.toNat []).getD r 0 = v)).length
def sumG (p : List (List Int)) (l : List Int) : Nat → Int
  | 0 => 0
  | r + 1 => sumG p l r + min (cntV p l r 1 : Int) (cntV p l r (-1))
theorem mk_bit (v : Int) (p : List (List Int)) : ∀ (n t r : Nat), (mk v p n r).testBit t = (decide (t < n) && decide ((p.getD t []).getD r 0 = v))
  | 0, t, r => by simp [mk]
  | n + 1, t, r => by
    have ih := mk_bit v p n t r
    rw [mk]
    by_cases hv : (p.getD n []).getD r 0 = v
    · rw [if_pos hv, Nat.testBit_or, ih, Nat.one_mul, Nat.testBit_two_pow]
      by_cases e : n = t
      · subst e; simp only [Nat.lt_irrefl, decide_false, Bool.false_and, Bool.false_or, hv, decide_true, Bool.and_self, Nat.lt_succ_self]
      · by_cases e2 : t < n
        · simp [e, e2, Nat.lt_succ_of_lt e2]
        · simp [e, e2, show ¬ t < n + 1 by omega]
    · rw [if_neg hv, ih]
      by_cases e : n = t
      · subst e; simp only [Nat.lt_irrefl, decide_false, Bool.false_and, hv, Bool.and_false]
      · by_cases e2 : t < n
        · simp [e2, Nat.lt_succ_of_lt e2]
        · simp [e2, show ¬ t < n + 1 by omega]
theorem range_filter_lt (q : Nat → Bool) (n : Nat) : ∀ N, n ≤ N → ((List.range N).filter fun t => decide (t < n) && q t) = (List.range n).filter q
  | N, h => by
    induction N with
    | zero => obtain rfl : n = 0 := by omega
              rfl
    | succ N ih =>
      by_cases e : n = N + 1
      · subst e
        refine List.filter_congr fun t ht => ?_
        rw [decide_eq_true (List.mem_range.1 ht), Bool.true_and]
      · rw [List.range_succ, List.filter_append, ih (by omega), List.filter_cons, decide_eq_false (by omega : ¬ N < n)]
        simp
theorem cnt_eq (p : List (List Int)) (set n r : Nat) (v : Int) (hn : n ≤ 10) : popc (set &&& mk v p n r) = cntV p (membs n set) r v := by
  rw [popc, cntV, membs, List.filter_map, List.length_map, List.filter_filter]
  have e : (fun t => (set &&& mk v p n r).testBit t) = fun t => decide (t < n) && (set.testBit t && decide ((p.getD t []).getD r 0 = v)) := by
    funext t
    rw [Nat.testBit_and, mk_bit]
    cases set.testBit t <;> cases decide (t < n) <;> rfl
  rw [e, range_filter_lt _ n 10 hn]
  congr 1
  refine List.filter_congr fun t _ => ?_
  simp only [Function.comp, Int.toNat_natCast]
  exact Bool.and_comm _ _
theorem all_at {P : Nat → Nat → Bool} (h : ((List.range 11).all fun n => (List.range (2 ^ n)).all fun x => P n x) = true) {n x : Nat} (hn : n ≤ 10) (hx : x < 2 ^ n) : P n x = true := by
  have := List.all_eq_true.1 h n (List.mem_range.2 (by omega))
  exact List.all_eq_true.1 this x (List.mem_range.2 hx)
theorem membs_10 {n x : Nat} (hn : n ≤ 10) (hx : x < 2 ^ n) : membs n x = membs 10 x := of_decide_eq_true (all_at membs_all hn hx)
theorem popc_len (x : Nat) : popc x = (membs 10 x).length := by simp [popc, membs]
theorem sets_mem {n x : Nat} (hn : n ≤ 10) : x ∈ setsL n ↔ x < 2 ^ n ∧ 2 ≤ popc x := by
  constructor
  · intro h
    have := List.all_eq_true.1 (List.all_eq_true.1 sets_in n (List.mem_range.2 (by omega))) x h
    simpa using this
  · rintro ⟨h1, h2⟩
    have := all_at sets_all hn h1
    rw [decide_eq_false (by omega), Bool.false_or] at this
    exact bigM_mem _ _ this
theorem membs_mem {n x : Nat} {t : Int} (h : t ∈ membs n x) : 0 ≤ t ∧ t < n := by
  rw [membs, List.mem_map] at h
  obtain ⟨a, ha, rfl⟩ := h
  have := List.mem_range.1 (List.mem_filter.1 ha).1
  omega
theorem gameR_eq (p : List (List Int)) (set r : Nat) (hn : p.length ≤ 10) : gameR p set r = min (cntV p (membs p.length set) r 1 : Int) (cntV p (membs p.length set) r (-1)) := by
  rw [gameR, cnt_eq p set p.length r 1 hn, cnt_eq p set p.length r (-1) hn]
theorem left_eq (p : List (List Int)) (set : Nat) (hn : p.length ≤ 10) : ∀ R, leftR p set R = left0 set - sumG p (membs p.length set) R
  | 0 => by simp [leftR, sumG]
  | R + 1 => by rw [leftR, left_eq p set hn R, gameR_eq p set R hn, sumG]; omega
theorem short_eq (p : List (List Int)) (set : Nat) (hn : p.length ≤ 10) (hs : set < 2 ^ p.length) :
    shortB p set = decide (2 * sumG p (membs p.length set) (p.getD 0 []).length < ((membs p.length set).length : Int) * (((membs p.length set).length : Int) - 1)) := by
  rw [shortB, left_eq p set hn, left0, popc_len, ← membs_10 hn hs]
  have hl := membs_len p.length set
  have key : ∀ k : Nat, k ≤ 10 → (k : Int) * ((k : Int) - 1) / 2 * 2 = (k : Int) * ((k : Int) - 1) := by decide
  have := key (membs p.length set).length (by omega)
  rw [decide_eq_decide]
  omega
/-! ### Short -/
theorem cntV_succ (p : List (List Int)) (l : List Int) (i r : Nat) (v : Int) (h : i < l.length) : cntV p (l.take (i + 1)) r v = cntV p (l.take i) r v + if (p.getD (l.getD i 0).toNat []).getD r 0 = v then 1 else 0 := by
  rw [take_snocD l i 0 h, cntV, List.filter_append, List.length_append, cntV]
  congr 1
  rw [List.filter_cons]
  by_cases e : (p.getD (l.getD i 0).toNat []).getD r 0 = v
  · rw [if_pos (decide_eq_true e), if_pos e]; rfl
  · rw [if_neg (by simpa using e), if_neg e]; rfl
theorem cntV_bd (p : List (List Int)) (l : List Int) (r : Nat) (v : Int) : cntV p l r v ≤ l.length := List.length_filter_le _ _
theorem sumG_bd (p : List (List Int)) (l : List Int) : ∀ R, 0 ≤ sumG p l R ∧ sumG p l R ≤ R * l.length
  | 0 => by simp [sumG]
  | R + 1 => by
    have ih := sumG_bd p l R
    have h1 := cntV_bd p l R 1
    rw [sumG]
    have e : ((R + 1 : Nat) : Int) * l.length = R * l.length + l.length := by rw [Int.natCast_succ, Int.add_mul, Int.one_mul]
    rw [e]
    omega
theorem mn_eq (a b : Int) : mn a b = min a b := by rw [mn]; split <;> omega
theorem rshort_l1 (p : List (List Int)) (l : List Int) (x5 : Int) (r : Nat) (hl : l.length ≤ 10) (hmem : ∀ t ∈ l, 0 ≤ t ∧ t < p.length) (hr : ∀ row ∈ p, r < row.length) (hr64 : r < 64) {b : Bool} {K : Nat} (hK : ∀ k, K ≤ k → fastiref21_Short.l0 k p l (wrap64 (x5 + min (cntV p l r 1 : Int) (cntV p l r (-1)))) ((r + 1 : Nat) : Int) = some b) :
    ∀ (d i k : Nat), l.length - i ≤ d → d + K + 1 ≤ k → i ≤ l.length → fastiref21_Short.l1 k p l x5 r (cntV p (l.take i) r 1 : Nat) (cntV p (l.take i) r (-1) : Nat) i = some b := by
  intro d
  have hend : ∀ k, K + 1 ≤ k → fastiref21_Short.l1 k p l x5 r (cntV p (l.take l.length) r 1 : Nat) (cntV p (l.take l.length) r (-1) : Nat) (l.length : Nat) = some b := fun k hk => by
    obtain ⟨k, rfl⟩ : ∃ k', k = k' + 1 := ⟨k - 1, by omega⟩
    rw [fastiref21_Short.l1, if_neg (by omega), List.take_length, mn_eq, w64 (x := (r : Int) + 1) (by omega)]
    exact hK k (by omega)
  induction d with
  | zero =>
    intro i k hd hk hi
    obtain rfl : i = l.length := by omega
    exact hend k (by omega)
  | succ d ih =>
    intro i k hd hk hi
    by_cases h : i < l.length
    · obtain ⟨k, rfl⟩ : ∃ k', k = k' + 1 := ⟨k - 1, by omega⟩
      have hx : rd l (i : Int) = l.getD i 0 := by rw [rd, Int.toNat_natCast]
      have ht := hmem _ (getD_mem' (d := (0 : Int)) h)
      have hrow : rd_L3 p (l.getD i 0) = p.getD (l.getD i 0).toNat [] := rfl
      have hrl := hr _ (getD_mem' (d := ([] : List Int)) (show (l.getD i 0).toNat < p.length by omega))
      have hv : rd (p.getD (l.getD i 0).toNat []) (r : Int) = (p.getD (l.getD i 0).toNat []).getD r 0 := by rw [rd, Int.toNat_natCast]
      have ih' := ih (i + 1) k (by omega) (by omega) h
      rw [cntV_succ p l i r 1 h, cntV_succ p l i r (-1) h] at ih'
      have hb1 := cntV_bd p (l.take i) r 1
      have hb2 := cntV_bd p (l.take i) r (-1)
      have hti : (l.take i).length ≤ 10 := by rw [List.length_take]; omega
      rw [fastiref21_Short.l1, if_pos (by omega), if_pos (by omega), hx, if_pos ht.1, if_pos ht.2, if_pos (by omega), hrow, if_pos (by omega), hv, w64 (x := (i : Int) + 1) (by omega), w64 (x := (cntV p (l.take i) r 1 : Int) + 1) (by omega), w64 (x := (cntV p (l.take i) r (-1) : Int) + 1) (by omega)]
      by_cases e1 : (p.getD (l.getD i 0).toNat []).getD r 0 = 1
      · rw [if_pos e1] at ih' ⊢
        rw [if_neg (by omega)] at ih' ⊢
        exact ih'
      · rw [if_neg e1] at ih' ⊢
        by_cases e2 : (p.getD (l.getD i 0).toNat []).getD r 0 = -1
        · rw [if_pos e2] at ih' ⊢; exact ih'
        · rw [if_neg e2] at ih' ⊢; exact ih'
    · obtain rfl : i = l.length := by omega
      exact hend k (by omega)
theorem rshort_ev (p : List (List Int)) (l : List Int) (h0 : 0 < p.length) (hok : patOk p) (hl : l.length ≤ 10) (hmem : ∀ t ∈ l, 0 ≤ t ∧ t < p.length) :
    Ev (fun k => fastiref21_Short.f k p l) (decide (2 * sumG p l (p.getD 0 []).length < (l.length : Int) * ((l.length : Int) - 1))) := by
  have hR : (p.getD 0 []).length ≤ 64 := (hok.2 _ (getD_mem' h0)).2.1
  have hq : 0 ≤ (l.length : Int) * ((l.length : Int) - 1) ∧ (l.length : Int) * ((l.length : Int) - 1) ≤ 90 := q_bd _ hl
  have hsb : ∀ r, r ≤ 64 → 0 ≤ sumG p l r ∧ sumG p l r ≤ 640 := fun r hr => by
    have h := sumG_bd p l r
    have h2 : (r : Int) * l.length ≤ 64 * 10 := Int.mul_le_mul (by omega) (by omega) (by omega) (by omega)
    omega
  have key : ∀ (d r : Nat), (p.getD 0 []).length - r ≤ d → r ≤ (p.getD 0 []).length → Ev (fun k => fastiref21_Short.l0 k p l (sumG p l r) r) (decide (2 * sumG p l (p.getD 0 []).length < (l.length : Int) * ((l.length : Int) - 1))) := by
    intro d
    have hrd0 : rd_L3 p 0 = p.getD 0 [] := rfl
    have hend : Ev (fun k => fastiref21_Short.l0 k p l (sumG p l (p.getD 0 []).length) ((p.getD 0 []).length : Nat)) (decide (2 * sumG p l (p.getD 0 []).length < (l.length : Int) * ((l.length : Int) - 1))) := ⟨1, fun k hk => by
      obtain ⟨k, rfl⟩ : ∃ k', k = k' + 1 := ⟨k - 1, by omega⟩
      show fastiref21_Short.l0 _ _ _ _ _ = _
      have := hsb _ hR
      rw [fastiref21_Short.l0, if_pos (by omega), hrd0, if_neg (by omega), w64 (x := 2 * sumG p l (p.getD 0 []).length) (by omega), w64 (x := (l.length : Int) - 1) (by omega), w64 (by omega)]⟩
    induction d with
    | zero => intro r hd hr; obtain rfl : r = (p.getD 0 []).length := by omega
              exact hend
    | succ d ih =>
      intro r hd hr
      by_cases h : r < (p.getD 0 []).length
      · obtain ⟨K, hK⟩ := ih (r + 1) (by omega) h
        have hs1 := hsb (r + 1) (by omega)
        refine ⟨l.length + K + 3, fun k hk => ?_⟩
        obtain ⟨k, rfl⟩ : ∃ k', k = k' + 1 := ⟨k - 1, by omega⟩
        show fastiref21_Short.l0 _ _ _ _ _ = _
        rw [fastiref21_Short.l0, if_pos (by omega), hrd0, if_pos (by omega)]
        refine rshort_l1 p l (sumG p l r) r hl hmem (fun row hrow => by have := (hok.2 row hrow).1; omega) (by omega) (K := K) (fun k' hk' => ?_) l.length 0 k (by omega) (by omega) (by omega)
        have := hK k' hk'
        simp only [sumG] at this hs1
        rw [w64 (by omega)]
        exact this
      · obtain rfl : r = (p.getD 0 []).length := by omega
        exact hend
  obtain ⟨K, hK⟩ := key (p.getD 0 []).length 0 (by omega) (by omega)
  exact ⟨K, fun k hk => hK k hk⟩
/-! ### before -/
theorem bef_l0 (a b : List Int) (he : a.length = b.length) (hl : a.length ≤ 10) : ∀ (d i k : Nat), a.length - i ≤ d → d + 1 ≤ k → i ≤ a.length → fastiref21_before.l0 k a b i = some (lexB (a.drop i) (b.drop i)) := by
  intro d
  have hend : ∀ k, 1 ≤ k → fastiref21_before.l0 k a b (a.length : Nat) = some (lexB (a.drop a.length) (b.drop a.length)) := fun k hk => by
    obtain ⟨k, rfl⟩ : ∃ k', k = k' + 1 := ⟨k - 1, by omega⟩
    rw [fastiref21_before.l0, if_neg (by omega), List.drop_length]; rfl
  induction d with
  | zero =>
    intro i k hd hk hi
    obtain rfl : i = a.length := by omega
    exact hend k (by omega)
  | succ d ih =>
    intro i k hd hk hi
    by_cases h : i < a.length
    · obtain ⟨k, rfl⟩ : ∃ k', k = k' + 1 := ⟨k - 1, by omega⟩
      have e1 : rd a (i : Int) = a[i] := by rw [rd, Int.toNat_natCast, List.getD_eq_getElem?_getD, List.getElem?_eq_getElem h]; rfl
      have e2 : rd b (i : Int) = b[i] := by rw [rd, Int.toNat_natCast, List.getD_eq_getElem?_getD, List.getElem?_eq_getElem (by omega)]; rfl
      rw [fastiref21_before.l0, if_pos (by omega), if_pos (by omega), if_pos (by omega), e1, e2, w64 (by omega), List.drop_eq_getElem_cons h, List.drop_eq_getElem_cons (show i < b.length by omega), lexB]
      by_cases e : a[i] = b[i]
      · rw [if_pos e, if_pos e]; exact ih (i + 1) k (by omega) (by omega) h
      · rw [if_neg e, if_neg e]
    · obtain rfl : i = a.length := by omega
      exact hend k (by omega)
theorem bef_f (a b : List Int) (hl : a.length ≤ 10) (k : Nat) (hk : 11 ≤ k) : fastiref21_before.f k a b = some (befB a b) := by
  rw [fastiref21_before.f, befB]
  by_cases e : a.length = b.length
  · rw [if_pos (by omega), if_pos e]; exact bef_l0 a b e hl a.length 0 k (by omega) (by omega) (by omega)
  · rw [if_neg (by omega), if_neg e]; congr 1; rw [decide_eq_decide]; omega
theorem members_f (x : Nat) (hx : x < 1024) (k : Nat) (hk : 12 ≤ k) : fastiref21_members.f k (x : Int) = some (membs 10 x) := by
  have h := of_decide_eq_true (List.all_eq_true.1 members_all x (List.mem_range.2 hx))
  exact leO_le (f := fun k => fastiref21_members.f k (x : Int)) (fun k => fastiref21_members.mono _ k) hk _ h
end Go.Proofs.Ytecgklfcblpkdaa.P

/- The specification's Violates is the program's: plain. -/
namespace Go.Proofs.Ytecgklfcblpkdaa.P
open Go.RowKit Go.Proofs.YtecgklfcblpkdaaW.PrintWords Go.Proofs.YtecgklfcblpkdaaW.PrintLast Go.Proofs.YtecgklfcblpkdaaW.PrintMore
open XW
set_option linter.unusedSimpArgs false
set_option linter.unusedVariables false

abbrev bef (a b : Nat) : Prop := befB (membs 10 a) (membs 10 b) = true
def good (p : List (List Int)) (x : Nat) : Prop := 2 ≤ popc x ∧ shortB p x = true
instance (p : List (List Int)) (x : Nat) : Decidable (good p x) := by unfold good; infer_instance
theorem find_least {α : Type} {R : α → α → Prop} {q : α → Bool} : ∀ {L : List α} {a : α}, L.Pairwise R → L.find? q = some a → q a = true ∧ a ∈ L ∧ ∀ x ∈ L, q x = true → x = a ∨ R a x
  | b :: L, a, hp, h => by
    rw [List.find?_cons] at h
    cases hb : q b with
    | true =>
      rw [hb] at h
      obtain rfl : b = a := Option.some.inj h
      refine ⟨hb, List.mem_cons_self .., fun x hx _ => ?_⟩
      rcases List.mem_cons.1 hx with rfl | hx
      · exact .inl rfl
      · exact .inr ((List.pairwise_cons.1 hp).1 x hx)
    | false =>
      rw [hb] at h
      obtain ⟨h1, h2, h3⟩ := find_least (List.pairwise_cons.1 hp).2 h
      refine ⟨h1, List.mem_cons_of_mem _ h2, fun x hx hq => ?_⟩
      rcases List.mem_cons.1 hx with rfl | hx
      · rw [hb] at hq; cases hq
      · exact h3 x hx hq
theorem sets_pw {n : Nat} (hn : n ≤ 10) : (setsL n).Pairwise bef := chain_pw _ (sets_chain n hn)
theorem sets_tot {n a b : Nat} (hn : n ≤ 10) (ha : a ∈ setsL n) (hb : b ∈ setsL n) (hne : a ≠ b) : bef a b ∨ bef b a := by
  obtain ⟨i, hi, rfl⟩ := List.getElem_of_mem ha
  obtain ⟨j, hj, rfl⟩ := List.getElem_of_mem hb
  have hp := List.pairwise_iff_getElem.1 (sets_pw hn)
  rcases Nat.lt_trichotomy i j with h | h | h
  · exact .inl (hp i j hi hj h)
  · subst h; exact absurd rfl hne
  · exact .inr (hp j i hj hi h)
def Best (p : List (List Int)) (B : Nat) (l : List Int) : Prop := (l = [] ∧ ∀ x, x < B → ¬ good p x) ∨ ∃ a, a < B ∧ good p a ∧ l = membs 10 a ∧ ∀ x, x < B → good p x → x = a ∨ bef a x
theorem vioF_ok {p : List (List Int)} (h2 : ¬ (p.length < 2 ∨ p.length > 10 ∨ ¬ patOk p)) {l : List Int} (h : Best p (2 ^ p.length) l) : vioF p = (l, decide ((l.length : Int) > 0), 0) := by
  have hn : p.length ≤ 10 := by omega
  rw [vioF, if_neg h2]
  rcases h with ⟨rfl, h⟩ | ⟨a, ha, hg, rfl, h⟩
  · have : (setsL p.length).find? (shortB p) = none := List.find?_eq_none.2 fun x hx => by
      have hm := (sets_mem hn).1 hx
      intro hc
      exact h x hm.1 ⟨hm.2, hc⟩
    rw [this]; rfl
  · cases hf : (setsL p.length).find? (shortB p) with
    | none => exact absurd hg.2 (List.find?_eq_none.1 hf a ((sets_mem hn).2 ⟨ha, hg.1⟩))
    | some b =>
      obtain ⟨h3, h4, h5⟩ := find_least (sets_pw hn) hf
      have hb := (sets_mem hn).1 h4
      have e : b = a := by
        rcases h5 a ((sets_mem hn).2 ⟨ha, hg.1⟩) hg.2 with e | e
        · exact e.symm
        · rcases h b hb.1 ⟨hb.2, h3⟩ with e2 | e2
          · exact e2
          · have := bef_trans e e2
            rw [bef_irr] at this; cases this
      subst e
      have hl : 2 ≤ (membs 10 b).length := by rw [← popc_len]; exact hb.2
      simp only []
      rw [membs_10 hn hb.1, decide_eq_true (by omega : ((membs 10 b).length : Int) > 0)]
theorem rvio_ev (p : List (List Int)) : Ev (fun k => fastiref21_Violates.f k p) (vioF p) := by
  obtain ⟨K0, h0⟩ := rpats_ev p
  by_cases h2 : p.length < 2 ∨ p.length > 10 ∨ ¬ patOk p
  · have hj : ∀ k, fastiref21_Violates.j0 (k + 1) p true = some ([], false, 210) := fun k => by rw [fastiref21_Violates.j0, if_pos rfl]
    refine ⟨K0 + 1, fun k (hk : K0 + 1 ≤ k) => ?_⟩
    have hk1 : 1 ≤ k := Nat.le_trans (Nat.le_add_left ..) hk
    have h0' := h0 k (by omega)
    simp only [] at h0'
    obtain ⟨k, rfl⟩ : ∃ k', k = k' + 1 := ⟨k - 1, by omega⟩
    show fastiref21_Violates.f _ p = _
    rw [fastiref21_Violates.f, h0', Option.bind_some, vioF, if_pos h2]
    by_cases hok : patOk p
    · rw [decide_eq_true hok, if_pos rfl]
      by_cases h3 : p.length < 2
      · rw [if_pos (by omega), hj]
      · have h4 : p.length > 10 := by
          rcases h2 with h | h | h
          · omega
          · exact h
          · exact absurd hok h
        rw [if_neg (by omega), decide_eq_true (by omega), hj]
    · rw [decide_eq_false hok, if_neg (by simp), hj]
  · have hok : patOk p := Classical.byContradiction fun h => h2 (.inr (.inr h))
    have hn : p.length ≤ 10 := by omega
    have hshl : shl .i64 1 (p.length : Int) = ((2 ^ p.length : Nat) : Int) := by
      have : ∀ n : Nat, n ≤ 10 → shl .i64 1 (n : Int) = ((2 ^ n : Nat) : Int) := by decide
      exact this _ hn
    have hpow : 2 ^ p.length ≤ 1024 := Nat.pow_le_pow_right (n := 2) (by decide) hn
    have hend : ∀ l, Best p (2 ^ p.length) l → Ev (fun k => fastiref21_Violates.l0 k p l ((2 ^ p.length : Nat) : Int)) (vioF p) := fun l hb => ⟨1, fun k hk => by
      obtain ⟨k, rfl⟩ : ∃ k', k = k' + 1 := ⟨k - 1, by omega⟩
      show fastiref21_Violates.l0 _ _ _ _ = _
      rw [fastiref21_Violates.l0, hshl, if_neg (by omega), vioF_ok h2 hb]⟩
    have key : ∀ (d B : Nat) (l : List Int), 2 ^ p.length - B ≤ d → B ≤ 2 ^ p.length → Best p B l → Ev (fun k => fastiref21_Violates.l0 k p l B) (vioF p) := by
      intro d
      induction d with
      | zero =>
        intro B l hd hB hb
        obtain rfl : B = 2 ^ p.length := by omega
        exact hend l hb
      | succ d ih =>
        intro B l hd hB hb
        by_cases h : B < 2 ^ p.length
        · have hml := membs_len 10 B
          have hm10 := membs_10 hn h
          have hBI : (B : Int) < ((2 ^ p.length : Nat) : Int) := by exact_mod_cast h
          -- what follows when the best stays, or turns
          have stay : ¬ good p B → Best p (B + 1) l := fun hg => by
            rcases hb with ⟨rfl, hx⟩ | ⟨a, ha, h3, h4, h5⟩
            · refine .inl ⟨rfl, fun x hx' => ?_⟩
              by_cases e : x = B
              · subst e; exact hg
              · exact hx x (by omega)
            · refine .inr ⟨a, by omega, h3, h4, fun x hx' hgx => ?_⟩
              by_cases e : x = B
              · subst e; exact absurd hgx hg
              · exact h5 x (by omega) hgx
          by_cases hp2 : popc B < 2
          · obtain ⟨K, hK⟩ := ih (B + 1) l (by omega) h (stay fun hg => by have := hg.1; omega)
            refine ⟨K + 20, fun k hk => ?_⟩
            obtain ⟨k, rfl⟩ : ∃ k', k = k' + 1 := ⟨k - 1, by omega⟩
            show fastiref21_Violates.l0 _ _ _ _ = _
            rw [popc_len] at hp2
            rw [fastiref21_Violates.l0, hshl, if_pos hBI, members_f B (by omega) k (by omega), Option.bind_some, if_pos (by omega), w64 (by omega)]
            exact hK k (by omega)
          · have hmem : ∀ t ∈ membs 10 B, 0 ≤ t ∧ t < p.length := fun t ht => by rw [← hm10] at ht; exact membs_mem ht
            obtain ⟨Ks, hKs⟩ := rshort_ev p (membs 10 B) (by omega) hok hml hmem
            have hse := short_eq p B hn h
            rw [hm10] at hse
            rw [← hse] at hKs
            cases hsB : shortB p B with
            | false =>
              rw [hsB] at hKs
              obtain ⟨K, hK⟩ := ih (B + 1) l (by omega) h (stay fun hg => by have := hg.2; rw [hsB] at this; cases this)
              refine ⟨K + Ks + 20, fun k hk => ?_⟩
              obtain ⟨k, rfl⟩ : ∃ k', k = k' + 1 := ⟨k - 1, by omega⟩
              have hKs' := hKs k (by omega)
              simp only [] at hKs'
              show fastiref21_Violates.l0 _ _ _ _ = _
              rw [popc_len] at hp2
              rw [fastiref21_Violates.l0, hshl, if_pos hBI, members_f B (by omega) k (by omega), Option.bind_some, if_neg (by omega), hKs', Option.bind_some, if_neg (by simp), w64 (by omega)]
              exact hK k (by omega)
            | true =>
              rw [hsB] at hKs
              have hgB : good p B := ⟨by omega, hsB⟩
              have hBin : B ∈ setsL p.length := (sets_mem hn).2 ⟨h, hgB.1⟩
              rcases hb with ⟨rfl, hx⟩ | ⟨a, ha, h3, rfl, h5⟩
              · obtain ⟨K, hK⟩ := ih (B + 1) (membs 10 B) (by omega) h (.inr ⟨B, by omega, hgB, rfl, fun x hx' hgx => by
                  by_cases e : x = B
                  · exact .inl e
                  · exact absurd hgx (hx x (by omega))⟩)
                refine ⟨K + Ks + 20, fun k hk => ?_⟩
                obtain ⟨k, rfl⟩ : ∃ k', k = k' + 1 := ⟨k - 1, by omega⟩
                have hKs' := hKs k (by omega)
                simp only [] at hKs'
                show fastiref21_Violates.l0 _ _ _ _ = _
                rw [popc_len] at hp2
                rw [fastiref21_Violates.l0, hshl, if_pos hBI, members_f B (by omega) k (by omega), Option.bind_some, if_neg (by omega), hKs', Option.bind_some, if_pos rfl, if_pos (by rfl), w64 (by omega)]
                exact hK k (by omega)
              · have hain : a ∈ setsL p.length := (sets_mem hn).2 ⟨by omega, h3.1⟩
                have hla : 2 ≤ (membs 10 a).length := by rw [← popc_len]; exact h3.1
                have pre : ∀ k R, 20 ≤ k → Ks ≤ k → (if befB (membs 10 B) (membs 10 a) = true then fastiref21_Violates.l0 k p (membs 10 B) ((B + 1 : Nat) : Int) else fastiref21_Violates.l0 k p (membs 10 a) ((B + 1 : Nat) : Int)) = R → fastiref21_Violates.l0 (k + 1) p (membs 10 a) B = R := fun k R hk1 hk2 hR => by
                  have hKs' := hKs k hk2
                  simp only [] at hKs'
                  rw [popc_len] at hp2
                  rw [fastiref21_Violates.l0, hshl, if_pos hBI, members_f B (by omega) k (by omega), Option.bind_some, if_neg (by omega), hKs', Option.bind_some, if_pos rfl, if_neg (by omega), bef_f _ _ hml k (by omega), Option.bind_some, w64 (by omega)]
                  exact hR
                by_cases hbf : bef B a
                · obtain ⟨K, hK⟩ := ih (B + 1) (membs 10 B) (by omega) h (.inr ⟨B, by omega, hgB, rfl, fun x hx' hgx => by
                    by_cases e : x = B
                    · exact .inl e
                    · rcases h5 x (by omega) hgx with e2 | e2
                      · subst e2; exact .inr hbf
                      · exact .inr (bef_trans hbf e2)⟩)
                  refine ⟨K + Ks + 30, fun k hk => ?_⟩
                  obtain ⟨k, rfl⟩ : ∃ k', k = k' + 1 := ⟨k - 1, by omega⟩
                  exact pre k _ (by omega) (by omega) (by rw [if_pos hbf]; exact hK k (by omega))
                · obtain ⟨K, hK⟩ := ih (B + 1) (membs 10 a) (by omega) h (.inr ⟨a, by omega, h3, rfl, fun x hx' hgx => by
                    by_cases e : x = B
                    · subst e
                      rcases sets_tot hn hain hBin (by omega) with e2 | e2
                      · exact .inr e2
                      · exact absurd e2 hbf
                    · exact h5 x (by omega) hgx⟩)
                  refine ⟨K + Ks + 30, fun k hk => ?_⟩
                  obtain ⟨k, rfl⟩ : ∃ k', k = k' + 1 := ⟨k - 1, by omega⟩
                  exact pre k _ (by omega) (by omega) (by rw [if_neg hbf]; exact hK k (by omega))
        · obtain rfl : B = 2 ^ p.length := by omega
          exact hend l hb
    obtain ⟨K, hK⟩ := key (2 ^ p.length) 0 [] (by rw [Nat.sub_zero]; exact Nat.le_refl _) (Nat.zero_le _) (.inl ⟨rfl, fun x hx => by omega⟩)
    refine ⟨K + K0 + 1, fun k hk => ?_⟩
    have h0' := h0 k (by omega)
    simp only [] at h0'
    obtain ⟨k, rfl⟩ : ∃ k', k = k' + 1 := ⟨k - 1, by omega⟩
    show fastiref21_Violates.f _ p = _
    rw [fastiref21_Violates.f, h0', Option.bind_some, decide_eq_true hok, if_pos rfl, if_neg (by omega), decide_eq_false (by omega), fastiref21_Violates.j0, if_neg (by simp)]
    exact hK k (by omega)
theorem vioF_len (p : List (List Int)) : (vioF p).1.length ≤ 10 := by
  unfold vioF
  split
  · simp
  · rename_i h
    split
    · have := membs_len p.length; rename_i set _; have := this set; simp only []; omega
    · simp
/-! ### Least -/
def leastF (n k : Int) : Int × Int := if n < 2 ∨ n > 20 then (0, 1) else if k = 1 ∨ k = 2 then (if n % 2 = 1 then (0, 0) else (n - 2, 0)) else if k = 3 then (if n % 2 = 1 then (0, 0) else (3 * n - 6, 0)) else (0, 1)
theorem tmod2 {n : Int} (h : 0 ≤ n) : Int.tmod n 2 = n % 2 := Int.tmod_eq_emod_of_nonneg h
theorem least_facts {n : Int} (h1 : ¬ n < 2) (h2 : ¬ n > 20) : Int.tmod n 2 = n % 2 ∧ wrap64 (n - 2) = n - 2 ∧ wrap64 (3 * (n - 2)) = 3 * n - 6 ∧ wrap64 (wrap64 (3 * n) - 6) = 3 * n - 6 := by
  refine ⟨tmod2 (by omega), w64 (by omega), ?_, ?_⟩
  · rw [w64 (by omega)]; omega
  · rw [w64 (x := 3 * n) (by omega), w64 (by omega)]
theorem least_ev (n k : Int) : Ev (fun f => patterns_Least.f f n k) (leastF n k) := by
  refine ⟨3, fun f hf => ?_⟩
  obtain ⟨f, rfl⟩ : ∃ f', f = f' + 2 := ⟨f - 2, by have : 3 ≤ f := hf; omega⟩
  show patterns_Least.f _ n k = _
  by_cases h1 : n < 2
  · simp [patterns_Least.f, patterns_Least.j0, leastF, h1]
  · by_cases h2 : n > 20
    · simp [patterns_Least.f, patterns_Least.j0, leastF, h1, h2]
    · obtain ⟨a, b, c, d⟩ := least_facts h1 h2
      by_cases ho : n % 2 = 1 <;> by_cases k1 : k = 1
      · simp [patterns_Least.f, patterns_Least.j0, patterns_Least.j1, leastF, h1, h2, a, b, c, ho, k1]
      · by_cases k2 : k = 2
        · simp [patterns_Least.f, patterns_Least.j0, patterns_Least.j1, leastF, h1, h2, a, b, c, ho, k2]
        · by_cases k3 : k = 3 <;> simp [patterns_Least.f, patterns_Least.j0, patterns_Least.j1, leastF, h1, h2, a, b, c, ho, k1, k2, k3]
      · simp [patterns_Least.f, patterns_Least.j0, patterns_Least.j1, leastF, h1, h2, a, b, c, ho, k1]
      · by_cases k2 : k = 2
        · simp [patterns_Least.f, patterns_Least.j0, patterns_Least.j1, leastF, h1, h2, a, b, c, ho, k2]
        · by_cases k3 : k = 3 <;> simp [patterns_Least.f, patterns_Least.j0, patterns_Least.j1, leastF, h1, h2, a, b, c, ho, k1, k2, k3]
theorem rleast_ev (n k : Int) : Ev (fun f => fastiref21_Least.f f n k) (leastF n k) := by
  refine ⟨3, fun f hf => ?_⟩
  obtain ⟨f, rfl⟩ : ∃ f', f = f' + 2 := ⟨f - 2, by have : 3 ≤ f := hf; omega⟩
  show fastiref21_Least.f _ n k = _
  by_cases h1 : n < 2
  · simp [fastiref21_Least.f, fastiref21_Least.j0, leastF, h1]
  · by_cases h2 : n > 20
    · simp [fastiref21_Least.f, fastiref21_Least.j0, leastF, h1, h2]
    · obtain ⟨a, b, c, d⟩ := least_facts h1 h2
      by_cases ho : n % 2 = 1 <;> by_cases k1 : k = 1
      · simp [fastiref21_Least.f, fastiref21_Least.j0, leastF, h1, h2, a, b, c, d, ho, k1]
      · by_cases k2 : k = 2
        · simp [fastiref21_Least.f, fastiref21_Least.j0, leastF, h1, h2, a, b, c, d, ho, k2]
        · by_cases k3 : k = 3 <;> simp [fastiref21_Least.f, fastiref21_Least.j0, leastF, h1, h2, a, b, c, d, ho, k1, k2, k3]
      · simp [fastiref21_Least.f, fastiref21_Least.j0, leastF, h1, h2, a, b, c, d, ho, k1]
      · by_cases k2 : k = 2
        · simp [fastiref21_Least.f, fastiref21_Least.j0, leastF, h1, h2, a, b, c, d, ho, k2]
        · by_cases k3 : k = 3 <;> simp [fastiref21_Least.f, fastiref21_Least.j0, leastF, h1, h2, a, b, c, d, ho, k1, k2, k3]
end Go.Proofs.Ytecgklfcblpkdaa.P
