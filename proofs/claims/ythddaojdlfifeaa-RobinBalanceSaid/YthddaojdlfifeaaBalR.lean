import Derived.Test.YthddaojdlfifeaaGSane
import Derived.Test.YthddaojdlfifeaaEqvP
import Derived.Test.YthddaojdlfifeaaP12
import Derived.Test.YthddaojdlfifeaaXMakeZ
import Derived.Test.YthddaojdlfifeaaXDrawN
import Derived.Test.YthddaojdlfifeaaXDrawF
/- RobinAll: what is counted. -/
namespace Go.Proofs.Ythddaojdlfifeaa.P
open Go.RowKit Go.Proofs.YthddaojdlfifeaaW.PrintWords Go.Proofs.YthddaojdlfifeaaW.PrintLast Go.Proofs.YthddaojdlfifeaaW.PrintMore
set_option linter.unusedSimpArgs false
set_option linter.unusedVariables false

def inc (l : List Int) (j : Nat) : List Int := l.set j (l.getD j 0 + 1)
theorem inc_len (l : List Int) (j : Nat) : (inc l j).length = l.length := by simp [inc]
theorem inc_get (l : List Int) (j i : Nat) (hj : j < l.length) : (inc l j).getD i 0 = l.getD i 0 + if j = i then 1 else 0 := by
  unfold inc
  rw [List.getD_eq_getElem?_getD, List.getElem?_set, List.getD_eq_getElem?_getD]
  by_cases h : j = i
  · subst h; rw [if_pos rfl, if_pos hj, if_pos rfl]; simp [List.getD_eq_getElem?_getD]
  · rw [if_neg h, if_neg h, List.getD_eq_getElem?_getD]; omega
def inR (Q : Nat) (x : S37) : Prop := (0 ≤ x.f0 ∧ x.f0 < Q) ∧ (0 ≤ x.f1 ∧ x.f1 < 20) ∧ (0 ≤ x.f2 ∧ x.f2 < 20)
def cM (m : List S37) (a b : Nat) : Nat := m.countP fun x => x.f1 == (a : Int) && x.f2 == (b : Int)
def cG (m : List S37) (r t : Nat) : Nat := (m.countP fun x => x.f0 == (r : Int) && x.f1 == (t : Int)) + m.countP fun x => x.f0 == (r : Int) && x.f2 == (t : Int)
/-- the rests of team a, r rounds of them -/
def rst (m : List S37) (a : Nat) : Nat → Int
  | 0 => 0
  | r + 1 => rst m a r + (1 - (cG m r a : Int))
def wantR (n : Nat) (kind : Int) : Int := if kind = 1 then (n % 2 : Nat) else 2 * (n % 2 : Nat)
/-- what RobinAll asks of the meetings -/
def pairB (m : List S37) (kind : Int) (a b : Nat) : Prop := if kind = 1 then cM m a b + cM m b a = 1 else cM m a b = 1 ∧ cM m b a = 1
def allOk (n Q : Nat) (kind : Int) (m : List S37) : Prop := ∀ a, a < n → (∀ r, r < Q → cG m r a ≤ 1) ∧ rst m a Q = wantR n kind ∧ ∀ b, b < a → pairB m kind a b
end Go.Proofs.Ythddaojdlfifeaa.P

/- What Make returns is a round robin, and everybody meets everybody. -/
namespace Go.Proofs.Ythddaojdlfifeaa.P
open Go.RowKit Go.Proofs.YthddaojdlfifeaaW.PrintWords Go.Proofs.YthddaojdlfifeaaW.PrintLast Go.Proofs.YthddaojdlfifeaaW.PrintMore
set_option linter.unusedSimpArgs false
set_option linter.unusedVariables false

/-- no number twice, told by the bits of one number -/
def nodupB : List Nat → Nat → Bool
  | [], _ => true
  | c :: l, s => !(s.testBit c) && nodupB l (s ||| 1 <<< c)
def bitsOf (l : List Nat) : Nat := l.foldl (fun s c => s ||| 1 <<< c) 0
theorem bit_or (s c t : Nat) : (s ||| 1 <<< c).testBit t = (s.testBit t || decide (c = t)) := by
  rw [Nat.testBit_or, Nat.one_shiftLeft, Nat.testBit_two_pow]
theorem nodupB_spec : ∀ (l : List Nat) (s : Nat), nodupB l s = true → l.Nodup ∧ ∀ c ∈ l, s.testBit c = false
  | [], s, _ => ⟨List.nodup_nil, by simp⟩
  | c :: l, s, h => by
    rw [nodupB, Bool.and_eq_true, Bool.not_eq_true'] at h
    obtain ⟨h1, h2⟩ := nodupB_spec l _ h.2
    have h3 : ∀ d ∈ l, s.testBit d = false ∧ c ≠ d := fun d hd => by
      have := h2 d hd
      rw [bit_or, Bool.or_eq_false_iff, decide_eq_false_iff_not] at this
      exact this
    refine ⟨List.nodup_cons.2 ⟨fun hc => (h3 c hc).2 rfl, h1⟩, fun d hd => ?_⟩
    rcases List.mem_cons.1 hd with rfl | hd
    · exact h.1
    · exact (h3 d hd).1
theorem bits_mem (t : Nat) : ∀ (l : List Nat) (s : Nat), (l.foldl (fun s c => s ||| 1 <<< c) s).testBit t = true → s.testBit t = true ∨ t ∈ l
  | [], s, h => .inl h
  | c :: l, s, h => by
    rcases bits_mem t l _ h with h1 | h1
    · rw [bit_or, Bool.or_eq_true, decide_eq_true_eq] at h1
      rcases h1 with h1 | h1
      · exact .inl h1
      · exact .inr (by simp [h1])
    · exact .inr (by simp [h1])
def cd (p : Int × Int) : Nat := p.1.toNat * 20 + p.2.toNat
theorem cd_inj {p q : Int × Int} (hp : 0 ≤ p.1 ∧ 0 ≤ p.2 ∧ p.2 < 20) (hq : 0 ≤ q.1 ∧ 0 ≤ q.2 ∧ q.2 < 20) (h : cd p = cd q) : p = q := by
  unfold cd at h
  exact Prod.ext (by omega) (by omega)
theorem nodup_cd {l : List (Int × Int)} (h : nodupB (l.map cd) 0 = true) : l.Nodup := by
  have h1 := (nodupB_spec _ _ h).1
  exact (List.pairwise_map.1 h1).imp (fun {a b} h e => h (by rw [e]))
def homeAway (x : S37) : Int × Int := (x.f1, x.f2)
def goodB (n : Nat) (kind : Int) (m : List S37) : Bool :=
  m.all (fun x => decide (okX n (rndsQ (rndsN n) kind : Nat) x)) && nodupB ((slots m).map cd) 0 && nodupB ((metL m (rndsN n) kind (rndsN n)).map cd) 0 &&
  (List.range (rndsN n)).all (fun r => decide (mkB (rndsN n) kind r < 0) || decide (byR m (mkB (rndsN n) kind r) = sortM ((byR m (mkA (rndsN n) kind r)).map (trn (mkB (rndsN n) kind r))))) &&
  decide ((metL m (rndsN n) kind (rndsN n)).length = n * (n - 1) / 2) && decide (m.length ≤ 1000) &&
  (List.range n).all (fun a => decide (((m.countP fun x => x.f1 == (a : Int)) + (m.countP fun x => x.f2 == (a : Int)) : Nat) + wantR n kind = (rndsQ (rndsN n) kind : Nat))) &&
  (if kind = 1 then nodupB ((m.map pr).map cd) 0 && (List.range n).all (fun a => (List.range a).all fun b => (bitsOf ((m.map pr).map cd)).testBit (b * 20 + a))
   else nodupB ((m.map homeAway).map cd) 0 && (List.range n).all (fun a => (List.range n).all fun b => decide (a = b) || (bitsOf ((m.map homeAway).map cd)).testBit (a * 20 + b)))
theorem good_2 : ∀ k, k < 4 → 1 ≤ k → goodB 2 (k : Nat) (mkM 2 (k : Nat)) = true := by decide +kernel
theorem good_3 : ∀ k, k < 4 → 1 ≤ k → goodB 3 (k : Nat) (mkM 3 (k : Nat)) = true := by decide +kernel
theorem good_4 : ∀ k, k < 4 → 1 ≤ k → goodB 4 (k : Nat) (mkM 4 (k : Nat)) = true := by decide +kernel
theorem good_5 : ∀ k, k < 4 → 1 ≤ k → goodB 5 (k : Nat) (mkM 5 (k : Nat)) = true := by decide +kernel
theorem good_6 : ∀ k, k < 4 → 1 ≤ k → goodB 6 (k : Nat) (mkM 6 (k : Nat)) = true := by decide +kernel
theorem good_7 : ∀ k, k < 4 → 1 ≤ k → goodB 7 (k : Nat) (mkM 7 (k : Nat)) = true := by decide +kernel
theorem good_8 : ∀ k, k < 4 → 1 ≤ k → goodB 8 (k : Nat) (mkM 8 (k : Nat)) = true := by decide +kernel
theorem good_9 : ∀ k, k < 4 → 1 ≤ k → goodB 9 (k : Nat) (mkM 9 (k : Nat)) = true := by decide +kernel
theorem good_10 : ∀ k, k < 4 → 1 ≤ k → goodB 10 (k : Nat) (mkM 10 (k : Nat)) = true := by decide +kernel
theorem good_11 : ∀ k, k < 4 → 1 ≤ k → goodB 11 (k : Nat) (mkM 11 (k : Nat)) = true := by decide +kernel
theorem good_12 : ∀ k, k < 4 → 1 ≤ k → goodB 12 (k : Nat) (mkM 12 (k : Nat)) = true := by decide +kernel
theorem good_13 : ∀ k, k < 4 → 1 ≤ k → goodB 13 (k : Nat) (mkM 13 (k : Nat)) = true := by decide +kernel
theorem good_14 : ∀ k, k < 4 → 1 ≤ k → goodB 14 (k : Nat) (mkM 14 (k : Nat)) = true := by decide +kernel
theorem good_15 : ∀ k, k < 4 → 1 ≤ k → goodB 15 (k : Nat) (mkM 15 (k : Nat)) = true := by decide +kernel
theorem good_16 : ∀ k, k < 4 → 1 ≤ k → goodB 16 (k : Nat) (mkM 16 (k : Nat)) = true := by decide +kernel
theorem good_17 : ∀ k, k < 4 → 1 ≤ k → goodB 17 (k : Nat) (mkM 17 (k : Nat)) = true := by decide +kernel
theorem good_18 : ∀ k, k < 4 → 1 ≤ k → goodB 18 (k : Nat) (mkM 18 (k : Nat)) = true := by decide +kernel
theorem good_19 : ∀ k, k < 4 → 1 ≤ k → goodB 19 (k : Nat) (mkM 19 (k : Nat)) = true := by decide +kernel
theorem good_20 : ∀ k, k < 4 → 1 ≤ k → goodB 20 (k : Nat) (mkM 20 (k : Nat)) = true := by decide +kernel
theorem good_in (n : Nat) (h : n < 21) (h2 : 2 ≤ n) : ∀ k, k < 4 → 1 ≤ k → goodB n (k : Nat) (mkM n (k : Nat)) = true := by
  match n, h, h2 with
  | 2, _, _ => exact good_2
  | 3, _, _ => exact good_3
  | 4, _, _ => exact good_4
  | 5, _, _ => exact good_5
  | 6, _, _ => exact good_6
  | 7, _, _ => exact good_7
  | 8, _, _ => exact good_8
  | 9, _, _ => exact good_9
  | 10, _, _ => exact good_10
  | 11, _, _ => exact good_11
  | 12, _, _ => exact good_12
  | 13, _, _ => exact good_13
  | 14, _, _ => exact good_14
  | 15, _, _ => exact good_15
  | 16, _, _ => exact good_16
  | 17, _, _ => exact good_17
  | 18, _, _ => exact good_18
  | 19, _, _ => exact good_19
  | 20, _, _ => exact good_20
  | k + 21, h, _ => omega
theorem good_at {n : Nat} {kind : Int} (hn : 2 ≤ n ∧ n ≤ 20) (hk : 1 ≤ kind ∧ kind ≤ 3) : goodB n kind (mkM n kind) = true := by
  obtain ⟨k, rfl⟩ : ∃ k : Nat, kind = k := ⟨kind.toNat, by omega⟩
  exact good_in n (by omega) hn.1 k (by omega) (by omega)
end Go.Proofs.Ythddaojdlfifeaa.P

/- What Make returns is a round robin: the facts. -/
namespace Go.Proofs.Ythddaojdlfifeaa.P
open Go.RowKit Go.Proofs.YthddaojdlfifeaaW.PrintWords Go.Proofs.YthddaojdlfifeaaW.PrintLast Go.Proofs.YthddaojdlfifeaaW.PrintMore
set_option linter.unusedSimpArgs false
set_option linter.unusedVariables false

theorem countP_nd {α β : Type} [DecidableEq β] (f : α → β) (c : β) : ∀ {l : List α}, (l.map f).Nodup → l.countP (fun x => decide (f x = c)) ≤ 1
  | [], _ => by simp
  | x :: l, h => by
    rw [List.map_cons, List.nodup_cons] at h
    have ih := countP_nd f c h.2
    rw [List.countP_cons]
    by_cases e : f x = c
    · have h0 : l.countP (fun x => decide (f x = c)) = 0 := by
        rw [List.countP_eq_zero]
        intro y hy
        rw [decide_eq_true_iff]
        intro e2
        exact h.1 (List.mem_map.2 ⟨y, hy, by rw [e2, e]⟩)
      rw [h0]; split <;> omega
    · rw [if_neg (by simpa using e)]; omega
theorem countP_pos' {α β : Type} [DecidableEq β] (f : α → β) (c : β) {l : List α} (h : c ∈ l.map f) : 1 ≤ l.countP (fun x => decide (f x = c)) := by
  obtain ⟨x, hx, e⟩ := List.mem_map.1 h
  exact List.countP_pos_iff.2 ⟨x, hx, by simp [e]⟩
/-! ### slots -/
theorem slots_app (l l' : List S37) : slots (l ++ l') = slots l ++ slots l' := by simp [slots]
theorem okI_of {n Q : Int} {m : List S37} (hX : ∀ x ∈ m, okX n Q x) (hb : m.Pairwise bef) (hs : (slots m).Nodup) : ∀ i, i < m.length → okI n Q m i := by
  intro i hi
  have e : m = m.take i ++ m.getD i z37 :: m.drop (i + 1) := by
    have h1 := take_snocS m i z37 hi
    have h2 := List.take_append_drop (i + 1) m
    rw [h1, List.append_assoc] at h2
    exact h2.symm
  have hm : m.getD i z37 ∈ m := getD_memS hi
  rw [e, slots_app] at hs
  have hd := (List.nodup_append.1 hs).2.2
  refine ⟨hX _ hm, fun h0 => ?_, fun h => hd _ h ((m.getD i z37).f0, (m.getD i z37).f1) (by simp [slots]) rfl, fun h => hd _ h ((m.getD i z37).f0, (m.getD i z37).f2) (by simp [slots]) rfl⟩
  have := List.pairwise_iff_getElem.1 hb (i - 1) i (by omega) hi (by omega)
  rw [List.getD_eq_getElem?_getD, List.getElem?_eq_getElem (by omega : i - 1 < m.length), List.getD_eq_getElem?_getD, List.getElem?_eq_getElem hi]
  exact this
theorem cG_slots (m : List S37) (r a : Nat) : cG m r a = (slots m).countP (fun p => decide (p = ((r : Int), (a : Int)))) := by
  induction m with
  | nil => rfl
  | cons x m ih =>
    have e : slots (x :: m) = (x.f0, x.f1) :: (x.f0, x.f2) :: slots m := rfl
    rw [e, List.countP_cons, List.countP_cons, ← ih]
    unfold cG
    rw [List.countP_cons, List.countP_cons]
    have e1 : (x.f0 == (r : Int) && x.f1 == (a : Int)) = decide ((x.f0, x.f1) = ((r : Int), (a : Int))) := by rw [Bool.eq_iff_iff]; simp
    have e2 : (x.f0 == (r : Int) && x.f2 == (a : Int)) = decide ((x.f0, x.f2) = ((r : Int), (a : Int))) := by rw [Bool.eq_iff_iff]; simp
    rw [e1, e2]; omega
theorem cG_one {m : List S37} (h : (slots m).Nodup) (r a : Nat) : cG m r a ≤ 1 := by
  rw [cG_slots]
  exact countP_nd id _ (by simpa using h)
theorem countP_split (p : S37 → Bool) (m : List S37) : ∀ R : Nat, (m.countP fun x : S37 => (decide (0 ≤ x.f0) && decide (x.f0 < ((R + 1 : Nat) : Int))) && p x) = (m.countP fun x : S37 => (decide (0 ≤ x.f0) && decide (x.f0 < (R : Int))) && p x) + m.countP fun x : S37 => x.f0 == (R : Int) && p x := by
  intro R
  induction m with
  | nil => rfl
  | cons x m ih =>
    rw [List.countP_cons, List.countP_cons, List.countP_cons, ih]
    have e : (if ((decide (0 ≤ x.f0) && decide (x.f0 < ((R + 1 : Nat) : Int))) && p x) = true then 1 else 0) = (if ((decide (0 ≤ x.f0) && decide (x.f0 < (R : Int))) && p x) = true then 1 else 0) + (if (x.f0 == (R : Int) && p x) = true then 1 else 0) := by
      cases p x
      · simp
      · simp only [Bool.and_true, Bool.and_eq_true, decide_eq_true_eq, beq_iff_eq]
        split <;> split <;> split <;> omega
    omega
theorem rst_eq (m : List S37) (a : Nat) : ∀ R : Nat, rst m a R = (R : Int) - (((m.countP fun x : S37 => (decide (0 ≤ x.f0) && decide (x.f0 < (R : Int))) && x.f1 == (a : Int)) + (m.countP fun x : S37 => (decide (0 ≤ x.f0) && decide (x.f0 < (R : Int))) && x.f2 == (a : Int)) : Nat) : Int)
  | 0 => by
    have e : ∀ p : S37 → Bool, (m.countP fun x : S37 => (decide (0 ≤ x.f0) && decide (x.f0 < ((0 : Nat) : Int))) && p x) = 0 := fun p => by
      rw [List.countP_eq_zero]
      intro x _
      simp; omega
    rw [e, e]; rfl
  | R + 1 => by
    rw [rst, rst_eq m a R, countP_split, countP_split]
    unfold cG; omega
theorem rst_all {m : List S37} {Q : Nat} (h : ∀ x ∈ m, 0 ≤ x.f0 ∧ x.f0 < Q) (a : Nat) : rst m a Q = (Q : Int) - (((m.countP fun x : S37 => x.f1 == (a : Int)) + (m.countP fun x : S37 => x.f2 == (a : Int)) : Nat) : Int) := by
  rw [rst_eq]
  have e : ∀ p : S37 → Bool, (m.countP fun x : S37 => (decide (0 ≤ x.f0) && decide (x.f0 < (Q : Int))) && p x) = m.countP p := fun p => by
    refine List.countP_congr fun x hx => ?_
    have := h x hx
    simp [this.1, this.2]
  rw [e, e]
/-! ### the facts -/
structure Good (n : Nat) (kind : Int) (m : List S37) : Prop where
  inX : ∀ x ∈ m, okX n (rndsQ (rndsN n) kind : Nat) x
  len : m.length ≤ 1000
  chk : okC n (rndsN n) kind m
  all : allOk n (rndsQ (rndsN n) kind) kind m
theorem good_of {n : Nat} {kind : Int} (hn : 2 ≤ n ∧ n ≤ 20) (hk : 1 ≤ kind ∧ kind ≤ 3) {m : List S37} (hb : m.Pairwise bef) (h : goodB n kind m = true) : Good n kind m := by
  unfold goodB at h
  simp only [Bool.and_eq_true, List.all_eq_true, decide_eq_true_eq, Bool.or_eq_true, List.mem_range] at h
  obtain ⟨⟨⟨⟨⟨⟨⟨h1, h2⟩, h3⟩, h4⟩, h5⟩, h6⟩, h7⟩, h8⟩ := h
  have hs : (slots m).Nodup := nodup_cd h2
  have hmet : (metL m (rndsN n) kind (rndsN n)).Nodup := nodup_cd h3
  have hR : 1 ≤ rndsN n := by unfold rndsN; omega
  have hI := okI_of h1 hb hs
  have hchk : okC n (rndsN n) kind m := by
    refine ⟨hI, fun r hr => ⟨?_, fun hb0 => ?_⟩, h5⟩
    · have := met_sub m (rndsN n) kind (rndsN n - (r + 1)) (r + 1)
      rw [show r + 1 + (rndsN n - (r + 1)) = rndsN n by omega] at this
      exact hmet.sublist this
    · rcases h4 r hr with h | h
      · omega
      · rw [h]; exact sortM_perm _
  refine ⟨h1, h6, hchk, fun a ha => ⟨fun r hr => cG_one hs r a, ?_, fun b hb2 => ?_⟩⟩
  · rw [rst_all (fun x hx => ⟨(h1 x hx).1, (h1 x hx).2.1⟩)]
    have := h7 a ha
    omega
  · unfold pairB
    by_cases hk1 : kind = 1
    · rw [if_pos hk1] at h8 ⊢
      simp only [Bool.and_eq_true, List.all_eq_true, List.mem_range] at h8
      have hnd : (m.map pr).Nodup := nodup_cd h8.1
      have hmem : ((b : Int), (a : Int)) ∈ m.map pr := by
        have := bits_mem _ _ _ (h8.2 a ha b hb2)
        rcases this with h | h
        · simp at h
        · obtain ⟨p, hp, e⟩ := List.mem_map.1 h
          obtain ⟨x, hx, rfl⟩ := List.mem_map.1 hp
          obtain ⟨_, _, ⟨e1, e2⟩, ⟨e3, e4⟩, _⟩ := h1 x hx
          have : pr x = ((b : Int), (a : Int)) := by
            refine cd_inj ?_ ?_ ?_
            · unfold pr; simp only; omega
            · simp only; omega
            · rw [e]; unfold cd; simp
          rw [← this]; exact hp
      have c1 := countP_nd pr ((b : Int), (a : Int)) hnd
      have c2 := countP_pos' pr ((b : Int), (a : Int)) hmem
      have e : (m.countP fun x => decide (pr x = ((b : Int), (a : Int)))) = cM m a b + cM m b a := by
        clear c1 c2 hmem hnd h8 h7 h6 h5 h4 h3 h2 hI hchk hmet hs hb
        unfold cM
        induction m with
        | nil => rfl
        | cons x m ih =>
          rw [List.countP_cons, List.countP_cons, List.countP_cons, ih (fun y hy => h1 y (by simp [hy]))]
          have e : (if decide (pr x = ((b : Int), (a : Int))) = true then 1 else 0) = (if (x.f1 == (a : Int) && x.f2 == (b : Int)) = true then 1 else 0) + (if (x.f1 == (b : Int) && x.f2 == (a : Int)) = true then 1 else 0) := by
            simp only [decide_eq_true_eq, Bool.and_eq_true, beq_iff_eq, pr, Prod.mk.injEq]
            split <;> split <;> split <;> omega
          omega
      omega
    · rw [if_neg hk1] at h8 ⊢
      simp only [Bool.and_eq_true, List.all_eq_true, List.mem_range, Bool.or_eq_true, decide_eq_true_eq] at h8
      have hnd : (m.map homeAway).Nodup := nodup_cd h8.1
      have key : ∀ a b : Nat, a < n → b < n → a ≠ b → cM m a b = 1 := fun a b ha hb hab => by
        have hmem : ((a : Int), (b : Int)) ∈ m.map homeAway := by
          rcases h8.2 a ha b hb with h | h
          · exact absurd h hab
          have := bits_mem _ _ _ h
          rcases this with h | h
          · simp at h
          · obtain ⟨p, hp, e⟩ := List.mem_map.1 h
            obtain ⟨x, hx, rfl⟩ := List.mem_map.1 hp
            obtain ⟨_, _, ⟨e1, e2⟩, ⟨e3, e4⟩, _⟩ := h1 x hx
            have : homeAway x = ((a : Int), (b : Int)) := by
              refine cd_inj ?_ ?_ ?_
              · unfold homeAway; simp only; omega
              · simp only; omega
              · rw [e]; unfold cd; simp
            rw [← this]; exact hp
        have c1 := countP_nd homeAway ((a : Int), (b : Int)) hnd
        have c2 := countP_pos' homeAway ((a : Int), (b : Int)) hmem
        have e : (m.countP fun x => decide (homeAway x = ((a : Int), (b : Int)))) = cM m a b := by
          unfold cM
          refine List.countP_congr fun x _ => ?_
          simp [homeAway]
        omega
      exact ⟨key a b ha (by omega) (by omega), key b a (by omega) ha (by omega)⟩
theorem good_mk {n : Nat} {kind : Int} (hn : 2 ≤ n ∧ n ≤ 20) (hk : 1 ≤ kind ∧ kind ≤ 3) : Good n kind (mkM n kind) := good_of hn hk (mk_strict hn hk) (good_at hn hk)
end Go.Proofs.Ythddaojdlfifeaa.P

/- RobinBalance: what is counted. -/
namespace Go.Proofs.Ythddaojdlfifeaa.P
open Go.RowKit Go.Proofs.YthddaojdlfifeaaW.PrintWords Go.Proofs.YthddaojdlfifeaaW.PrintLast Go.Proofs.YthddaojdlfifeaaW.PrintMore
set_option linter.unusedSimpArgs false
set_option linter.unusedVariables false

def hc (x : S37) : Nat := x.f0.toNat * 20 + x.f1.toNat
def ac (x : S37) : Nat := x.f0.toNat * 20 + x.f2.toNat
/-- the venue at a place, of the meetings l: 1 home, -1 away, 0 none -/
def atC (l : List S37) (k : Nat) : Int := if k ∈ l.map hc then 1 else if k ∈ l.map ac then -1 else 0
def atV (l : List S37) : List Int := (List.range 800).map (atC l)
theorem atV_len (l : List S37) : (atV l).length = 800 := by simp [atV]
theorem atV_get (l : List S37) (k : Nat) (hk : k < 800) : (atV l).getD k 0 = atC l k := by
  rw [List.getD_eq_getElem?_getD, atV, List.getElem?_map, List.getElem?_range hk]; rfl
theorem atV_nil : atV [] = List.replicate 800 0 := by
  have e : atC [] = fun _ => 0 := funext fun k => by unfold atC; rw [if_neg (by simp), if_neg (by simp)]
  rw [atV, e, List.map_const', List.length_range]
theorem range_set (f : Nat → Int) (N j : Nat) (v : Int) : ((List.range N).map f).set j v = (List.range N).map fun k => if k = j then v else f k := by
  refine List.ext_getElem (by simp) fun i h1 h2 => ?_
  rw [List.getElem_set]
  simp only [List.getElem_map, List.getElem_range]
  by_cases h : j = i
  · rw [if_pos h, if_pos h.symm]
  · rw [if_neg h, if_neg (fun e => h e.symm)]
theorem atV_snoc (l : List S37) (x : S37) (h1 : ac x ∉ l.map hc) (h2 : hc x ≠ ac x) : ((atV l).set (hc x) 1).set (ac x) (-1) = atV (l ++ [x]) := by
  rw [atV, range_set, range_set, atV]
  refine List.map_congr_left fun k _ => ?_
  unfold atC
  simp only [List.map_append, List.map_cons, List.map_nil, List.mem_append, List.mem_singleton]
  by_cases e1 : k = ac x
  · subst e1
    rw [if_pos rfl, if_neg (fun h => h.elim h1 (fun e => h2 e.symm)), if_pos (.inr rfl)]
  · rw [if_neg e1]
    by_cases e2 : k = hc x
    · rw [if_pos e2, if_pos (.inr e2)]
    · rw [if_neg e2]
      simp only [e1, e2, or_false]
def homV (l : List S37) : List Int := l.foldl (fun a x => inc a x.f1.toNat) (List.replicate 20 0)
def cH (l : List S37) (t : Nat) : Nat := l.countP fun x => x.f1 == (t : Int)
theorem homV_snoc (l : List S37) (x : S37) : homV (l ++ [x]) = inc (homV l) x.f1.toNat := by rw [homV, homV, List.foldl_append]; rfl
theorem homV_len (m : List S37) : (homV m).length = 20 := by
  have : ∀ (m : List S37) (a : List Int), (m.foldl (fun a x => inc a x.f1.toNat) a).length = a.length := fun m => by
    induction m with
    | nil => intro a; rfl
    | cons x m ih => intro a; rw [List.foldl_cons, ih, inc_len]
  rw [homV, this, List.length_replicate]
theorem homV_get {Q : Nat} {m : List S37} (h : ∀ x ∈ m, inR Q x) (t : Nat) : (homV m).getD t 0 = (cH m t : Int) := by
  have key : ∀ (m : List S37) (acc : List Int), acc.length = 20 → (∀ x ∈ m, inR Q x) → (m.foldl (fun a x => inc a x.f1.toNat) acc).getD t 0 = acc.getD t 0 + (cH m t : Int) := fun m => by
    induction m with
    | nil => intro acc _ _; simp [cH]
    | cons x m ih =>
      intro acc hl hm
      obtain ⟨_, ⟨h1, h2⟩, _⟩ := hm x (by simp)
      rw [List.foldl_cons, ih _ (by rw [inc_len, hl]) (fun y hy => hm y (by simp [hy])), inc_get _ _ _ (by omega)]
      have e : cH (x :: m) t = cH m t + if x.f1.toNat = t then 1 else 0 := by
        unfold cH
        rw [List.countP_cons]
        congr 1
        by_cases e1 : x.f1.toNat = t
        · rw [if_pos e1, if_pos]; rw [beq_iff_eq]; omega
        · rw [if_neg e1, if_neg]; rw [beq_iff_eq]; omega
      rw [e]
      split <;> omega
  have := key m (List.replicate 20 0) List.length_replicate h
  rw [homV, this, List.getD_eq_getElem?_getD, List.getElem?_replicate]
  split <;> simp
theorem cH_le (m : List S37) (t : Nat) : cH m t ≤ m.length := List.countP_le_length
/-- breaks of team t in the first r rounds, and of the first teams -/
def brT (f : Nat → Int) (t : Nat) : Nat → Nat
  | 0 => 0
  | r + 1 => brT f t r + if f (r * 20 + t) ≠ 0 ∧ f (r * 20 + t) = f ((r + 1) * 20 + t) then 1 else 0
def brN (f : Nat → Int) : Nat → Nat
  | 0 => 0
  | t + 1 => brN f t + brT f t 39
theorem brT_le (f : Nat → Int) (t : Nat) : ∀ r, brT f t r ≤ r
  | 0 => Nat.le_refl _
  | r + 1 => by have := brT_le f t r; rw [brT]; split <;> omega
theorem brN_le (f : Nat → Int) : ∀ t, brN f t ≤ t * 39
  | 0 => Nat.le_refl _
  | t + 1 => by have := brN_le f t; have := brT_le f t 39; rw [brN]; omega
def homeOk (n : Nat) (kind : Int) (h : Nat) : Prop := if kind ≠ 1 then (h : Int) = n - 1 else if n % 2 = 1 then (h : Int) = (n - 1) / 2 else ((h : Int) = n / 2 ∨ (h : Int) = n / 2 - 1)
instance (n : Nat) (kind : Int) (h : Nat) : Decidable (homeOk n kind h) := inferInstanceAs (Decidable (ite _ _ _))
def balOk (n : Nat) (kind : Int) (m : List S37) : Prop := (∀ t, t < n → homeOk n kind (cH m t)) ∧ (kind = 1 → brN (atC m) n = (n - 2) * (1 - n % 2))
/-! ### the facts, computed -/
def atB (H A k : Nat) : Int := if H.testBit k then 1 else if A.testBit k then -1 else 0
theorem bits_has (t : Nat) : ∀ (l : List Nat) (s : Nat), (s.testBit t = true ∨ t ∈ l) → (l.foldl (fun s c => s ||| 1 <<< c) s).testBit t = true
  | [], s, h => h.elim id (fun h => by cases h)
  | c :: l, s, h => by
    refine bits_has t l _ ?_
    rcases h with h | h
    · exact .inl (by rw [bit_or, h]; rfl)
    · rcases List.mem_cons.1 h with rfl | h
      · exact .inl (by rw [bit_or, decide_eq_true rfl, Bool.or_true])
      · exact .inr h
theorem bits_iff (l : List Nat) (t : Nat) : (bitsOf l).testBit t = true ↔ t ∈ l := by
  constructor
  · intro h
    rcases bits_mem t l 0 h with h | h
    · simp at h
    · exact h
  · intro h; exact bits_has t l 0 (.inr h)
theorem atB_eq (m : List S37) : atB (bitsOf (m.map hc)) (bitsOf (m.map ac)) = atC m := by
  funext k
  unfold atB atC
  simp only [bits_iff]
def balB (n : Nat) (kind : Int) (m : List S37) : Bool := (List.range n).all (fun t => decide (homeOk n kind (cH m t))) && (decide (kind ≠ 1) || decide (brN (atB (bitsOf (m.map hc)) (bitsOf (m.map ac))) n = (n - 2) * (1 - n % 2)))
theorem bal_of {n : Nat} {kind : Int} {m : List S37} (h : balB n kind m = true) : balOk n kind m := by
  unfold balB at h
  rw [atB_eq] at h
  simp only [Bool.and_eq_true, List.all_eq_true, List.mem_range, decide_eq_true_eq, Bool.or_eq_true] at h
  exact ⟨h.1, fun hk => h.2.elim (fun h => absurd hk h) id⟩
theorem bal_lo : ∀ n, n < 14 → 2 ≤ n → ∀ k, k < 4 → 1 ≤ k → balB n (k : Nat) (mkM n (k : Nat)) = true := by decide +kernel
theorem bal_hi : ∀ n, n < 21 → 14 ≤ n → ∀ k, k < 4 → 1 ≤ k → balB n (k : Nat) (mkM n (k : Nat)) = true := by decide +kernel
theorem bal_mk {n : Nat} {kind : Int} (hn : 2 ≤ n ∧ n ≤ 20) (hk : 1 ≤ kind ∧ kind ≤ 3) : balOk n kind (mkM n kind) := by
  obtain ⟨k, rfl⟩ : ∃ k : Nat, kind = k := ⟨kind.toNat, by omega⟩
  refine bal_of ?_
  by_cases h : n < 14
  · exact bal_lo n h hn.1 k (by omega) (by omega)
  · exact bal_hi n (by omega) (by omega) k (by omega) (by omega)
end Go.Proofs.Ythddaojdlfifeaa.P

/- RobinAll, walked. -/
namespace Go.Proofs.Ythddaojdlfifeaa.P
open Go.RowKit Go.Proofs.YthddaojdlfifeaaW.PrintWords Go.Proofs.YthddaojdlfifeaaW.PrintLast Go.Proofs.YthddaojdlfifeaaW.PrintMore
open XW RegInv
attribute [local irreducible] Addr.add
set_option linter.unusedSimpArgs false
set_option linter.unusedVariables false

abbrev bI (l : List Int) : Array Value := buf (sc (Value.int .i64)) l []
theorem bI_get {l : List Int} {k j : Nat} {v : Int} (hj : k = j) (hk : j < l.length) (hv : l.getD j 0 = v) : (bI l)[k]? = some (.int .i64 v) := by
  subst hj hv
  exact buf_get1 _ 0 hk
theorem bI_inc {l : List Int} {k j : Nat} {v : Int} (hj : k = j) (hk : j < l.length) (hv : l.getD j 0 + 1 = v) : (bI l).setIfInBounds k (.int .i64 v) = bI (inc l j) := by
  subst hj hv
  exact buf_set1 (Value.int .i64) hk
abbrev RightR (n kind : Int) (b : Bool) : Prop := ∀ w, Rets Try.prog 17 #[.int .i64 n, .int .i64 kind] w fun u w' => u = .bool b ∧ Below w.heap.size w w'
theorem E17 : Enters Try.prog 17 := enters Try.func17 (by kernel_rfl) rfl
end Go.Proofs.Ythddaojdlfifeaa.P

/- RobinAll: the contract. -/
namespace Go.Proofs.Ythddaojdlfifeaa.P
open Go.RowKit Go.Proofs.YthddaojdlfifeaaW.PrintWords Go.Proofs.YthddaojdlfifeaaW.PrintLast Go.Proofs.YthddaojdlfifeaaW.PrintMore
open XW RegInv
attribute [local irreducible] Addr.add
set_option linter.unusedSimpArgs false
set_option linter.unusedVariables false

theorem right_of (n kind : Int) : RightR n kind (decide (rightR n kind)) := fun w => by
  refine (fastilaw20_right.calls n kind (decide (rightR n kind)) w ?_).mono (by rintro e w' ⟨rfl, hb⟩; exact ⟨_, rfl, rfl, hb.below⟩)
  unfold fastilaw20_right.f
  by_cases hr : rightR n kind
  · rw [decide_eq_true hr]
    obtain ⟨h1, h2, h3, h4⟩ := hr
    rw [if_pos h1, if_pos h2]
    by_cases h3 : kind = 1
    · rw [if_pos h3]
    · by_cases h4 : kind = 2
      · rw [if_neg h3, if_pos h4]
      · rw [if_neg h3, if_neg h4]
        congr 1
        rw [beq_iff_eq]; omega
  · rw [decide_eq_false hr]
    unfold rightR at hr
    by_cases h1 : n ≥ 2
    · by_cases h2 : n ≤ 20
      · rw [if_pos h1, if_pos h2, if_neg (by omega), if_neg (by omega)]
        congr 1
        rw [beq_eq_false_iff_ne]; omega
      · rw [if_pos h1, if_neg h2]
    · rw [if_neg h1]
theorem good_in0 {n : Nat} {kind : Int} {m : List S37} (h : Good n kind m) (hn : n ≤ 20) : ∀ x ∈ m, inR (rndsQ (rndsN n) kind) x := fun x hx => by
  obtain ⟨a, b, c, d, _⟩ := h.inX x hx
  exact ⟨⟨a, b⟩, ⟨c.1, by omega⟩, ⟨d.1, by omega⟩⟩
end Go.Proofs.Ythddaojdlfifeaa.P

/- RobinBalance, walked. -/
namespace Go.Proofs.Ythddaojdlfifeaa.P
open Go.RowKit Go.Proofs.YthddaojdlfifeaaW.PrintWords Go.Proofs.YthddaojdlfifeaaW.PrintLast Go.Proofs.YthddaojdlfifeaaW.PrintMore
open XW RegInv
attribute [local irreducible] Addr.add
set_option linter.unusedSimpArgs false
set_option linter.unusedVariables false

theorem bI_set {l : List Int} {k j : Nat} {v : Int} (hj : k = j) (hk : j < l.length) : (bI l).setIfInBounds k (.int .i64 v) = bI (l.set j v) := by
  subst hj
  exact buf_set1 (Value.int .i64) hk
set_option maxHeartbeats 8000000 in
set_option maxRecDepth 100000 in
theorem bal_core (w0 : World) (n Q : Nat) (kind : Int) (m : List S37) (hn : 2 ≤ n ∧ n ≤ 20) (hk : 1 ≤ kind ∧ kind ≤ 3) (hQ : 1 ≤ Q ∧ Q ≤ 40) (hmk : MkR n kind m) (hrt : RightR n kind true) (hml : m.length ≤ 1000) (hin : ∀ i, i < m.length → okI n Q m i) (hmem : ∀ x ∈ m, inR Q x) (hok : balOk n kind m) :
    Rets Try.prog 6 #[.int .i64 n, .int .i64 kind] w0 fun u w' => u = .bool true ∧ Below w0.heap.size w0 w' := by
  have hF := wide_wide
  refine rets_at (n := 162) Try.func6 rfl Try.ntmps6 (by simp) ?_
  (repeat (first | ((with_reducible refine is_AL ?_); (first | ((with_reducible refine is_assign ?_); (refine At_plain hF (by (exact (rfl : _ = some (Value.bool _)))) ?_)) | with_reducible refine At_nil ?_)) | ((with_reducible refine is_At ?_); (first | with_reducible refine At_seq ?_; intro K hK | with_reducible refine At_region ?_ | with_reducible refine At_then_n ?_ | with_reducible refine At_go (by assumption) ?_))))
  refine At_callB hF E9 rfl (u := .bool true) (vs := #[]) (by simp) (fun w' hw' => sane_rets w') ?_
  (repeat (first | ((with_reducible refine is_AL ?_); (first | ((with_reducible refine is_move ?_); (refine At_plain hF (by (exact (rfl : _ = some (Value.int _ _)))) ?_)) | ((with_reducible refine is_un ?_); (refine At_plain hF (by (exact (rfl : _ = some (Value.bool _)))) ?_)) | with_reducible refine At_nil ?_)) | ((with_reducible refine is_At ?_); (first | with_reducible refine At_seq ?_; intro K hK | with_reducible refine At_region ?_ | with_reducible refine At_skip ?_ | with_reducible refine At_then_n ?_ | with_reducible refine At_go (by assumption) ?_ | ((with_reducible refine is_cond ?_); (refine At_cond_f rfl ?_))))))
  refine At_callB hF E17 rfl (u := .bool true) (arg2 (by (first | exact (rfl : _ = (Value.int _ _)) | exact (rfl : _ = (Value.bool _)) | exact (rfl : _ = (Value.pointer _)) | exact (rfl : _ = (Value.slice _ _ _)) | exact (rfl : _ = (Value.map _)) | exact (rfl : _ = (Value.func _ _ _)) | exact (rfl : _ = (Value.tuple _)) | exact (rfl : _ = (Value.agg _)) | exact (rfl : _ = (Value.string _)) | exact (rfl : _ = (Value.nilFunc)) | exact (rfl : _ = (Value.nilIface)))) (by (first | exact (rfl : _ = (Value.int _ _)) | exact (rfl : _ = (Value.bool _)) | exact (rfl : _ = (Value.pointer _)) | exact (rfl : _ = (Value.slice _ _ _)) | exact (rfl : _ = (Value.map _)) | exact (rfl : _ = (Value.func _ _ _)) | exact (rfl : _ = (Value.tuple _)) | exact (rfl : _ = (Value.agg _)) | exact (rfl : _ = (Value.string _)) | exact (rfl : _ = (Value.nilFunc)) | exact (rfl : _ = (Value.nilIface))))) (fun w' hw' => hrt w') ?_
  (repeat (first | ((with_reducible refine is_AL ?_); (first | ((with_reducible refine is_move ?_); (refine At_plain hF (by (exact (rfl : _ = some (Value.int _ _)))) ?_)) | ((with_reducible refine is_un ?_); (refine At_plain hF (by (exact (rfl : _ = some (Value.bool _)))) ?_)) | with_reducible refine At_nil ?_)) | ((with_reducible refine is_At ?_); (first | with_reducible refine At_seq ?_; intro K hK | with_reducible refine At_region ?_ | with_reducible refine At_skip ?_ | with_reducible refine At_then_n ?_ | with_reducible refine At_go (by assumption) ?_ | ((with_reducible refine is_cond ?_); (refine At_cond_f rfl ?_))))))
  refine At_callM hF E12 rfl (Post := fun u Rs => ∃ A c, u = .tuple #[rowV A m.length c, .int .i64 0] ∧ Rs = [.row 37 3 enc37 A c m]) (arg2 (by (first | exact (rfl : _ = (Value.int _ _)) | exact (rfl : _ = (Value.bool _)) | exact (rfl : _ = (Value.pointer _)) | exact (rfl : _ = (Value.slice _ _ _)) | exact (rfl : _ = (Value.map _)) | exact (rfl : _ = (Value.func _ _ _)) | exact (rfl : _ = (Value.tuple _)) | exact (rfl : _ = (Value.agg _)) | exact (rfl : _ = (Value.string _)) | exact (rfl : _ = (Value.nilFunc)) | exact (rfl : _ = (Value.nilIface)))) (by (first | exact (rfl : _ = (Value.int _ _)) | exact (rfl : _ = (Value.bool _)) | exact (rfl : _ = (Value.pointer _)) | exact (rfl : _ = (Value.slice _ _ _)) | exact (rfl : _ = (Value.map _)) | exact (rfl : _ = (Value.func _ _ _)) | exact (rfl : _ = (Value.tuple _)) | exact (rfl : _ = (Value.agg _)) | exact (rfl : _ = (Value.string _)) | exact (rfl : _ = (Value.nilFunc)) | exact (rfl : _ = (Value.nilIface))))) (fun w' hw' => hmk w') ?_
  rintro _ _ ⟨A, c, rfl, rfl⟩
  simp only [List.cons_append, List.nil_append]
  (repeat (first | ((with_reducible refine is_AL ?_); (first | ((with_reducible refine is_move ?_); (refine At_plain hF (by (first | exact (rfl : _ = some (Value.int _ _)) | exact (rfl : _ = some (Value.tuple _)))) ?_)) | ((with_reducible refine is_bin ?_); (refine At_plain hF (by (exact (rfl : _ = some (Value.bool _)))) ?_)) | ((with_reducible refine is_assign ?_); (refine At_plain hF (by (first | exact (rfl : _ = some (Value.int _ _)) | exact (rfl : _ = some (Value.slice _ _ _)))) ?_)) | ((with_reducible refine is_extract ?_); (refine At_plain hF (by (first | exact (rfl : _ = some (Value.int _ _)) | exact (rfl : _ = some (Value.slice _ _ _)))) ?_)) | with_reducible refine At_nil ?_)) | ((with_reducible refine is_At ?_); (first | with_reducible refine At_seq ?_; intro K hK | with_reducible refine At_region ?_ | with_reducible refine At_skip ?_ | with_reducible refine At_then_n ?_ | with_reducible refine At_go (by assumption) ?_ | ((with_reducible refine is_cond ?_); (refine At_cond_f rfl ?_))))))
  refine At_alloc hF (cs := bI (List.replicate 20 0)) (by kernel_rfl) ?_
  intro bh
  (repeat (first | ((with_reducible refine is_AL ?_); (with_reducible refine At_nil ?_)) | ((with_reducible refine is_At ?_); (first | with_reducible refine At_seq ?_; intro K hK | with_reducible refine At_region ?_ | with_reducible refine At_then_n ?_ | with_reducible refine At_go (by assumption) ?_))))
  refine At_alloc hF (cs := bI (List.replicate 800 0)) (by rw [show (TZ.z Try.prog 38) = Value.agg (Array.replicate 800 (.int .i64 0)) from rfl]; exact rep_buf (Value.int .i64) (0 : Int) 800) ?_
  intro ba
  rw [← atV_nil]
  (repeat (first | ((with_reducible refine is_AL ?_); (first | ((with_reducible refine is_move ?_); (refine At_plain hF (by (first | exact (rfl : _ = some (Value.int _ _)) | exact (rfl : _ = some (Value.slice _ _ _)))) ?_)) | ((with_reducible refine is_call ?_); (refine At_len hF rfl ?_)) | with_reducible refine At_nil ?_)) | ((with_reducible refine is_At ?_); (first | with_reducible refine At_seq ?_; intro K hK | with_reducible refine At_block ?_ | with_reducible refine At_region ?_ | with_reducible refine At_then_n ?_ | with_reducible refine At_go (by assumption) ?_))))
  refine At_loop (fun i : Nat => [(0, .int .i64 n), (1, .int .i64 kind), (7, ip bh), (8, ip ba), (28, rowV A m.length c), (29, .int .i64 m.length), (30, .int .i64 i)]) (fun i => [.obj ba (.cells (bI (atV (m.take i))) 38 (0, 0)), .obj bh (.cells (bI (homV (m.take i))) 33 (0, 0)), .row 37 3 enc37 A c m]) (fun i => i ≤ m.length) (fun i => m.length - i) 0 ?_ ?_ (Nat.zero_le _) ?_
  · (repeat (first | exact List.Sublist.refl _ | exact List.Sublist.slnil | refine List.Sublist.cons_cons _ ?_ | refine List.Sublist.cons _ ?_))
  · (repeat (first | exact True.intro | (refine And.intro ?_ ?_; focus (show _ = (_ : Value); first | exact rfl | (refine Eq.trans (b := Value.int IntKind.i64 _) rfl (congrArg (Value.int IntKind.i64) ?_); omega)))))
  rintro i hi K hL ρ1
  try dsimp only
  (repeat (first | ((with_reducible refine is_AL ?_); (first | ((with_reducible refine is_bin ?_); (refine At_plain hF (by (exact (rfl : _ = some (Value.bool _)))) ?_)) | with_reducible refine At_nil ?_)) | ((with_reducible refine is_At ?_); (first | with_reducible refine At_seq ?_; intro K hK | with_reducible refine At_region ?_ | with_reducible refine At_then_n ?_ | with_reducible refine At_go (by assumption) ?_))))
  ((with_reducible refine is_cond ?_); (refine At_cond rfl ?_ ?_ <;> (intro hg; try (simp only [decide_eq_true_eq, decide_eq_false_iff_not, beq_iff_eq, bne_iff_ne, beq_eq_false_iff_ne, bne_eq_false_iff_eq, ne_eq, Bool.not_eq_true', Bool.not_eq_false', Bool.not_true, Bool.not_false, Decidable.not_not] at hg); try (exfalso; first | omega | exact hg True.intro))))
  · have hlt : i < m.length := by omega
    have hsub : ∀ x ∈ m.take i, inR Q x := fun x hx => hmem x (List.mem_of_mem_take hx)
    have h5 := hin i hlt
    have htk := take_snocS m i z37 hlt
    have hl0 : (m.take i).length ≤ 1000 := by simp; omega
    refine At_rowSome 2 rfl (by omega) ?_
    rintro bA rfl
    (repeat (first | ((with_reducible refine is_AL ?_); ((with_reducible refine is_index ?_); (refine At_indexS hF rfl rfl (by omega) ?_))) | ((with_reducible refine is_At ?_); (first | with_reducible refine At_seq ?_; intro K hK | with_reducible refine At_block ?_ | with_reducible refine At_region ?_ | with_reducible refine At_skip ?_ | with_reducible refine At_then_n ?_ | with_reducible refine At_go (by assumption) ?_))))
    refine At_loadRow hF 2 (by exact rfl) rfl z37 hlt rfl (by exact (rfl : _ = Value.agg #[.int .i64 (m.getD i z37).f0, .int .i64 (m.getD i z37).f1, .int .i64 (m.getD i z37).f2])) ?_
    unfold okI at h5
    generalize m.getD i z37 = x at h5 htk ⊢
    obtain ⟨f0, f1, f2⟩ := x
    obtain ⟨⟨h1, h2, ⟨h3, h6⟩, ⟨h4, h7⟩, h8⟩, _, _, h9⟩ := h5
    dsimp only at *
    obtain ⟨r, rfl⟩ : ∃ k : Nat, f0 = k := ⟨f0.toNat, by omega⟩
    obtain ⟨f, rfl⟩ : ∃ k : Nat, f1 = k := ⟨f1.toNat, by omega⟩
    obtain ⟨g, rfl⟩ : ∃ k : Nat, f2 = k := ⟨f2.toNat, by omega⟩
    have i1 : (r : Int) < 40 := by omega
    have i2 : (f : Int) < n := by omega
    have i3 : (g : Int) < n := by omega
    have i4 : f < 20 := by omega
    have i5 : g < 20 := by omega
    have i6 : r < 40 := by omega
    have b1 := cH_le (m.take i) f
    have hac : ac ⟨(r : Int), (f : Int), (g : Int)⟩ ∉ (m.take i).map hc := by
      intro h
      obtain ⟨y, hy, e⟩ := List.mem_map.1 h
      obtain ⟨⟨e1, e2⟩, ⟨e3, e4⟩, _⟩ := hsub y hy
      unfold hc ac at e
      simp only [Int.toNat_natCast] at e
      refine h9 (List.mem_flatMap.2 ⟨y, hy, ?_⟩)
      have ea : y.f0 = r := by omega
      have eb : y.f1 = g := by omega
      rw [← ea, ← eb]; simp
    have hca : hc ⟨(r : Int), (f : Int), (g : Int)⟩ ≠ ac ⟨(r : Int), (f : Int), (g : Int)⟩ := by unfold hc ac; simp only [Int.toNat_natCast]; omega
    have hH1 : (bI (homV (m.take i)))[f]? = some (.int .i64 (cH (m.take i) f : Nat)) := bI_get (j := f) rfl (by rw [homV_len]; omega) (homV_get hsub f)
    have hH2 : (bI (homV (m.take i))).setIfInBounds f (.int .i64 ((cH (m.take i) f : Nat) + 1)) = bI (homV (m.take (i + 1))) := by
      rw [bI_inc (j := f) rfl (by rw [homV_len]; omega) (by rw [homV_get hsub f]), htk, homV_snoc]; rfl
    have hH3 : f < (bI (homV (m.take i))).size := by rw [buf_size1, homV_len]; simp; omega
    have hA2 : (bI (atV (m.take i))).setIfInBounds (0 + r * 20 + f * 1) (.int .i64 1) = bI ((atV (m.take i)).set (r * 20 + f) 1) := bI_set (by omega) (by rw [atV_len]; omega)
    have hA3 : 0 + r * 20 + f * 1 < (bI (atV (m.take i))).size := by rw [buf_size1, atV_len]; simp; omega
    have hA5 : (bI ((atV (m.take i)).set (r * 20 + f) 1)).setIfInBounds (0 + r * 20 + g * 1) (.int .i64 (-1)) = bI (atV (m.take (i + 1))) := by
      rw [bI_set (j := r * 20 + g) (by omega) (by rw [List.length_set, atV_len]; omega), htk, ← atV_snoc _ _ hac hca]; rfl
    have hA6 : 0 + r * 20 + g * 1 < (bI ((atV (m.take i)).set (r * 20 + f) 1)).size := by rw [buf_size1, List.length_set, atV_len]; simp; omega
    clear h1 h2 h3 h4 h6 h7 h9
    ((repeat (first | ((with_reducible refine is_AL ?_); (first | ((with_reducible refine is_guarded ?_); (refine At_guard_t rfl (by decide) rfl ?_)) | ((with_reducible refine is_move ?_); (refine At_plain hF (by (exact (rfl : _ = some (Value.bool _)))) ?_)) | ((with_reducible refine is_bin ?_); (refine At_plain hF (by (exact (rfl : _ = some (Value.bool _)))) ?_)) | ((with_reducible refine is_pick ?_); (refine At_plain hF (by (exact (rfl : _ = some (Value.bool _)))) ?_)) | ((with_reducible refine is_field ?_); (refine At_field hF rfl ?_)) | ((with_reducible refine is_load ?_); (refine At_load hF 0 (by exact rfl) rfl (by (exact (rfl : _ = some (Value.int _ _)))) ?_)) | ((with_reducible refine is_store ?_); (refine At_storeB_0 hF rfl rfl rfl rfl (by simp [Value.one1, epair]) ?_)) | with_reducible refine At_nil ?_)) | ((with_reducible refine is_At ?_); (first | with_reducible refine At_seq ?_; intro K hK | with_reducible refine At_region ?_ | with_reducible refine At_then_n ?_ | with_reducible refine At_go (by assumption) ?_)))); ((with_reducible refine is_alloc ?_); (refine At_alloc hF (by (exact (rfl : _ = List.toArray (_ :: _)))) ?_; intro b10)); (repeat (first | ((with_reducible refine is_AL ?_); (first | ((with_reducible refine is_guarded ?_); (refine At_guard_t rfl (by decide) rfl ?_)) | ((with_reducible refine is_move ?_); (refine At_plain hF (by (exact (rfl : _ = some (Value.bool _)))) ?_)) | ((with_reducible refine is_bin ?_); (refine At_plain hF (by (exact (rfl : _ = some (Value.bool _)))) ?_)) | ((with_reducible refine is_pick ?_); (refine At_plain hF (by (exact (rfl : _ = some (Value.bool _)))) ?_)) | ((with_reducible refine is_field ?_); (refine At_field hF rfl ?_)) | ((with_reducible refine is_load ?_); (refine At_load hF 0 (by exact rfl) rfl (by (exact (rfl : _ = some (Value.int _ _)))) ?_)) | ((with_reducible refine is_store ?_); (refine At_storeB_0 hF rfl rfl rfl rfl (by simp [Value.one1, epair]) ?_)) | with_reducible refine At_nil ?_)) | ((with_reducible refine is_At ?_); (first | with_reducible refine At_seq ?_; intro K hK | with_reducible refine At_region ?_ | with_reducible refine At_then_n ?_ | with_reducible refine At_go (by assumption) ?_)))))
    ((with_reducible refine is_guarded ?_); (refine At_guard hF rfl (by decide) rfl ?_ ?_ <;> (intro hg; try (simp only [decide_eq_true_eq, decide_eq_false_iff_not, beq_iff_eq, bne_iff_ne, beq_eq_false_iff_ne, bne_eq_false_iff_eq, ne_eq, Bool.not_eq_true', Bool.not_eq_false', Bool.not_true, Bool.not_false, Decidable.not_not] at hg); try (exfalso; first | omega | exact hg True.intro))))
    (repeat ((with_reducible refine is_AL ?_); (first | ((with_reducible refine is_guarded ?_); (refine At_guard_t rfl (by decide) rfl ?_)) | ((with_reducible refine is_move ?_); (refine At_plain hF (by (first | exact (rfl : _ = some (Value.int _ _)) | exact (rfl : _ = some (Value.bool _)))) ?_)) | ((with_reducible refine is_bin ?_); (refine At_plain hF (by (exact (rfl : _ = some (Value.bool _)))) ?_)) | ((with_reducible refine is_pick ?_); (refine At_plain hF (by (exact (rfl : _ = some (Value.bool _)))) ?_)) | ((with_reducible refine is_field ?_); (refine At_field hF rfl ?_)) | ((with_reducible refine is_load ?_); (refine At_load hF 0 (by exact rfl) rfl (by (exact (rfl : _ = some (Value.int _ _)))) ?_)))))
    ((with_reducible refine is_guarded ?_); (refine At_guard hF rfl (by decide) rfl ?_ ?_ <;> (intro hg; try (simp only [decide_eq_true_eq, decide_eq_false_iff_not, beq_iff_eq, bne_iff_ne, beq_eq_false_iff_ne, bne_eq_false_iff_eq, ne_eq, Bool.not_eq_true', Bool.not_eq_false', Bool.not_true, Bool.not_false, Decidable.not_not] at hg); try (exfalso; first | omega | exact hg True.intro))))
    (repeat (first | ((with_reducible refine is_AL ?_); (first | ((with_reducible refine is_guarded ?_); (refine At_guard_t rfl (by decide) rfl ?_)) | ((with_reducible refine is_move ?_); (refine At_plain hF (by (first | exact (rfl : _ = some (Value.int _ _)) | exact (rfl : _ = some (Value.bool _)))) ?_)) | ((with_reducible refine is_bin ?_); (refine At_plain hF (by (exact (rfl : _ = some (Value.bool _)))) ?_)) | ((with_reducible refine is_pick ?_); (refine At_plain hF (by (exact (rfl : _ = some (Value.bool _)))) ?_)) | ((with_reducible refine is_field ?_); (refine At_field hF rfl ?_)) | ((with_reducible refine is_load ?_); (refine At_load hF 0 (by exact rfl) rfl (by (exact (rfl : _ = some (Value.int _ _)))) ?_)) | with_reducible refine At_nil ?_)) | ((with_reducible refine is_At ?_); (first | with_reducible refine At_then_n ?_ | with_reducible refine At_go (by assumption) ?_))))
    ((with_reducible refine is_cond ?_); (refine At_cond rfl ?_ ?_ <;> (intro hg; try (simp only [decide_eq_true_eq, decide_eq_false_iff_not, beq_iff_eq, bne_iff_ne, beq_eq_false_iff_ne, bne_eq_false_iff_eq, ne_eq, Bool.not_eq_true', Bool.not_eq_false', Bool.not_true, Bool.not_false, Decidable.not_not] at hg); try (exfalso; first | omega | exact hg True.intro))))
    (repeat (first | ((with_reducible refine is_AL ?_); (first | ((with_reducible refine is_field ?_); (refine At_field hF rfl ?_)) | ((with_reducible refine is_load ?_); (refine At_load hF 0 (by exact rfl) rfl (by (exact (rfl : _ = some (Value.int _ _)))) ?_)) | ((with_reducible refine is_index ?_); (refine At_indexA1 hF rfl rfl rfl rfl (by first | decide | (simp only [TArr.m]; omega)) ?_)))) | ((with_reducible refine is_At ?_); (first | with_reducible refine At_seq ?_; intro K hK | with_reducible refine At_region ?_ | with_reducible refine At_skip ?_ | with_reducible refine At_then_n ?_ | with_reducible refine At_go (by assumption) ?_))))
    refine At_load hF 2 (by exact rfl) rfl hH1 ?_
    (repeat ((with_reducible refine is_AL ?_); (first | ((with_reducible refine is_bin ?_); ((with_reducible refine is_badd ?_); (refine At_add hF rfl rfl (by omega) ?_))) | ((with_reducible refine is_index ?_); (refine At_indexA1 hF rfl rfl rfl rfl (by first | decide | (simp only [TArr.m]; omega)) ?_)))))
    refine At_store_2 hF (by exact rfl) (by exact rfl) hH3 rfl rfl hH2 ?_
    (repeat (first | ((with_reducible refine is_AL ?_); (with_reducible refine At_nil ?_)) | ((with_reducible refine is_At ?_); (first | with_reducible refine At_then_n ?_ | with_reducible refine At_go (by assumption) ?_))))
    refine At_drawE hF 14 [0, 1, 2, 3, 4, 5, 6, 7, 8, 9, 11, 12] [] [10, 13] (.obj b10 (.cells #[.int .i64 (r : Nat), .int .i64 (f : Nat), .int .i64 (g : Nat)] 37 (0, 0)) :: .obj bh (.cells (bI (homV (m.take (i + 1)))) 33 (0, 0)) :: [.row 37 3 enc37 (some bA) c m]) (by kernel_rfl) (by decide +kernel) (by decide +kernel) ?_; simp only [List.drop_succ_cons, List.drop_zero]; (repeat ((with_reducible refine is_AQF ?_); first | refine AQF_early (by decide) (by exact (rfl : _ = some (Oper.mk _ _ _ _ _ _))) (by intro K Q hK; (repeat (first | ((with_reducible refine is_field ?_); (refine At_field hF rfl ?_)) | ((with_reducible refine is_load ?_); (refine At_load hF 0 (by exact rfl) rfl (by (exact (rfl : _ = some (Value.int _ _)))) ?_)) | ((with_reducible refine is_index ?_); (refine At_indexA hF rfl rfl rfl (by first | decide | (simp only [TArr.m]; omega)) ?_)))); exact At_nilK hK) ?_ | refine AQF_late (by decide) (by exact (rfl : _ = some (Oper.mk _ _ _ _ _ _))) (by intro E K Q hK; simp only [List.cons_append, List.nil_append] at hK ⊢; (repeat (first | ((with_reducible refine is_field ?_); (refine At_field hF rfl ?_)) | ((with_reducible refine is_load ?_); (refine At_load hF 0 (by exact rfl) rfl (by (exact (rfl : _ = some (Value.int _ _)))) ?_)) | ((with_reducible refine is_index ?_); (refine At_indexA hF rfl rfl rfl (by first | decide | (simp only [TArr.m]; omega)) ?_)))); exact At_nilK hK) ?_))
    refine AQF_done ?_
    (refine WAt_cons ?_ (by exact (rfl : _ = some (Oper.mk _ _ _ _ _ _))) ?_; (focus (repeat (first | exact List.Sublist.refl _ | exact List.Sublist.slnil | refine List.Sublist.cons_cons _ ?_ | refine List.Sublist.cons _ ?_))); intro K Q hK)
    refine At_store_1 hF (by exact rfl) (by exact rfl) hA3 rfl rfl hA2 ?_
    refine At_nilK (hK _ _ ?_)
    (refine WAt_cons ?_ (by exact (rfl : _ = some (Oper.mk _ _ _ _ _ _))) ?_; (focus (repeat (first | exact List.Sublist.refl _ | exact List.Sublist.slnil | refine List.Sublist.cons_cons _ ?_ | refine List.Sublist.cons _ ?_))); intro K Q hK)
    refine At_store_1 hF (by exact rfl) (by exact rfl) hA6 rfl rfl hA5 ?_
    refine At_nilK (hK _ _ ?_)
    (refine WAt_nil ?_ ?_; (focus (repeat (first | exact List.Sublist.refl _ | exact List.Sublist.slnil | refine List.Sublist.cons_cons _ ?_ | refine List.Sublist.cons _ ?_))))
    (repeat (first | ((with_reducible refine is_AL ?_); (first | ((with_reducible refine is_move ?_); (refine At_plain hF (by (exact (rfl : _ = some (Value.int _ _)))) ?_)) | ((with_reducible refine is_bin ?_); ((with_reducible refine is_badd ?_); (refine At_add hF rfl rfl (by omega) ?_))) | with_reducible refine At_nil ?_)) | ((with_reducible refine is_At ?_); (first | with_reducible refine At_region ?_ | with_reducible refine At_then_n ?_ | with_reducible refine At_inb_n ?_ | with_reducible refine At_go (by assumption) ?_))))
    refine At.sub ?_ (hL (i + 1) _ (by omega) (by omega) ?_)
    · (repeat (first | exact List.Sublist.refl _ | exact List.Sublist.slnil | refine List.Sublist.cons_cons _ ?_ | refine List.Sublist.cons _ ?_))
    · (repeat (first | exact True.intro | (refine And.intro ?_ ?_; focus (show _ = (_ : Value); first | exact rfl | (refine Eq.trans (b := Value.int IntKind.i64 _) rfl (congrArg (Value.int IntKind.i64) ?_); omega)))))
  obtain rfl : i = m.length := by omega
  rw [List.take_length]
  clear hL
  have hAg : ∀ r t, r < 40 → t < n → (bI (atV m))[0 + r * 20 + t * 1]? = some (.int .i64 (atC m (r * 20 + t))) := fun r t hr ht => bI_get (j := r * 20 + t) (by omega) (by rw [atV_len]; omega) (atV_get m _ (by omega))
  have hHg : ∀ t, t < n → (bI (homV m))[t]? = some (.int .i64 (cH m t : Nat)) := fun t ht => bI_get (j := t) rfl (by rw [homV_len]; omega) (homV_get hmem t)
  obtain ⟨hok1, hok2⟩ := hok
  generalize atC m = F at hAg hok2
  (repeat (first | ((with_reducible refine is_AL ?_); (first | ((with_reducible refine is_move ?_); (refine At_plain hF (by (exact (rfl : _ = some (Value.int _ _)))) ?_)) | ((with_reducible refine is_assign ?_); (refine At_plain hF (by (exact (rfl : _ = some (Value.int _ _)))) ?_)) | with_reducible refine At_nil ?_)) | ((with_reducible refine is_At ?_); (first | with_reducible refine At_seq ?_; intro K hK | with_reducible refine At_block ?_ | with_reducible refine At_region ?_ | with_reducible refine At_exit ?_ | with_reducible refine At_then_n ?_ | with_reducible refine At_then_e ?_ | with_reducible refine At_inb_e rfl ?_ | with_reducible refine At_go (by assumption) ?_))))
  refine At_loop (fun t : Nat => [(0, .int .i64 n), (1, .int .i64 kind), (7, ip bh), (8, ip ba), (11, .int .i64 (brN F t)), (83, .int .i64 n), (84, .int .i64 t)]) (fun _ => [.obj ba (.cells (bI (atV m)) 38 (0, 0)), .obj bh (.cells (bI (homV m)) 33 (0, 0))]) (fun t => t ≤ n) (fun t => n - t) 0 ?_ ?_ (Nat.zero_le _) ?_
  · (repeat (first | exact List.Sublist.refl _ | exact List.Sublist.slnil | refine List.Sublist.cons_cons _ ?_ | refine List.Sublist.cons _ ?_))
  · (repeat (first | exact True.intro | (refine And.intro ?_ ?_; focus (show _ = (_ : Value); first | exact rfl | (refine Eq.trans (b := Value.int IntKind.i64 _) rfl (congrArg (Value.int IntKind.i64) ?_); omega)))))
  rintro t ht K hL ρ1
  try dsimp only
  (repeat (first | ((with_reducible refine is_AL ?_); (first | ((with_reducible refine is_bin ?_); (refine At_plain hF (by (exact (rfl : _ = some (Value.bool _)))) ?_)) | with_reducible refine At_nil ?_)) | ((with_reducible refine is_At ?_); (first | with_reducible refine At_seq ?_; intro K hK | with_reducible refine At_region ?_ | with_reducible refine At_then_n ?_ | with_reducible refine At_go (by assumption) ?_))))
  ((with_reducible refine is_cond ?_); (refine At_cond rfl ?_ ?_ <;> (intro hg; try (simp only [decide_eq_true_eq, decide_eq_false_iff_not, beq_iff_eq, bne_iff_ne, beq_eq_false_iff_ne, bne_eq_false_iff_eq, ne_eq, Bool.not_eq_true', Bool.not_eq_false', Bool.not_true, Bool.not_false, Decidable.not_not] at hg); try (exfalso; first | omega | exact hg True.intro))))
  · have hlt : t < n := by omega
    have hbn := brN_le F t
    have ht20 : t < 20 := by omega
    have hho := hok1 t hlt
    have hH := hHg t hlt
    (repeat (first | ((with_reducible refine is_AL ?_); (first | ((with_reducible refine is_move ?_); (refine At_plain hF (by (exact (rfl : _ = some (Value.int _ _)))) ?_)) | ((with_reducible refine is_assign ?_); (refine At_plain hF (by (exact (rfl : _ = some (Value.int _ _)))) ?_)) | with_reducible refine At_nil ?_)) | ((with_reducible refine is_At ?_); (first | with_reducible refine At_seq ?_; intro K hK | with_reducible refine At_block ?_ | with_reducible refine At_region ?_ | with_reducible refine At_skip ?_ | with_reducible refine At_then_n ?_ | with_reducible refine At_go (by assumption) ?_))))
    refine At_loop (fun r : Nat => [(0, .int .i64 n), (1, .int .i64 kind), (7, ip bh), (8, ip ba), (11, .int .i64 ((brN F t + brT F t r : Nat) : Int)), (12, .int .i64 t), (83, .int .i64 n), (84, .int .i64 t), (87, .int .i64 r)]) (fun _ => [.obj ba (.cells (bI (atV m)) 38 (0, 0)), .obj bh (.cells (bI (homV m)) 33 (0, 0))]) (fun r => r ≤ 39) (fun r => 39 - r) 0 ?_ ?_ (Nat.zero_le _) ?_
    · (repeat (first | exact List.Sublist.refl _ | exact List.Sublist.slnil | refine List.Sublist.cons_cons _ ?_ | refine List.Sublist.cons _ ?_))
    · (repeat (first | exact True.intro | (refine And.intro ?_ ?_; focus (show _ = (_ : Value); first | exact rfl | (refine Eq.trans (b := Value.int IntKind.i64 _) rfl (congrArg (Value.int IntKind.i64) ?_); omega)))))
    rintro r hr K2 hL2 ρ2
    try dsimp only
    (repeat (first | ((with_reducible refine is_AL ?_); (first | ((with_reducible refine is_bin ?_); (refine At_plain hF (by (exact (rfl : _ = some (Value.bool _)))) ?_)) | with_reducible refine At_nil ?_)) | ((with_reducible refine is_At ?_); (first | with_reducible refine At_seq ?_; intro K hK | with_reducible refine At_region ?_ | with_reducible refine At_then_n ?_ | with_reducible refine At_go (by assumption) ?_))))
    ((with_reducible refine is_cond ?_); (refine At_cond rfl ?_ ?_ <;> (intro hg; try (simp only [decide_eq_true_eq, decide_eq_false_iff_not, beq_iff_eq, bne_iff_ne, beq_eq_false_iff_ne, bne_eq_false_iff_eq, ne_eq, Bool.not_eq_true', Bool.not_eq_false', Bool.not_true, Bool.not_false, Decidable.not_not] at hg); try (exfalso; first | omega | exact hg True.intro))))
    · have hlr : r < 39 := by omega
      have h1 := hAg r t (by omega) hlt
      have h2 := hAg (r + 1) t (by omega) hlt
      have hbt := brT_le F t r
      have hr40 : r < 40 := by omega
      have hr41 : r + 1 < 40 := by omega
      have hst : brT F t (r + 1) = brT F t r + if F (r * 20 + t) ≠ 0 ∧ F (r * 20 + t) = F ((r + 1) * 20 + t) then 1 else 0 := rfl
      generalize F (r * 20 + t) = v at h1 hst
      generalize F ((r + 1) * 20 + t) = v' at h2 hst
      (repeat (first | ((with_reducible refine is_AL ?_); (first | ((with_reducible refine is_move ?_); (refine At_plain hF (by (exact (rfl : _ = some (Value.int _ _)))) ?_)) | ((with_reducible refine is_assign ?_); (refine At_plain hF (by (exact (rfl : _ = some (Value.int _ _)))) ?_)) | with_reducible refine At_nil ?_)) | ((with_reducible refine is_At ?_); (first | with_reducible refine At_seq ?_; intro K hK | with_reducible refine At_block ?_ | with_reducible refine At_region ?_ | with_reducible refine At_skip ?_ | with_reducible refine At_then_n ?_ | with_reducible refine At_go (by assumption) ?_))))
      refine At_drawM hF 20 (by kernel_rfl) (by decide +kernel) ?_; simp only [List.take_succ_cons, List.take_zero, List.drop_succ_cons, List.drop_zero]; (repeat ((with_reducible refine is_AQc ?_); refine AQ_cons (by intro K Q hK; (repeat (first | ((with_reducible refine is_move ?_); (refine At_plain hF (by (exact (rfl : _ = some (Value.int _ _)))) ?_)) | ((with_reducible refine is_index ?_); (refine At_indexA hF rfl rfl rfl (by first | decide | (simp only [TArr.m]; omega)) ?_)))); exact At_nilK hK) ?_))
      refine AQ_cons (by intro K Q' hK; refine At_load hF 0 (by exact rfl) rfl h1 ?_; exact At_nilK hK) ?_
      (repeat ((with_reducible refine is_AQc ?_); refine AQ_cons (by intro K Q hK; (repeat (first | ((with_reducible refine is_move ?_); (refine At_plain hF (by (exact (rfl : _ = some (Value.bool _)))) ?_)) | ((with_reducible refine is_bin ?_); (refine At_plain hF (by (exact (rfl : _ = some (Value.bool _)))) ?_)))); exact At_nilK hK) ?_))
      by_cases z1 : v = 0
      · rw [show (v != 0) = false by simp [z1]]
        (repeat ((with_reducible refine is_AQc ?_); refine AQ_cons (by intro K Q hK; (repeat (first | ((with_reducible refine is_guarded ?_); (refine At_guard_f hF rfl (by decide) rfl rfl ?_)) | ((with_reducible refine is_pick ?_); (refine At_plain hF (by (exact (rfl : _ = some (Value.bool _)))) ?_)))); exact At_nilK hK) ?_)); refine AQ_done ?_
        (repeat (first | ((with_reducible refine is_AL ?_); (first | ((with_reducible refine is_move ?_); (refine At_plain hF (by (exact (rfl : _ = some (Value.int _ _)))) ?_)) | ((with_reducible refine is_bin ?_); ((with_reducible refine is_badd ?_); (refine At_add hF rfl rfl (by omega) ?_))) | with_reducible refine At_nil ?_)) | ((with_reducible refine is_At ?_); (first | with_reducible refine At_region ?_ | with_reducible refine At_skip ?_ | with_reducible refine At_then_n ?_ | with_reducible refine At_inb_n ?_ | with_reducible refine At_go (by assumption) ?_ | ((with_reducible refine is_cond ?_); (refine At_cond_f rfl ?_))))))
        refine At.sub ?_ (hL2 (r + 1) _ (by omega) (by omega) ?_)
        · (repeat (first | exact List.Sublist.refl _ | exact List.Sublist.slnil | refine List.Sublist.cons_cons _ ?_ | refine List.Sublist.cons _ ?_))
        · rw [hst, if_neg (fun h => h.1 z1)]
          (repeat (first | exact True.intro | (refine And.intro ?_ ?_; focus (show _ = (_ : Value); first | exact rfl | (refine Eq.trans (b := Value.int IntKind.i64 _) rfl (congrArg (Value.int IntKind.i64) ?_); omega)))))
      · rw [show (v != 0) = true by simp [z1]]
        (repeat ((with_reducible refine is_AQc ?_); refine AQ_cons (by intro K Q hK; (repeat (first | ((with_reducible refine is_guarded ?_); (refine At_guard_t rfl (by decide) rfl ?_)) | ((with_reducible refine is_move ?_); (refine At_plain hF (by (exact (rfl : _ = some (Value.int _ _)))) ?_)) | ((with_reducible refine is_index ?_); (refine At_indexA hF rfl rfl rfl (by first | decide | (simp only [TArr.m]; omega)) ?_)))); exact At_nilK hK) ?_))
        refine AQ_cons (by intro K Q' hK; refine At_guard_t rfl (by decide) rfl ?_; refine At_load hF 0 (by exact rfl) rfl h1 ?_; exact At_nilK hK) ?_
        (repeat ((with_reducible refine is_AQc ?_); refine AQ_cons (by intro K Q hK; (repeat (first | ((with_reducible refine is_guarded ?_); (refine At_guard_t rfl (by decide) rfl ?_)) | ((with_reducible refine is_move ?_); (refine At_plain hF (by (exact (rfl : _ = some (Value.int _ _)))) ?_)) | ((with_reducible refine is_bin ?_); ((with_reducible refine is_badd ?_); (refine At_add hF rfl rfl (by omega) ?_))) | ((with_reducible refine is_index ?_); (refine At_indexA hF rfl rfl rfl (by first | decide | (simp only [TArr.m]; omega)) ?_)))); exact At_nilK hK) ?_))
        rw [show (r : Int) + 1 = ((r + 1 : Nat) : Int) by omega]
        (repeat ((with_reducible refine is_AQc ?_); refine AQ_cons (by intro K Q hK; (repeat ((with_reducible refine is_guarded ?_); (refine At_guard_t rfl (by decide) rfl ?_))); exact At_nilK hK) ?_))
        refine AQ_cons (by intro K Q' hK; refine At_guard_t rfl (by decide) rfl ?_; refine At_load hF 0 (by exact rfl) rfl h2 ?_; exact At_nilK hK) ?_
        (repeat ((with_reducible refine is_AQc ?_); refine AQ_cons (by intro K Q hK; (repeat (first | ((with_reducible refine is_guarded ?_); (refine At_guard_t rfl (by decide) rfl ?_)) | ((with_reducible refine is_bin ?_); (refine At_plain hF (by (exact (rfl : _ = some (Value.bool _)))) ?_)) | ((with_reducible refine is_pick ?_); (refine At_plain hF (by (exact (rfl : _ = some (Value.bool _)))) ?_)))); exact At_nilK hK) ?_)); refine AQ_done ?_
        by_cases z2 : v = v'
        · rw [show (v == v') = true by simp [z2]]
          (repeat (first | ((with_reducible refine is_AL ?_); (first | ((with_reducible refine is_move ?_); (refine At_plain hF (by (exact (rfl : _ = some (Value.int _ _)))) ?_)) | ((with_reducible refine is_bin ?_); ((with_reducible refine is_badd ?_); (refine At_add hF rfl rfl (by omega) ?_))) | ((with_reducible refine is_assign ?_); (refine At_plain hF (by (exact (rfl : _ = some (Value.int _ _)))) ?_)) | with_reducible refine At_nil ?_)) | ((with_reducible refine is_At ?_); (first | with_reducible refine At_region ?_ | with_reducible refine At_then_n ?_ | with_reducible refine At_inb_n ?_ | with_reducible refine At_go (by assumption) ?_ | ((with_reducible refine is_cond ?_); (refine At_cond_t rfl ?_))))))
          refine At.sub ?_ (hL2 (r + 1) _ (by omega) (by omega) ?_)
          · (repeat (first | exact List.Sublist.refl _ | exact List.Sublist.slnil | refine List.Sublist.cons_cons _ ?_ | refine List.Sublist.cons _ ?_))
          · rw [hst, if_pos ⟨z1, z2⟩]
            (repeat (first | exact True.intro | (refine And.intro ?_ ?_; focus (show _ = (_ : Value); first | exact rfl | (refine Eq.trans (b := Value.int IntKind.i64 _) rfl (congrArg (Value.int IntKind.i64) ?_); omega)))))
        · rw [show (v == v') = false by simp [z2]]
          (repeat (first | ((with_reducible refine is_AL ?_); (first | ((with_reducible refine is_move ?_); (refine At_plain hF (by (exact (rfl : _ = some (Value.int _ _)))) ?_)) | ((with_reducible refine is_bin ?_); ((with_reducible refine is_badd ?_); (refine At_add hF rfl rfl (by omega) ?_))) | with_reducible refine At_nil ?_)) | ((with_reducible refine is_At ?_); (first | with_reducible refine At_region ?_ | with_reducible refine At_skip ?_ | with_reducible refine At_then_n ?_ | with_reducible refine At_inb_n ?_ | with_reducible refine At_go (by assumption) ?_ | ((with_reducible refine is_cond ?_); (refine At_cond_f rfl ?_))))))
          refine At.sub ?_ (hL2 (r + 1) _ (by omega) (by omega) ?_)
          · (repeat (first | exact List.Sublist.refl _ | exact List.Sublist.slnil | refine List.Sublist.cons_cons _ ?_ | refine List.Sublist.cons _ ?_))
          · rw [hst, if_neg (fun h => z2 h.2)]
            (repeat (first | exact True.intro | (refine And.intro ?_ ?_; focus (show _ = (_ : Value); first | exact rfl | (refine Eq.trans (b := Value.int IntKind.i64 _) rfl (congrArg (Value.int IntKind.i64) ?_); omega)))))
    obtain rfl : r = 39 := by omega
    clear hL2
    have hbs : brN F t + brT F t 39 = brN F (t + 1) := rfl
    rw [hbs]
    have hcl := cH_le m t
    unfold homeOk at hho
    by_cases hk1 : kind = 1
    · rw [if_neg (fun h => h hk1)] at hho
      have e1 : (kind != 1) = false := by simp [hk1]
      by_cases hp : n % 2 = 1
      · rw [if_pos hp] at hho
        have e2 : ((n : Int) % 2 == 1) = true := by rw [beq_iff_eq]; omega
        (repeat (first | ((with_reducible refine is_AL ?_); (first | ((with_reducible refine is_move ?_); (refine At_plain hF (by (exact (rfl : _ = some (Value.int _ _)))) ?_)) | ((with_reducible refine is_bin ?_); (refine At_plain hF (by (exact (rfl : _ = some (Value.bool _)))) ?_)) | ((with_reducible refine is_assign ?_); (refine At_plain hF (by (exact (rfl : _ = some (Value.bool _)))) ?_)) | with_reducible refine At_nil ?_)) | ((with_reducible refine is_At ?_); (first | with_reducible refine At_seq ?_; intro K hK | with_reducible refine At_block ?_ | with_reducible refine At_region ?_ | with_reducible refine At_exit ?_ | with_reducible refine At_then_n ?_ | with_reducible refine At_then_e ?_ | with_reducible refine At_inb_e rfl ?_ | with_reducible refine At_go (by assumption) ?_))))
        rw [e1]
        (repeat (first | ((with_reducible refine is_AL ?_); (first | ((with_reducible refine is_move ?_); (refine At_plain hF (by (exact (rfl : _ = some (Value.int _ _)))) ?_)) | ((with_reducible refine is_bin ?_); (first | ((with_reducible refine is_brem ?_); (refine At_rem hF rfl rfl (by omega) ?_)) | refine At_plain hF (by (exact (rfl : _ = some (Value.bool _)))) ?_)) | ((with_reducible refine is_assign ?_); (refine At_plain hF (by (exact (rfl : _ = some (Value.bool _)))) ?_)) | with_reducible refine At_nil ?_)) | ((with_reducible refine is_At ?_); (first | with_reducible refine At_seq ?_; intro K hK | with_reducible refine At_region ?_ | with_reducible refine At_then_n ?_ | with_reducible refine At_go (by assumption) ?_ | ((with_reducible refine is_cond ?_); (refine At_cond_f rfl ?_))))))
        rw [e2]
        (repeat (first | ((with_reducible refine is_AL ?_); (first | ((with_reducible refine is_move ?_); (refine At_plain hF (by (exact (rfl : _ = some (Value.int _ _)))) ?_)) | ((with_reducible refine is_index ?_); (refine At_indexA1 hF rfl rfl rfl rfl (by first | decide | (simp only [TArr.m]; omega)) ?_)))) | ((with_reducible refine is_At ?_); (first | with_reducible refine At_seq ?_; intro K hK | with_reducible refine At_region ?_ | ((with_reducible refine is_cond ?_); (refine At_cond_t rfl ?_))))))
        refine At_load hF 1 (by exact rfl) rfl hH ?_
        (repeat (first | ((with_reducible refine is_AL ?_); (first | ((with_reducible refine is_move ?_); (refine At_plain hF (by (exact (rfl : _ = some (Value.int _ _)))) ?_)) | ((with_reducible refine is_bin ?_); (first | ((with_reducible refine is_bsub ?_); (refine At_sub hF rfl rfl (by omega) ?_)) | ((with_reducible refine is_bquo ?_); (refine At_quo hF rfl rfl (by omega) ?_)) | refine At_plain hF (by (exact (rfl : _ = some (Value.bool _)))) ?_)) | with_reducible refine At_nil ?_)) | ((with_reducible refine is_At ?_); (first | with_reducible refine At_then_n ?_ | with_reducible refine At_go (by assumption) ?_))))
        ((with_reducible refine is_cond ?_); (refine At_cond rfl ?_ ?_ <;> (intro hg; try (simp only [decide_eq_true_eq, decide_eq_false_iff_not, beq_iff_eq, bne_iff_ne, beq_eq_false_iff_ne, bne_eq_false_iff_eq, ne_eq, Bool.not_eq_true', Bool.not_eq_false', Bool.not_true, Bool.not_false, Decidable.not_not] at hg); try (exfalso; first | omega | exact hg True.intro))))
        (repeat (first | ((with_reducible refine is_AL ?_); (first | ((with_reducible refine is_move ?_); (refine At_plain hF (by (exact (rfl : _ = some (Value.int _ _)))) ?_)) | ((with_reducible refine is_bin ?_); ((with_reducible refine is_badd ?_); (refine At_add hF rfl rfl (by omega) ?_))) | with_reducible refine At_nil ?_)) | ((with_reducible refine is_At ?_); (first | with_reducible refine At_region ?_ | with_reducible refine At_skip ?_ | with_reducible refine At_then_n ?_ | with_reducible refine At_inb_n ?_ | with_reducible refine At_go (by assumption) ?_))))
        refine At.sub ?_ (hL (t + 1) _ (by omega) (by omega) ?_)
        · (repeat (first | exact List.Sublist.refl _ | exact List.Sublist.slnil | refine List.Sublist.cons_cons _ ?_ | refine List.Sublist.cons _ ?_))
        · (repeat (first | exact True.intro | (refine And.intro ?_ ?_; focus (show _ = (_ : Value); first | exact rfl | (refine Eq.trans (b := Value.int IntKind.i64 _) rfl (congrArg (Value.int IntKind.i64) ?_); omega)))))
      · rw [if_neg hp] at hho
        have e2 : ((n : Int) % 2 == 1) = false := by rw [beq_eq_false_iff_ne]; omega
        (repeat (first | ((with_reducible refine is_AL ?_); (first | ((with_reducible refine is_move ?_); (refine At_plain hF (by (exact (rfl : _ = some (Value.int _ _)))) ?_)) | ((with_reducible refine is_bin ?_); (refine At_plain hF (by (exact (rfl : _ = some (Value.bool _)))) ?_)) | ((with_reducible refine is_assign ?_); (refine At_plain hF (by (exact (rfl : _ = some (Value.bool _)))) ?_)) | with_reducible refine At_nil ?_)) | ((with_reducible refine is_At ?_); (first | with_reducible refine At_seq ?_; intro K hK | with_reducible refine At_block ?_ | with_reducible refine At_region ?_ | with_reducible refine At_exit ?_ | with_reducible refine At_then_n ?_ | with_reducible refine At_then_e ?_ | with_reducible refine At_inb_e rfl ?_ | with_reducible refine At_go (by assumption) ?_))))
        rw [e1]
        (repeat (first | ((with_reducible refine is_AL ?_); (first | ((with_reducible refine is_move ?_); (refine At_plain hF (by (exact (rfl : _ = some (Value.int _ _)))) ?_)) | ((with_reducible refine is_bin ?_); (first | ((with_reducible refine is_brem ?_); (refine At_rem hF rfl rfl (by omega) ?_)) | refine At_plain hF (by (exact (rfl : _ = some (Value.bool _)))) ?_)) | ((with_reducible refine is_assign ?_); (refine At_plain hF (by (exact (rfl : _ = some (Value.bool _)))) ?_)) | with_reducible refine At_nil ?_)) | ((with_reducible refine is_At ?_); (first | with_reducible refine At_seq ?_; intro K hK | with_reducible refine At_region ?_ | with_reducible refine At_then_n ?_ | with_reducible refine At_go (by assumption) ?_ | ((with_reducible refine is_cond ?_); (refine At_cond_f rfl ?_))))))
        rw [e2]
        (repeat (first | ((with_reducible refine is_AL ?_); (first | ((with_reducible refine is_move ?_); (refine At_plain hF (by (exact (rfl : _ = some (Value.int _ _)))) ?_)) | ((with_reducible refine is_index ?_); (refine At_indexA1 hF rfl rfl rfl rfl (by first | decide | (simp only [TArr.m]; omega)) ?_)))) | ((with_reducible refine is_At ?_); (first | with_reducible refine At_seq ?_; intro K hK | with_reducible refine At_region ?_ | ((with_reducible refine is_cond ?_); (refine At_cond_f rfl ?_))))))
        refine At_load hF 1 (by exact rfl) rfl hH ?_
        (repeat ((with_reducible refine is_AL ?_); (first | ((with_reducible refine is_move ?_); (refine At_plain hF (by (first | exact (rfl : _ = some (Value.int _ _)) | exact (rfl : _ = some (Value.bool _)))) ?_)) | ((with_reducible refine is_bin ?_); (first | ((with_reducible refine is_bquo ?_); (refine At_quo hF rfl rfl (by omega) ?_)) | refine At_plain hF (by (exact (rfl : _ = some (Value.bool _)))) ?_)))))
        by_cases z : ((cH m t : Nat) : Int) = (n : Int) / 2
        · have e3 : (((cH m t : Nat) : Int) != (n : Int) / 2) = false := by simp [z]
          rw [e3]
          (repeat (first | ((with_reducible refine is_AL ?_); (first | ((with_reducible refine is_guarded ?_); (refine At_guard_f hF rfl (by decide) rfl rfl ?_)) | ((with_reducible refine is_move ?_); (refine At_plain hF (by (exact (rfl : _ = some (Value.int _ _)))) ?_)) | ((with_reducible refine is_bin ?_); ((with_reducible refine is_badd ?_); (refine At_add hF rfl rfl (by omega) ?_))) | ((with_reducible refine is_assign ?_); (refine At_plain hF (by (exact (rfl : _ = some (Value.bool _)))) ?_)) | ((with_reducible refine is_pick ?_); (refine At_plain hF (by (exact (rfl : _ = some (Value.bool _)))) ?_)) | with_reducible refine At_nil ?_)) | ((with_reducible refine is_At ?_); (first | with_reducible refine At_region ?_ | with_reducible refine At_skip ?_ | with_reducible refine At_then_n ?_ | with_reducible refine At_inb_n ?_ | with_reducible refine At_go (by assumption) ?_ | ((with_reducible refine is_cond ?_); (refine At_cond_f rfl ?_))))))
          refine At.sub ?_ (hL (t + 1) _ (by omega) (by omega) ?_)
          · (repeat (first | exact List.Sublist.refl _ | exact List.Sublist.slnil | refine List.Sublist.cons_cons _ ?_ | refine List.Sublist.cons _ ?_))
          · (repeat (first | exact True.intro | (refine And.intro ?_ ?_; focus (show _ = (_ : Value); first | exact rfl | (refine Eq.trans (b := Value.int IntKind.i64 _) rfl (congrArg (Value.int IntKind.i64) ?_); omega)))))
        · have e3 : (((cH m t : Nat) : Int) != (n : Int) / 2) = true := by simp [z]
          rw [e3]
          (repeat ((with_reducible refine is_AL ?_); (first | ((with_reducible refine is_guarded ?_); (refine At_guard_t rfl (by decide) rfl ?_)) | ((with_reducible refine is_move ?_); (refine At_plain hF (by (exact (rfl : _ = some (Value.int _ _)))) ?_)) | ((with_reducible refine is_index ?_); (refine At_indexA1 hF rfl rfl rfl rfl (by first | decide | (simp only [TArr.m]; omega)) ?_)))))
          refine At_load hF 1 (by exact rfl) rfl hH ?_
          (repeat (first | ((with_reducible refine is_AL ?_); (first | ((with_reducible refine is_guarded ?_); (refine At_guard_t rfl (by decide) rfl ?_)) | ((with_reducible refine is_move ?_); (refine At_plain hF (by (exact (rfl : _ = some (Value.int _ _)))) ?_)) | ((with_reducible refine is_bin ?_); (first | ((with_reducible refine is_bsub ?_); (refine At_sub hF rfl rfl (by omega) ?_)) | ((with_reducible refine is_bquo ?_); (refine At_quo hF rfl rfl (by omega) ?_)) | refine At_plain hF (by (exact (rfl : _ = some (Value.bool _)))) ?_)) | ((with_reducible refine is_assign ?_); (refine At_plain hF (by (exact (rfl : _ = some (Value.bool _)))) ?_)) | ((with_reducible refine is_pick ?_); (refine At_plain hF (by (exact (rfl : _ = some (Value.bool _)))) ?_)) | with_reducible refine At_nil ?_)) | ((with_reducible refine is_At ?_); (first | with_reducible refine At_then_n ?_ | with_reducible refine At_go (by assumption) ?_))))
          ((with_reducible refine is_cond ?_); (refine At_cond rfl ?_ ?_ <;> (intro hg; try (simp only [decide_eq_true_eq, decide_eq_false_iff_not, beq_iff_eq, bne_iff_ne, beq_eq_false_iff_ne, bne_eq_false_iff_eq, ne_eq, Bool.not_eq_true', Bool.not_eq_false', Bool.not_true, Bool.not_false, Decidable.not_not] at hg); try (exfalso; first | omega | exact hg True.intro))))
          (repeat (first | ((with_reducible refine is_AL ?_); (first | ((with_reducible refine is_move ?_); (refine At_plain hF (by (exact (rfl : _ = some (Value.int _ _)))) ?_)) | ((with_reducible refine is_bin ?_); ((with_reducible refine is_badd ?_); (refine At_add hF rfl rfl (by omega) ?_))) | with_reducible refine At_nil ?_)) | ((with_reducible refine is_At ?_); (first | with_reducible refine At_region ?_ | with_reducible refine At_skip ?_ | with_reducible refine At_then_n ?_ | with_reducible refine At_inb_n ?_ | with_reducible refine At_go (by assumption) ?_))))
          refine At.sub ?_ (hL (t + 1) _ (by omega) (by omega) ?_)
          · (repeat (first | exact List.Sublist.refl _ | exact List.Sublist.slnil | refine List.Sublist.cons_cons _ ?_ | refine List.Sublist.cons _ ?_))
          · (repeat (first | exact True.intro | (refine And.intro ?_ ?_; focus (show _ = (_ : Value); first | exact rfl | (refine Eq.trans (b := Value.int IntKind.i64 _) rfl (congrArg (Value.int IntKind.i64) ?_); omega)))))
    · rw [if_pos hk1] at hho
      have e1 : (kind != 1) = true := by simp [hk1]
      (repeat (first | ((with_reducible refine is_AL ?_); (first | ((with_reducible refine is_move ?_); (refine At_plain hF (by (exact (rfl : _ = some (Value.int _ _)))) ?_)) | ((with_reducible refine is_bin ?_); (refine At_plain hF (by (exact (rfl : _ = some (Value.bool _)))) ?_)) | ((with_reducible refine is_assign ?_); (refine At_plain hF (by (exact (rfl : _ = some (Value.bool _)))) ?_)) | with_reducible refine At_nil ?_)) | ((with_reducible refine is_At ?_); (first | with_reducible refine At_seq ?_; intro K hK | with_reducible refine At_block ?_ | with_reducible refine At_region ?_ | with_reducible refine At_exit ?_ | with_reducible refine At_then_n ?_ | with_reducible refine At_then_e ?_ | with_reducible refine At_inb_e rfl ?_ | with_reducible refine At_go (by assumption) ?_))))
      rw [e1]
      (repeat (first | ((with_reducible refine is_AL ?_); (first | ((with_reducible refine is_move ?_); (refine At_plain hF (by (exact (rfl : _ = some (Value.int _ _)))) ?_)) | ((with_reducible refine is_index ?_); (refine At_indexA1 hF rfl rfl rfl rfl (by first | decide | (simp only [TArr.m]; omega)) ?_)))) | ((with_reducible refine is_At ?_); (first | with_reducible refine At_seq ?_; intro K hK | with_reducible refine At_region ?_ | ((with_reducible refine is_cond ?_); (refine At_cond_t rfl ?_))))))
      refine At_load hF 1 (by exact rfl) rfl hH ?_
      (repeat (first | ((with_reducible refine is_AL ?_); (first | ((with_reducible refine is_move ?_); (refine At_plain hF (by (exact (rfl : _ = some (Value.int _ _)))) ?_)) | ((with_reducible refine is_bin ?_); (first | ((with_reducible refine is_bsub ?_); (refine At_sub hF rfl rfl (by omega) ?_)) | refine At_plain hF (by (exact (rfl : _ = some (Value.bool _)))) ?_)) | with_reducible refine At_nil ?_)) | ((with_reducible refine is_At ?_); (first | with_reducible refine At_then_n ?_ | with_reducible refine At_go (by assumption) ?_))))
      ((with_reducible refine is_cond ?_); (refine At_cond rfl ?_ ?_ <;> (intro hg; try (simp only [decide_eq_true_eq, decide_eq_false_iff_not, beq_iff_eq, bne_iff_ne, beq_eq_false_iff_ne, bne_eq_false_iff_eq, ne_eq, Bool.not_eq_true', Bool.not_eq_false', Bool.not_true, Bool.not_false, Decidable.not_not] at hg); try (exfalso; first | omega | exact hg True.intro))))
      (repeat (first | ((with_reducible refine is_AL ?_); (first | ((with_reducible refine is_move ?_); (refine At_plain hF (by (exact (rfl : _ = some (Value.int _ _)))) ?_)) | ((with_reducible refine is_bin ?_); ((with_reducible refine is_badd ?_); (refine At_add hF rfl rfl (by omega) ?_))) | with_reducible refine At_nil ?_)) | ((with_reducible refine is_At ?_); (first | with_reducible refine At_region ?_ | with_reducible refine At_skip ?_ | with_reducible refine At_then_n ?_ | with_reducible refine At_inb_n ?_ | with_reducible refine At_go (by assumption) ?_))))
      refine At.sub ?_ (hL (t + 1) _ (by omega) (by omega) ?_)
      · (repeat (first | exact List.Sublist.refl _ | exact List.Sublist.slnil | refine List.Sublist.cons_cons _ ?_ | refine List.Sublist.cons _ ?_))
      · (repeat (first | exact True.intro | (refine And.intro ?_ ?_; focus (show _ = (_ : Value); first | exact rfl | (refine Eq.trans (b := Value.int IntKind.i64 _) rfl (congrArg (Value.int IntKind.i64) ?_); omega)))))
  obtain rfl : t = n := by omega
  clear hL
  by_cases hk1 : kind = 1
  · have e1 : (kind != 1) = false := by simp [hk1]
    have hb := hok2 hk1
    (repeat (first | ((with_reducible refine is_AL ?_); (first | ((with_reducible refine is_move ?_); (refine At_plain hF (by (first | exact (rfl : _ = some (Value.int _ _)) | exact (rfl : _ = some (Value.bool _)))) ?_)) | ((with_reducible refine is_bin ?_); (refine At_plain hF (by (exact (rfl : _ = some (Value.bool _)))) ?_)))) | ((with_reducible refine is_At ?_); (first | with_reducible refine At_seq ?_; intro K hK | with_reducible refine At_region ?_ | with_reducible refine At_exit ?_ | with_reducible refine At_then_n ?_ | with_reducible refine At_then_e ?_ | with_reducible refine At_inb_e rfl ?_ | with_reducible refine At_go (by assumption) ?_))))
    rw [e1]
    (repeat (first | ((with_reducible refine is_AL ?_); (first | ((with_reducible refine is_guarded ?_); (refine At_guard_t rfl (by decide) rfl ?_)) | ((with_reducible refine is_move ?_); (refine At_plain hF (by (exact (rfl : _ = some (Value.int _ _)))) ?_)) | ((with_reducible refine is_bin ?_); (first | ((with_reducible refine is_bsub ?_); (refine At_sub hF rfl rfl (by omega) ?_)) | ((with_reducible refine is_brem ?_); (refine At_rem hF rfl rfl (by omega) ?_)) | refine At_plain hF (by (first | exact (rfl : _ = some (Value.int _ _)) | exact (rfl : _ = some (Value.bool _)))) ?_)) | ((with_reducible refine is_assign ?_); (refine At_plain hF (by (exact (rfl : _ = some (Value.bool _)))) ?_)) | ((with_reducible refine is_pick ?_); (refine At_plain hF (by (exact (rfl : _ = some (Value.bool _)))) ?_)) | with_reducible refine At_nil ?_)) | ((with_reducible refine is_At ?_); (first | with_reducible refine At_ret ?_ | with_reducible refine At_then_n ?_ | with_reducible refine At_go (by assumption) ?_))))
    have ew : (((brN F t : Nat) : Int) == IntKind.i64.wrap (((t : Int) - 2) * (1 - (t : Int) % 2))) = true := by
      rw [beq_iff_eq, hb]
      rcases (by omega : t % 2 = 0 ∨ t % 2 = 1) with h | h
      · rw [h, show (t : Int) % 2 = 0 by omega, XW.wrap64_in (by omega) (by omega)]; omega
      · rw [h, show (t : Int) % 2 = 1 by omega, XW.wrap64_in (by omega) (by omega)]; omega
    exact At_ret1 rfl (rv_tmp (by decide)) (fun w' hw' => ⟨_, rfl, congrArg Value.bool ew, hw'.below⟩)
  · have e1 : (kind != 1) = true := by simp [hk1]
    (repeat (first | ((with_reducible refine is_AL ?_); (first | ((with_reducible refine is_move ?_); (refine At_plain hF (by (first | exact (rfl : _ = some (Value.int _ _)) | exact (rfl : _ = some (Value.bool _)))) ?_)) | ((with_reducible refine is_bin ?_); (refine At_plain hF (by (exact (rfl : _ = some (Value.bool _)))) ?_)))) | ((with_reducible refine is_At ?_); (first | with_reducible refine At_seq ?_; intro K hK | with_reducible refine At_region ?_ | with_reducible refine At_exit ?_ | with_reducible refine At_then_n ?_ | with_reducible refine At_then_e ?_ | with_reducible refine At_inb_e rfl ?_ | with_reducible refine At_go (by assumption) ?_))))
    rw [e1]
    (repeat (first | ((with_reducible refine is_AL ?_); (first | ((with_reducible refine is_guarded ?_); (refine At_guard_f hF rfl (by decide) rfl rfl ?_)) | ((with_reducible refine is_assign ?_); (refine At_plain hF (by (exact (rfl : _ = some (Value.bool _)))) ?_)) | ((with_reducible refine is_pick ?_); (refine At_plain hF (by (exact (rfl : _ = some (Value.bool _)))) ?_)) | with_reducible refine At_nil ?_)) | ((with_reducible refine is_At ?_); (first | with_reducible refine At_ret ?_ | with_reducible refine At_then_n ?_ | with_reducible refine At_go (by assumption) ?_))))
    exact At_ret1 rfl (rv_tmp (by decide)) (fun w' hw' => ⟨_, rfl, rfl, hw'.below⟩)
end Go.Proofs.Ythddaojdlfifeaa.P

/- RobinBalance: the contract. -/
namespace Go.Proofs.Ythddaojdlfifeaa.P
open Go.RowKit Go.Proofs.YthddaojdlfifeaaW.PrintWords Go.Proofs.YthddaojdlfifeaaW.PrintLast Go.Proofs.YthddaojdlfifeaaW.PrintMore
open XW RegInv
attribute [local irreducible] Addr.add
set_option linter.unusedSimpArgs false
set_option linter.unusedVariables false

set_option maxHeartbeats 4000000 in
set_option maxRecDepth 100000 in
theorem bal_bad (w0 : World) (n kind : Int) (h : ¬ rightR n kind) : Rets Try.prog 6 #[.int .i64 n, .int .i64 kind] w0 fun u w' => u = .bool true ∧ Below w0.heap.size w0 w' := by
  have hF := wide_wide
  have hrt := right_of n kind
  rw [decide_eq_false h] at hrt
  refine rets_at (n := 162) Try.func6 rfl Try.ntmps6 (by simp) ?_
  (repeat (first | ((with_reducible refine is_AL ?_); (first | ((with_reducible refine is_assign ?_); (refine At_plain hF (by (exact (rfl : _ = some (Value.bool _)))) ?_)) | with_reducible refine At_nil ?_)) | ((with_reducible refine is_At ?_); (first | with_reducible refine At_seq ?_; intro K hK | with_reducible refine At_region ?_ | with_reducible refine At_then_n ?_ | with_reducible refine At_go (by assumption) ?_))))
  refine At_callB hF E9 rfl (u := .bool true) (vs := #[]) (by simp) (fun w' hw' => sane_rets w') ?_
  (repeat (first | ((with_reducible refine is_AL ?_); (first | ((with_reducible refine is_move ?_); (refine At_plain hF (by (exact (rfl : _ = some (Value.int _ _)))) ?_)) | ((with_reducible refine is_un ?_); (refine At_plain hF (by (exact (rfl : _ = some (Value.bool _)))) ?_)) | with_reducible refine At_nil ?_)) | ((with_reducible refine is_At ?_); (first | with_reducible refine At_seq ?_; intro K hK | with_reducible refine At_region ?_ | with_reducible refine At_skip ?_ | with_reducible refine At_then_n ?_ | with_reducible refine At_go (by assumption) ?_ | ((with_reducible refine is_cond ?_); (refine At_cond_f rfl ?_))))))
  refine At_callB hF E17 rfl (u := .bool false) (arg2 (by (first | exact (rfl : _ = (Value.int _ _)) | exact (rfl : _ = (Value.bool _)) | exact (rfl : _ = (Value.pointer _)) | exact (rfl : _ = (Value.slice _ _ _)) | exact (rfl : _ = (Value.map _)) | exact (rfl : _ = (Value.func _ _ _)) | exact (rfl : _ = (Value.tuple _)) | exact (rfl : _ = (Value.agg _)) | exact (rfl : _ = (Value.string _)) | exact (rfl : _ = (Value.nilFunc)) | exact (rfl : _ = (Value.nilIface)))) (by (first | exact (rfl : _ = (Value.int _ _)) | exact (rfl : _ = (Value.bool _)) | exact (rfl : _ = (Value.pointer _)) | exact (rfl : _ = (Value.slice _ _ _)) | exact (rfl : _ = (Value.map _)) | exact (rfl : _ = (Value.func _ _ _)) | exact (rfl : _ = (Value.tuple _)) | exact (rfl : _ = (Value.agg _)) | exact (rfl : _ = (Value.string _)) | exact (rfl : _ = (Value.nilFunc)) | exact (rfl : _ = (Value.nilIface))))) (fun w' hw' => hrt w') ?_
  (repeat (first | ((with_reducible refine is_AL ?_); (first | ((with_reducible refine is_assign ?_); (refine At_plain hF (by (exact (rfl : _ = some (Value.bool _)))) ?_)) | ((with_reducible refine is_un ?_); (refine At_plain hF (by (exact (rfl : _ = some (Value.bool _)))) ?_)) | with_reducible refine At_nil ?_)) | ((with_reducible refine is_At ?_); (first | with_reducible refine At_seq ?_; intro K hK | with_reducible refine At_region ?_ | with_reducible refine At_ret ?_ | with_reducible refine At_then_n ?_ | with_reducible refine At_then_r ?_ | with_reducible refine At_go (by assumption) ?_ | ((with_reducible refine is_cond ?_); (refine At_cond_t rfl ?_))))))
  exact At_ret1 rfl (rv_tmp (by decide)) (fun w' hw' => ⟨_, rfl, rfl, hw'.below⟩)
theorem bal_good (w0 : World) (n : Nat) (kind : Int) (hn : 2 ≤ n ∧ n ≤ 20) (hk : 1 ≤ kind ∧ kind ≤ 3) : Rets Try.prog 6 #[.int .i64 n, .int .i64 kind] w0 fun u w' => u = .bool true ∧ Below w0.heap.size w0 w' := by
  have hg := good_mk hn hk
  have hrt := right_of n kind
  rw [decide_eq_true (show rightR n kind from ⟨by omega, by omega, hk⟩)] at hrt
  have hR : 1 ≤ rndsN n ∧ rndsN n ≤ 20 := by unfold rndsN; omega
  have hQ : 1 ≤ rndsQ (rndsN n) kind ∧ rndsQ (rndsN n) kind ≤ 40 := by unfold rndsQ; split <;> omega
  exact bal_core w0 n (rndsQ (rndsN n) kind) kind (mkM n kind) hn hk hQ (mk_of n kind hn hk) hrt hg.len hg.chk.1 (good_in0 hg hn.2) (bal_mk hn hk)
theorem law_RobinBalance.calls (a0 : Int) (a1 : Int) (r : Bool) (w : World) (h : r = true) : Calls Try.prog 6 #[.int .i64 a0, .int .i64 a1] w fun e w' => e = .returned (.bool r) ∧ Below w.heap.size w w' := by
  subst h
  by_cases hr : rightR a0 a1
  · obtain ⟨h1, h2, h3, h4⟩ := hr
    obtain ⟨n, rfl⟩ : ∃ n : Nat, a0 = n := ⟨a0.toNat, by omega⟩
    refine (bal_good w n a1 (by omega) ⟨h3, h4⟩).mono ?_
    rintro e w' ⟨v, rfl, rfl, hb⟩
    exact ⟨rfl, hb⟩
  · refine (bal_bad w a0 a1 hr).mono ?_
    rintro e w' ⟨v, rfl, rfl, hb⟩
    exact ⟨rfl, hb⟩
end Go.Proofs.Ythddaojdlfifeaa.P
