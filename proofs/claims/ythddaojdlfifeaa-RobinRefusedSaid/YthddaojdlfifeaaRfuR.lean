import Derived.Test.YthddaojdlfifeaaGSane
import Derived.Test.YthddaojdlfifeaaEqvP
import Derived.Test.YthddaojdlfifeaaP12
import Derived.Test.YthddaojdlfifeaaXMakeZ
import Derived.Test.YthddaojdlfifeaaXDrawN
import Derived.Test.YthddaojdlfifeaaXBits
import Derived.Test.YthddaojdlfifeaaP6
import Derived.Test.YthddaojdlfifeaaXLoadR
import Derived.Test.YthddaojdlfifeaaXDrawF
import Derived.Test.YthddaojdlfifeaaXSpread
import Derived.Test.YthddaojdlfifeaaXStr
/- RobinAll: what is counted. -/
namespace Go.Proofs.Ythddaojdlfifeaa.P
open Go.RowKit Go.Proofs.YthddaojdlfifeaaW.PrintWords Go.Proofs.YthddaojdlfifeaaW.PrintLast Go.Proofs.YthddaojdlfifeaaW.PrintMore
set_option linter.unusedSimpArgs false
set_option linter.unusedVariables false

def cM (m : List S37) (a b : Nat) : Nat := m.countP fun x => x.f1 == (a : Int) && x.f2 == (b : Int)
def cG (m : List S37) (r t : Nat) : Nat := (m.countP fun x => x.f0 == (r : Int) && x.f1 == (t : Int)) + m.countP fun x => x.f0 == (r : Int) && x.f2 == (t : Int)
/-- the rests of team a, r rounds of them -/
def rst (m : List S37) (a : Nat) : Nat → Int
  | 0 => 0
  | r + 1 => rst m a r + (1 - (cG m r a : Int))
def wantR (n : Nat) (kind : Int) : Int := if kind = 1 then (n % 2 : Nat) else 2 * (n % 2 : Nat)
/-- what RobinAll asks of the meetings -/
def pairB (m : List S37) (kind : Int) (a b : Nat) : Prop := if kind = 1 then cM m a b + cM m b a = 1 else cM m a b = 1 ∧ cM m b a = 1
def allOk (n Q : Nat) (kind : Int) (m : List S37) : Prop := ∀ a, a < n → (∀ r, r < Q → cG m r a ≤ 1) ∧ rst m a Q = wantR n kind ∧ ∀ b, b < a → pairB m kind a b
end Go.Proofs.Ythddaojdlfifeaa.P

/- What Make returns is a round robin, and everybody meets everybody. -/
namespace Go.Proofs.Ythddaojdlfifeaa.P
open Go.RowKit Go.Proofs.YthddaojdlfifeaaW.PrintWords Go.Proofs.YthddaojdlfifeaaW.PrintLast Go.Proofs.YthddaojdlfifeaaW.PrintMore
set_option linter.unusedSimpArgs false
set_option linter.unusedVariables false

/-- no number twice, told by the bits of one number -/
def nodupB : List Nat → Nat → Bool
  | [], _ => true
  | c :: l, s => !(s.testBit c) && nodupB l (s ||| 1 <<< c)
def bitsOf (l : List Nat) : Nat := l.foldl (fun s c => s ||| 1 <<< c) 0
theorem bit_or (s c t : Nat) : (s ||| 1 <<< c).testBit t = (s.testBit t || decide (c = t)) := by
  rw [Nat.testBit_or, Nat.one_shiftLeft, Nat.testBit_two_pow]
theorem nodupB_spec : ∀ (l : List Nat) (s : Nat), nodupB l s = true → l.Nodup ∧ ∀ c ∈ l, s.testBit c = false
  | [], s, _ => ⟨List.nodup_nil, by simp⟩
  | c :: l, s, h => by
    rw [nodupB, Bool.and_eq_true, Bool.not_eq_true'] at h
    obtain ⟨h1, h2⟩ := nodupB_spec l _ h.2
    have h3 : ∀ d ∈ l, s.testBit d = false ∧ c ≠ d := fun d hd => by
      have := h2 d hd
      rw [bit_or, Bool.or_eq_false_iff, decide_eq_false_iff_not] at this
      exact this
    refine ⟨List.nodup_cons.2 ⟨fun hc => (h3 c hc).2 rfl, h1⟩, fun d hd => ?_⟩
    rcases List.mem_cons.1 hd with rfl | hd
    · exact h.1
    · exact (h3 d hd).1
theorem bits_mem (t : Nat) : ∀ (l : List Nat) (s : Nat), (l.foldl (fun s c => s ||| 1 <<< c) s).testBit t = true → s.testBit t = true ∨ t ∈ l
  | [], s, h => .inl h
  | c :: l, s, h => by
    rcases bits_mem t l _ h with h1 | h1
    · rw [bit_or, Bool.or_eq_true, decide_eq_true_eq] at h1
      rcases h1 with h1 | h1
      · exact .inl h1
      · exact .inr (by simp [h1])
    · exact .inr (by simp [h1])
def cd (p : Int × Int) : Nat := p.1.toNat * 20 + p.2.toNat
theorem cd_inj {p q : Int × Int} (hp : 0 ≤ p.1 ∧ 0 ≤ p.2 ∧ p.2 < 20) (hq : 0 ≤ q.1 ∧ 0 ≤ q.2 ∧ q.2 < 20) (h : cd p = cd q) : p = q := by
  unfold cd at h
  exact Prod.ext (by omega) (by omega)
theorem nodup_cd {l : List (Int × Int)} (h : nodupB (l.map cd) 0 = true) : l.Nodup := by
  have h1 := (nodupB_spec _ _ h).1
  exact (List.pairwise_map.1 h1).imp (fun {a b} h e => h (by rw [e]))
def homeAway (x : S37) : Int × Int := (x.f1, x.f2)
def goodB (n : Nat) (kind : Int) (m : List S37) : Bool :=
  m.all (fun x => decide (okX n (rndsQ (rndsN n) kind : Nat) x)) && nodupB ((slots m).map cd) 0 && nodupB ((metL m (rndsN n) kind (rndsN n)).map cd) 0 &&
  (List.range (rndsN n)).all (fun r => decide (mkB (rndsN n) kind r < 0) || decide (byR m (mkB (rndsN n) kind r) = sortM ((byR m (mkA (rndsN n) kind r)).map (trn (mkB (rndsN n) kind r))))) &&
  decide ((metL m (rndsN n) kind (rndsN n)).length = n * (n - 1) / 2) && decide (m.length ≤ 1000) &&
  (List.range n).all (fun a => decide (((m.countP fun x => x.f1 == (a : Int)) + (m.countP fun x => x.f2 == (a : Int)) : Nat) + wantR n kind = (rndsQ (rndsN n) kind : Nat))) &&
  (if kind = 1 then nodupB ((m.map pr).map cd) 0 && (List.range n).all (fun a => (List.range a).all fun b => (bitsOf ((m.map pr).map cd)).testBit (b * 20 + a))
   else nodupB ((m.map homeAway).map cd) 0 && (List.range n).all (fun a => (List.range n).all fun b => decide (a = b) || (bitsOf ((m.map homeAway).map cd)).testBit (a * 20 + b)))
theorem good_2 : ∀ k, k < 4 → 1 ≤ k → goodB 2 (k : Nat) (mkM 2 (k : Nat)) = true := by decide +kernel
theorem good_3 : ∀ k, k < 4 → 1 ≤ k → goodB 3 (k : Nat) (mkM 3 (k : Nat)) = true := by decide +kernel
theorem good_4 : ∀ k, k < 4 → 1 ≤ k → goodB 4 (k : Nat) (mkM 4 (k : Nat)) = true := by decide +kernel
theorem good_5 : ∀ k, k < 4 → 1 ≤ k → goodB 5 (k : Nat) (mkM 5 (k : Nat)) = true := by decide +kernel
theorem good_6 : ∀ k, k < 4 → 1 ≤ k → goodB 6 (k : Nat) (mkM 6 (k : Nat)) = true := by decide +kernel
theorem good_7 : ∀ k, k < 4 → 1 ≤ k → goodB 7 (k : Nat) (mkM 7 (k : Nat)) = true := by decide +kernel
theorem good_8 : ∀ k, k < 4 → 1 ≤ k → goodB 8 (k : Nat) (mkM 8 (k : Nat)) = true := by decide +kernel
theorem good_9 : ∀ k, k < 4 → 1 ≤ k → goodB 9 (k : Nat) (mkM 9 (k : Nat)) = true := by decide +kernel
theorem good_10 : ∀ k, k < 4 → 1 ≤ k → goodB 10 (k : Nat) (mkM 10 (k : Nat)) = true := by decide +kernel
theorem good_11 : ∀ k, k < 4 → 1 ≤ k → goodB 11 (k : Nat) (mkM 11 (k : Nat)) = true := by decide +kernel
theorem good_12 : ∀ k, k < 4 → 1 ≤ k → goodB 12 (k : Nat) (mkM 12 (k : Nat)) = true := by decide +kernel
theorem good_13 : ∀ k, k < 4 → 1 ≤ k → goodB 13 (k : Nat) (mkM 13 (k : Nat)) = true := by decide +kernel
theorem good_14 : ∀ k, k < 4 → 1 ≤ k → goodB 14 (k : Nat) (mkM 14 (k : Nat)) = true := by decide +kernel
theorem good_15 : ∀ k, k < 4 → 1 ≤ k → goodB 15 (k : Nat) (mkM 15 (k : Nat)) = true := by decide +kernel
theorem good_16 : ∀ k, k < 4 → 1 ≤ k → goodB 16 (k : Nat) (mkM 16 (k : Nat)) = true := by decide +kernel
theorem good_17 : ∀ k, k < 4 → 1 ≤ k → goodB 17 (k : Nat) (mkM 17 (k : Nat)) = true := by decide +kernel
theorem good_18 : ∀ k, k < 4 → 1 ≤ k → goodB 18 (k : Nat) (mkM 18 (k : Nat)) = true := by decide +kernel
theorem good_19 : ∀ k, k < 4 → 1 ≤ k → goodB 19 (k : Nat) (mkM 19 (k : Nat)) = true := by decide +kernel
theorem good_20 : ∀ k, k < 4 → 1 ≤ k → goodB 20 (k : Nat) (mkM 20 (k : Nat)) = true := by decide +kernel
theorem good_in (n : Nat) (h : n < 21) (h2 : 2 ≤ n) : ∀ k, k < 4 → 1 ≤ k → goodB n (k : Nat) (mkM n (k : Nat)) = true := by
  match n, h, h2 with
  | 2, _, _ => exact good_2
  | 3, _, _ => exact good_3
  | 4, _, _ => exact good_4
  | 5, _, _ => exact good_5
  | 6, _, _ => exact good_6
  | 7, _, _ => exact good_7
  | 8, _, _ => exact good_8
  | 9, _, _ => exact good_9
  | 10, _, _ => exact good_10
  | 11, _, _ => exact good_11
  | 12, _, _ => exact good_12
  | 13, _, _ => exact good_13
  | 14, _, _ => exact good_14
  | 15, _, _ => exact good_15
  | 16, _, _ => exact good_16
  | 17, _, _ => exact good_17
  | 18, _, _ => exact good_18
  | 19, _, _ => exact good_19
  | 20, _, _ => exact good_20
  | k + 21, h, _ => omega
theorem good_at {n : Nat} {kind : Int} (hn : 2 ≤ n ∧ n ≤ 20) (hk : 1 ≤ kind ∧ kind ≤ 3) : goodB n kind (mkM n kind) = true := by
  obtain ⟨k, rfl⟩ : ∃ k : Nat, kind = k := ⟨kind.toNat, by omega⟩
  exact good_in n (by omega) hn.1 k (by omega) (by omega)
end Go.Proofs.Ythddaojdlfifeaa.P

/- What Make returns is a round robin: the facts. -/
namespace Go.Proofs.Ythddaojdlfifeaa.P
open Go.RowKit Go.Proofs.YthddaojdlfifeaaW.PrintWords Go.Proofs.YthddaojdlfifeaaW.PrintLast Go.Proofs.YthddaojdlfifeaaW.PrintMore
set_option linter.unusedSimpArgs false
set_option linter.unusedVariables false

theorem countP_nd {α β : Type} [DecidableEq β] (f : α → β) (c : β) : ∀ {l : List α}, (l.map f).Nodup → l.countP (fun x => decide (f x = c)) ≤ 1
  | [], _ => by simp
  | x :: l, h => by
    rw [List.map_cons, List.nodup_cons] at h
    have ih := countP_nd f c h.2
    rw [List.countP_cons]
    by_cases e : f x = c
    · have h0 : l.countP (fun x => decide (f x = c)) = 0 := by
        rw [List.countP_eq_zero]
        intro y hy
        rw [decide_eq_true_iff]
        intro e2
        exact h.1 (List.mem_map.2 ⟨y, hy, by rw [e2, e]⟩)
      rw [h0]; split <;> omega
    · rw [if_neg (by simpa using e)]; omega
theorem countP_pos' {α β : Type} [DecidableEq β] (f : α → β) (c : β) {l : List α} (h : c ∈ l.map f) : 1 ≤ l.countP (fun x => decide (f x = c)) := by
  obtain ⟨x, hx, e⟩ := List.mem_map.1 h
  exact List.countP_pos_iff.2 ⟨x, hx, by simp [e]⟩
/-! ### slots -/
theorem slots_app (l l' : List S37) : slots (l ++ l') = slots l ++ slots l' := by simp [slots]
theorem okI_of {n Q : Int} {m : List S37} (hX : ∀ x ∈ m, okX n Q x) (hb : m.Pairwise bef) (hs : (slots m).Nodup) : ∀ i, i < m.length → okI n Q m i := by
  intro i hi
  have e : m = m.take i ++ m.getD i z37 :: m.drop (i + 1) := by
    have h1 := take_snocS m i z37 hi
    have h2 := List.take_append_drop (i + 1) m
    rw [h1, List.append_assoc] at h2
    exact h2.symm
  have hm : m.getD i z37 ∈ m := getD_memS hi
  rw [e, slots_app] at hs
  have hd := (List.nodup_append.1 hs).2.2
  refine ⟨hX _ hm, fun h0 => ?_, fun h => hd _ h ((m.getD i z37).f0, (m.getD i z37).f1) (by simp [slots]) rfl, fun h => hd _ h ((m.getD i z37).f0, (m.getD i z37).f2) (by simp [slots]) rfl⟩
  have := List.pairwise_iff_getElem.1 hb (i - 1) i (by omega) hi (by omega)
  rw [List.getD_eq_getElem?_getD, List.getElem?_eq_getElem (by omega : i - 1 < m.length), List.getD_eq_getElem?_getD, List.getElem?_eq_getElem hi]
  exact this
theorem cG_slots (m : List S37) (r a : Nat) : cG m r a = (slots m).countP (fun p => decide (p = ((r : Int), (a : Int)))) := by
  induction m with
  | nil => rfl
  | cons x m ih =>
    have e : slots (x :: m) = (x.f0, x.f1) :: (x.f0, x.f2) :: slots m := rfl
    rw [e, List.countP_cons, List.countP_cons, ← ih]
    unfold cG
    rw [List.countP_cons, List.countP_cons]
    have e1 : (x.f0 == (r : Int) && x.f1 == (a : Int)) = decide ((x.f0, x.f1) = ((r : Int), (a : Int))) := by rw [Bool.eq_iff_iff]; simp
    have e2 : (x.f0 == (r : Int) && x.f2 == (a : Int)) = decide ((x.f0, x.f2) = ((r : Int), (a : Int))) := by rw [Bool.eq_iff_iff]; simp
    rw [e1, e2]; omega
theorem cG_one {m : List S37} (h : (slots m).Nodup) (r a : Nat) : cG m r a ≤ 1 := by
  rw [cG_slots]
  exact countP_nd id _ (by simpa using h)
theorem countP_split (p : S37 → Bool) (m : List S37) : ∀ R : Nat, (m.countP fun x : S37 => (decide (0 ≤ x.f0) && decide (x.f0 < ((R + 1 : Nat) : Int))) && p x) = (m.countP fun x : S37 => (decide (0 ≤ x.f0) && decide (x.f0 < (R : Int))) && p x) + m.countP fun x : S37 => x.f0 == (R : Int) && p x := by
  intro R
  induction m with
  | nil => rfl
  | cons x m ih =>
    rw [List.countP_cons, List.countP_cons, List.countP_cons, ih]
    have e : (if ((decide (0 ≤ x.f0) && decide (x.f0 < ((R + 1 : Nat) : Int))) && p x) = true then 1 else 0) = (if ((decide (0 ≤ x.f0) && decide (x.f0 < (R : Int))) && p x) = true then 1 else 0) + (if (x.f0 == (R : Int) && p x) = true then 1 else 0) := by
      cases p x
      · simp
      · simp only [Bool.and_true, Bool.and_eq_true, decide_eq_true_eq, beq_iff_eq]
        split <;> split <;> split <;> omega
    omega
theorem rst_eq (m : List S37) (a : Nat) : ∀ R : Nat, rst m a R = (R : Int) - (((m.countP fun x : S37 => (decide (0 ≤ x.f0) && decide (x.f0 < (R : Int))) && x.f1 == (a : Int)) + (m.countP fun x : S37 => (decide (0 ≤ x.f0) && decide (x.f0 < (R : Int))) && x.f2 == (a : Int)) : Nat) : Int)
  | 0 => by
    have e : ∀ p : S37 → Bool, (m.countP fun x : S37 => (decide (0 ≤ x.f0) && decide (x.f0 < ((0 : Nat) : Int))) && p x) = 0 := fun p => by
      rw [List.countP_eq_zero]
      intro x _
      simp; omega
    rw [e, e]; rfl
  | R + 1 => by
    rw [rst, rst_eq m a R, countP_split, countP_split]
    unfold cG; omega
theorem rst_all {m : List S37} {Q : Nat} (h : ∀ x ∈ m, 0 ≤ x.f0 ∧ x.f0 < Q) (a : Nat) : rst m a Q = (Q : Int) - (((m.countP fun x : S37 => x.f1 == (a : Int)) + (m.countP fun x : S37 => x.f2 == (a : Int)) : Nat) : Int) := by
  rw [rst_eq]
  have e : ∀ p : S37 → Bool, (m.countP fun x : S37 => (decide (0 ≤ x.f0) && decide (x.f0 < (Q : Int))) && p x) = m.countP p := fun p => by
    refine List.countP_congr fun x hx => ?_
    have := h x hx
    simp [this.1, this.2]
  rw [e, e]
/-! ### the facts -/
structure Good (n : Nat) (kind : Int) (m : List S37) : Prop where
  inX : ∀ x ∈ m, okX n (rndsQ (rndsN n) kind : Nat) x
  len : m.length ≤ 1000
  chk : okC n (rndsN n) kind m
  all : allOk n (rndsQ (rndsN n) kind) kind m
theorem good_of {n : Nat} {kind : Int} (hn : 2 ≤ n ∧ n ≤ 20) (hk : 1 ≤ kind ∧ kind ≤ 3) {m : List S37} (hb : m.Pairwise bef) (h : goodB n kind m = true) : Good n kind m := by
  unfold goodB at h
  simp only [Bool.and_eq_true, List.all_eq_true, decide_eq_true_eq, Bool.or_eq_true, List.mem_range] at h
  obtain ⟨⟨⟨⟨⟨⟨⟨h1, h2⟩, h3⟩, h4⟩, h5⟩, h6⟩, h7⟩, h8⟩ := h
  have hs : (slots m).Nodup := nodup_cd h2
  have hmet : (metL m (rndsN n) kind (rndsN n)).Nodup := nodup_cd h3
  have hR : 1 ≤ rndsN n := by unfold rndsN; omega
  have hI := okI_of h1 hb hs
  have hchk : okC n (rndsN n) kind m := by
    refine ⟨hI, fun r hr => ⟨?_, fun hb0 => ?_⟩, h5⟩
    · have := met_sub m (rndsN n) kind (rndsN n - (r + 1)) (r + 1)
      rw [show r + 1 + (rndsN n - (r + 1)) = rndsN n by omega] at this
      exact hmet.sublist this
    · rcases h4 r hr with h | h
      · omega
      · rw [h]; exact sortM_perm _
  refine ⟨h1, h6, hchk, fun a ha => ⟨fun r hr => cG_one hs r a, ?_, fun b hb2 => ?_⟩⟩
  · rw [rst_all (fun x hx => ⟨(h1 x hx).1, (h1 x hx).2.1⟩)]
    have := h7 a ha
    omega
  · unfold pairB
    by_cases hk1 : kind = 1
    · rw [if_pos hk1] at h8 ⊢
      simp only [Bool.and_eq_true, List.all_eq_true, List.mem_range] at h8
      have hnd : (m.map pr).Nodup := nodup_cd h8.1
      have hmem : ((b : Int), (a : Int)) ∈ m.map pr := by
        have := bits_mem _ _ _ (h8.2 a ha b hb2)
        rcases this with h | h
        · simp at h
        · obtain ⟨p, hp, e⟩ := List.mem_map.1 h
          obtain ⟨x, hx, rfl⟩ := List.mem_map.1 hp
          obtain ⟨_, _, ⟨e1, e2⟩, ⟨e3, e4⟩, _⟩ := h1 x hx
          have : pr x = ((b : Int), (a : Int)) := by
            refine cd_inj ?_ ?_ ?_
            · unfold pr; simp only; omega
            · simp only; omega
            · rw [e]; unfold cd; simp
          rw [← this]; exact hp
      have c1 := countP_nd pr ((b : Int), (a : Int)) hnd
      have c2 := countP_pos' pr ((b : Int), (a : Int)) hmem
      have e : (m.countP fun x => decide (pr x = ((b : Int), (a : Int)))) = cM m a b + cM m b a := by
        clear c1 c2 hmem hnd h8 h7 h6 h5 h4 h3 h2 hI hchk hmet hs hb
        unfold cM
        induction m with
        | nil => rfl
        | cons x m ih =>
          rw [List.countP_cons, List.countP_cons, List.countP_cons, ih (fun y hy => h1 y (by simp [hy]))]
          have e : (if decide (pr x = ((b : Int), (a : Int))) = true then 1 else 0) = (if (x.f1 == (a : Int) && x.f2 == (b : Int)) = true then 1 else 0) + (if (x.f1 == (b : Int) && x.f2 == (a : Int)) = true then 1 else 0) := by
            simp only [decide_eq_true_eq, Bool.and_eq_true, beq_iff_eq, pr, Prod.mk.injEq]
            split <;> split <;> split <;> omega
          omega
      omega
    · rw [if_neg hk1] at h8 ⊢
      simp only [Bool.and_eq_true, List.all_eq_true, List.mem_range, Bool.or_eq_true, decide_eq_true_eq] at h8
      have hnd : (m.map homeAway).Nodup := nodup_cd h8.1
      have key : ∀ a b : Nat, a < n → b < n → a ≠ b → cM m a b = 1 := fun a b ha hb hab => by
        have hmem : ((a : Int), (b : Int)) ∈ m.map homeAway := by
          rcases h8.2 a ha b hb with h | h
          · exact absurd h hab
          have := bits_mem _ _ _ h
          rcases this with h | h
          · simp at h
          · obtain ⟨p, hp, e⟩ := List.mem_map.1 h
            obtain ⟨x, hx, rfl⟩ := List.mem_map.1 hp
            obtain ⟨_, _, ⟨e1, e2⟩, ⟨e3, e4⟩, _⟩ := h1 x hx
            have : homeAway x = ((a : Int), (b : Int)) := by
              refine cd_inj ?_ ?_ ?_
              · unfold homeAway; simp only; omega
              · simp only; omega
              · rw [e]; unfold cd; simp
            rw [← this]; exact hp
        have c1 := countP_nd homeAway ((a : Int), (b : Int)) hnd
        have c2 := countP_pos' homeAway ((a : Int), (b : Int)) hmem
        have e : (m.countP fun x => decide (homeAway x = ((a : Int), (b : Int)))) = cM m a b := by
          unfold cM
          refine List.countP_congr fun x _ => ?_
          simp [homeAway]
        omega
      exact ⟨key a b ha (by omega) (by omega), key b a (by omega) ha (by omega)⟩
theorem good_mk {n : Nat} {kind : Int} (hn : 2 ≤ n ∧ n ≤ 20) (hk : 1 ≤ kind ∧ kind ≤ 3) : Good n kind (mkM n kind) := good_of hn hk (mk_strict hn hk) (good_at hn hk)
end Go.Proofs.Ythddaojdlfifeaa.P

/- Renamed round robins are round robins: plain. -/
namespace Go.Proofs.Ythddaojdlfifeaa.P
open Go.RowKit Go.Proofs.YthddaojdlfifeaaW.PrintWords Go.Proofs.YthddaojdlfifeaaW.PrintLast Go.Proofs.YthddaojdlfifeaaW.PrintMore
set_option linter.unusedSimpArgs false
set_option linter.unusedVariables false

/-- what a round robin is, told so that the order of the list tells nothing but itself -/
structure RR (n R : Nat) (kind : Int) (m : List S37) : Prop where
  inX : ∀ x ∈ m, okX n (rndsQ R kind : Nat) x
  slt : (slots m).Nodup
  met : (metL m R kind R).Nodup
  trns : ∀ r, r < R → 0 ≤ mkB R kind r → (byR m (mkB R kind r)).Perm ((byR m (mkA R kind r)).map (trn (mkB R kind r)))
  cnt : (metL m R kind R).length = n * (n - 1) / 2
theorem rr_of {n R : Nat} {kind : Int} {m : List S37} (hR : 1 ≤ R) (h : okC n R kind m) : RR n R kind m := by
  refine ⟨okI_mem h.1, ?_, ?_, fun r hr => (h.2.1 r hr).2, h.2.2⟩
  · have := okI_slots h.1 m.length (Nat.le_refl _)
    rwa [List.take_length] at this
  · have := (h.2.1 (R - 1) (by omega)).1
    rwa [show R - 1 + 1 = R by omega] at this
theorem slots_perm {l l' : List S37} (h : l.Perm l') : (slots l).Perm (slots l') := h.flatMap_right _
theorem byR_perm {l l' : List S37} (h : l.Perm l') (r : Int) : (byR l r).Perm (byR l' r) := h.filter _
theorem met_perm {l l' : List S37} (h : l.Perm l') (R : Nat) (kind : Int) : ∀ r, (metL l R kind r).Perm (metL l' R kind r)
  | 0 => List.Perm.refl _
  | r + 1 => (met_perm h R kind r).append ((byR_perm h _).map pr)
theorem RR.perm {n R : Nat} {kind : Int} {l l' : List S37} (h : RR n R kind l) (hp : l'.Perm l) : RR n R kind l' :=
  ⟨fun x hx => h.inX x (hp.subset hx), (slots_perm hp).nodup_iff.2 h.slt, (met_perm hp R kind R).nodup_iff.2 h.met, fun r hr hb => (byR_perm hp _).trans ((h.trns r hr hb).trans ((byR_perm hp _).symm.map _)), by rw [(met_perm hp R kind R).length_eq]; exact h.cnt⟩
theorem nodup_map_on {α β : Type} {f : α → β} : ∀ {l : List α}, (∀ x ∈ l, ∀ y ∈ l, f x = f y → x = y) → l.Nodup → (l.map f).Nodup
  | [], _, _ => List.nodup_nil
  | a :: l, h, hn => by
    rw [List.nodup_cons] at hn
    rw [List.map_cons, List.nodup_cons]
    refine ⟨fun hm => ?_, nodup_map_on (fun x hx y hy => h x (by simp [hx]) y (by simp [hy])) hn.2⟩
    obtain ⟨b, hb, e⟩ := List.mem_map.1 hm
    exact hn.1 (h a (by simp) b (by simp [hb]) e.symm ▸ hb)
theorem slots_in {n Q : Int} {m : List S37} (h : ∀ x ∈ m, okX n Q x) : ∀ p ∈ slots m, 0 ≤ p.2 ∧ p.2 < n := by
  intro p hp
  obtain ⟨x, hx, hp⟩ := List.mem_flatMap.1 hp
  obtain ⟨_, _, h3, h4, _⟩ := h x hx
  simp only [List.mem_cons, List.not_mem_nil, or_false] at hp
  rcases hp with rfl | rfl
  · exact h3
  · exact h4
end Go.Proofs.Ythddaojdlfifeaa.P

/- RobinRefused: why the changed lists are refused. -/
namespace Go.Proofs.Ythddaojdlfifeaa.P
open Go.RowKit Go.Proofs.YthddaojdlfifeaaW.PrintWords Go.Proofs.YthddaojdlfifeaaW.PrintLast Go.Proofs.YthddaojdlfifeaaW.PrintMore
set_option linter.unusedSimpArgs false
set_option linter.unusedVariables false

theorem rr_len {n R : Nat} {kind : Int} (hR : 1 ≤ R) (hk : 1 ≤ kind ∧ kind ≤ 3) {m : List S37} (h : RR n R kind m) : m.length = if kind = 1 then n * (n - 1) / 2 else 2 * (n * (n - 1) / 2) := by
  have hmem := h.inX
  by_cases hk1 : kind = 1
  · rw [if_pos hk1]
    have hQ : rndsQ R kind = R := by unfold rndsQ; rw [if_pos hk1]
    rw [hQ] at hmem
    have hc := cat_all m R (fun x hx => ⟨(hmem x hx).1, (hmem x hx).2.1⟩)
    have hA : catR m (mkA R kind) R = catR m (fun r => (r : Int)) R := cat_congr m R (fun q _ => by unfold mkA; rw [if_neg (by omega)])
    rw [← h.cnt, met_cat, List.length_map, hA, hc.length_eq]
  · rw [if_neg hk1]
    have hQ : rndsQ R kind = 2 * R := by unfold rndsQ; rw [if_neg hk1]
    rw [hQ] at hmem
    have hk23 : kind = 2 ∨ kind = 3 := by omega
    have hc := cat_all m (2 * R) (fun x hx => ⟨(hmem x hx).1, (hmem x hx).2.1⟩)
    have hAl : (catR m (mkA R kind) R).length = n * (n - 1) / 2 := by rw [← h.cnt, met_cat, List.length_map]
    have hBl : ∀ r, r ≤ R → (catR m (mkB R kind) r).length = (catR m (mkA R kind) r).length := fun r => by
      induction r with
      | zero => intro _; rfl
      | succ r ih =>
        intro hr
        have hb : 0 ≤ mkB R kind r := by unfold mkB; rcases hk23 with rfl | rfl <;> simp <;> omega
        rw [catR, catR, List.length_append, List.length_append, ih (by omega), (h.trns r (by omega) hb).length_eq, List.length_map]
    have hBl := hBl R (Nat.le_refl _)
    rw [← hc.length_eq]
    rcases hk23 with hk2 | hk2
    · rw [cat_len2, ← hAl]
      have ea : catR m (fun q => 2 * (q : Int)) R = catR m (mkA R kind) R := cat_congr m R (fun q _ => by unfold mkA; rw [if_pos hk2])
      have eb : catR m (fun q => 2 * (q : Int) + 1) R = catR m (mkB R kind) R := cat_congr m R (fun q _ => by unfold mkB; rw [if_pos hk2])
      rw [ea, eb, hBl]; omega
    · rw [show 2 * R = R + R by omega, cat_len3, ← hAl]
      have ea : catR m (fun q => (q : Int)) R = catR m (mkA R kind) R := cat_congr m R (fun q _ => by unfold mkA; rw [if_neg (by omega)])
      have eb : catR m (fun q => (R : Int) + (q : Int)) R = catR m (mkB R kind) R := cat_congr m R (fun q _ => by unfold mkB; rw [if_neg (by omega), if_pos hk2])
      rw [ea, eb, hBl]; omega
/-- another number of meetings is refused -/
theorem len_no {n R : Nat} {kind : Int} (hR : 1 ≤ R) (hk : 1 ≤ kind ∧ kind ≤ 3) {m l : List S37} (h : okC n R kind m) (hl : l.length ≠ m.length) : ¬ okC n R kind l := fun h2 => hl ((rr_len hR hk (rr_of hR h2)).trans (rr_len hR hk (rr_of hR h)).symm)
theorem nd_len : ∀ (n : Nat) (l : List Int), l.Nodup → (∀ x ∈ l, 0 ≤ x ∧ x < n) → l.length ≤ n
  | 0, l, _, h => by
    cases l with
    | nil => exact Nat.le_refl _
    | cons x l => have := h x (by simp); omega
  | n + 1, l, hn, h => by
    by_cases hm : (n : Int) ∈ l
    · have h1 := nd_len n (l.erase (n : Int)) (hn.erase _) (fun x hx => by
        have hx2 := (hn.mem_erase_iff).1 hx
        have := h x hx2.2
        have := hx2.1
        omega)
      rw [List.length_erase_of_mem hm] at h1
      omega
    · have := nd_len n l hn (fun x hx => by
        have := h x hx
        have : x ≠ n := fun e => hm (e ▸ hx)
        omega)
      omega
/-- no round has more meetings than the teams allow -/
theorem round_le {n R : Nat} {kind : Int} {m : List S37} (h : RR n R kind m) (r : Int) : 2 * (byR m r).length ≤ n := by
  have hs : (slots (byR m r)).Sublist (slots m) := by
    unfold slots byR
    induction m with
    | nil => exact List.Sublist.refl _
    | cons x m ih =>
      have hx : RR n R kind (x :: m) := h
      clear h hx ih
      have key : ∀ m : List S37, ((m.filter fun x => x.f0 == r).flatMap fun x => [(x.f0, x.f1), (x.f0, x.f2)]).Sublist (m.flatMap fun x => [(x.f0, x.f1), (x.f0, x.f2)]) := fun m => by
        induction m with
        | nil => exact List.Sublist.refl _
        | cons x m ih =>
          rw [List.filter_cons, List.flatMap_cons]
          split
          · rw [List.flatMap_cons]; exact (List.Sublist.refl _).append ih
          · exact ih.trans (List.sublist_append_right _ _)
      exact key _
  have hn := h.slt.sublist hs
  have h1 : ∀ p ∈ slots (byR m r), p.1 = r := fun p hp => by
    obtain ⟨x, hx, hp⟩ := List.mem_flatMap.1 hp
    have := (List.mem_filter.1 hx).2
    rw [beq_iff_eq] at this
    simp only [List.mem_cons, List.not_mem_nil, or_false] at hp
    rcases hp with rfl | rfl <;> exact this
  have h2 : ((slots (byR m r)).map (·.2)).Nodup := nodup_map_on (fun p hp q hq e => Prod.ext ((h1 p hp).trans (h1 q hq).symm) e) hn
  have h3 := nd_len n _ h2 (fun x hx => by
    obtain ⟨p, hp, rfl⟩ := List.mem_map.1 hx
    exact slots_in h.inX p (hs.subset hp))
  have h4 : ∀ l : List S37, (slots l).length = 2 * l.length := fun l => by
    induction l with
    | nil => rfl
    | cons x l ih => rw [show slots (x :: l) = (x.f0, x.f1) :: (x.f0, x.f2) :: slots l from rfl, List.length_cons, List.length_cons, ih, List.length_cons]; omega
  rw [List.length_map, h4] at h3
  exact h3
/-- a meeting in another round is refused -/
theorem round_no {n R : Nat} {kind : Int} (hR : 1 ≤ R) {m rest l : List S37} {z x : S37} (hm : m.Perm (z :: rest)) (hl : l.Perm (x :: rest)) (hz : x.f0 ≠ z.f0) (hfull : n / 2 ≤ (byR m x.f0).length) : ¬ okC n R kind l := fun h => by
  have h1 := round_le (rr_of hR h) x.f0
  have h2 := (byR_perm hl x.f0).length_eq
  have h3 := (byR_perm hm x.f0).length_eq
  have e1 : byR (x :: rest) x.f0 = x :: byR rest x.f0 := by unfold byR; rw [List.filter_cons, if_pos (by simp)]
  have e2 : byR (z :: rest) x.f0 = byR rest x.f0 := by unfold byR; rw [List.filter_cons, if_neg (by simpa using fun e => hz e.symm)]
  rw [e1, List.length_cons] at h2
  rw [e2] at h3
  omega
theorem cons_no {l : List S37} {a b : S37} (h : (a :: l).Perm (b :: l)) : a = b := by
  have h1 := h.countP_eq (fun x => decide (x = a))
  rw [List.countP_cons, List.countP_cons] at h1
  by_cases e : b = a
  · exact e.symm
  · rw [if_pos (by simp), if_neg (by simpa using e)] at h1; omega
theorem trn_inj {b : Int} {x y : S37} (h : trn b x = trn b y) : x.f1 = y.f1 ∧ x.f2 = y.f2 := by
  unfold trn at h
  injection h with h1 h2 h3
  exact ⟨h3, h2⟩
/-- another opponent is refused -/
theorem away_no {n R : Nat} {kind : Int} (hR : 1 ≤ R) (hk : 1 ≤ kind ∧ kind ≤ 3) {m rest l : List S37} {z y : S37} (h : okC n R kind m) (hall : kind = 1 → ∀ a b : Int, 0 ≤ a → a < n → 0 ≤ b → b < n → a ≠ b → ∃ x ∈ m, pr x = (min a b, max a b)) (hm : m.Perm (z :: rest)) (hl : l.Perm (y :: rest)) (h0 : y.f0 = z.f0) (h1 : y.f1 = z.f1) (h2 : y.f2 ≠ z.f2) (h3 : 0 ≤ y.f2 ∧ y.f2 < n) : ¬ okC n R kind l := fun hc => by
  have hr := (rr_of hR h).perm hm.symm
  have hr2 := (rr_of hR hc).perm hl.symm
  have hz := hr.inX z (by simp)
  have hy := hr2.inX y (by simp)
  by_cases hk1 : kind = 1
  · obtain ⟨x, hx, e⟩ := hall hk1 y.f1 y.f2 hy.2.2.1.1 hy.2.2.1.2 h3.1 h3.2 hy.2.2.2.2
    have hxy : pr x = pr y := e
    have hxz : x ∈ rest := by
      rcases List.mem_cons.1 (hm.subset hx) with rfl | hx
      · exfalso
        have := (pr_same x y).1 hxy
        have := hy.2.2.2.2
        omega
      · exact hx
    have hmem := hr2.inX
    have hQ : rndsQ R kind = R := by unfold rndsQ; rw [if_pos hk1]
    rw [hQ] at hmem
    have hcat := cat_all (y :: rest) R (fun x hx => ⟨(hmem x hx).1, (hmem x hx).2.1⟩)
    have hA : catR (y :: rest) (mkA R kind) R = catR (y :: rest) (fun r => (r : Int)) R := cat_congr _ R (fun q _ => by unfold mkA; rw [if_neg (by omega)])
    have hnd := hr2.met
    rw [met_cat, hA] at hnd
    have hnd2 := (hcat.map pr).nodup_iff.1 hnd
    rw [List.map_cons, List.nodup_cons] at hnd2
    exact hnd2.1 (List.mem_map.2 ⟨x, hxz, hxy⟩)
  · have hQ : rndsQ R kind = 2 * R := by unfold rndsQ; rw [if_neg hk1]
    have hk23 : kind = 2 ∨ kind = 3 := by omega
    have hzf := hz.2.1
    rw [hQ] at hzf
    have hz0 := hz.1
    have hne : z ≠ y := fun e => h2 (by rw [e])
    have hbz : ∀ q, q ≠ z.f0 → byR (z :: rest) q = byR (y :: rest) q := fun q hq => by
      unfold byR
      rw [List.filter_cons, List.filter_cons, if_neg (by simpa using fun e => hq e.symm), if_neg (by rw [h0]; simpa using fun e => hq e.symm)]
    have hz1 : byR (z :: rest) z.f0 = z :: byR rest z.f0 := by unfold byR; rw [List.filter_cons, if_pos (by simp)]
    have hy1 : byR (y :: rest) z.f0 = y :: byR rest z.f0 := by unfold byR; rw [List.filter_cons, if_pos (by simp [h0])]
    have key : ∀ r, r < R → 0 ≤ mkB R kind r → mkA R kind r ≠ mkB R kind r → (z.f0 = mkA R kind r ∨ z.f0 = mkB R kind r) → False := fun r hr0 hb hab hor => by
      have t1 := hr.trns r hr0 hb
      have t2 := hr2.trns r hr0 hb
      rcases hor with e | e
      · rw [hbz _ (by rw [e]; exact fun e => hab e.symm)] at t1
        have t3 := t1.symm.trans t2
        rw [← e, hz1, hy1, List.map_cons, List.map_cons] at t3
        exact h2 (trn_inj (cons_no t3)).2.symm
      · rw [hbz (mkA R kind r) (by rw [e]; exact hab)] at t1
        have t3 := t1.trans t2.symm
        rw [← e, hz1, hy1] at t3
        exact hne (cons_no t3)
    rcases hk23 with hk2 | hk2
    · refine key (z.f0.toNat / 2) (by omega) ?_ ?_ ?_
      · unfold mkB; rw [if_pos hk2]; omega
      · unfold mkA mkB; rw [if_pos hk2, if_pos hk2]; omega
      · unfold mkA mkB; rw [if_pos hk2, if_pos hk2]; omega
    · by_cases hlt : z.f0 < R
      · refine key z.f0.toNat (by omega) ?_ ?_ (.inl ?_)
        · unfold mkB; rw [if_neg (by omega), if_pos hk2]; omega
        · unfold mkA mkB; rw [if_neg (by omega), if_neg (by omega), if_pos hk2]; omega
        · unfold mkA; rw [if_neg (by omega)]; omega
      · refine key (z.f0.toNat - R) (by omega) ?_ ?_ (.inr ?_)
        · unfold mkB; rw [if_neg (by omega), if_pos hk2]; omega
        · unfold mkA mkB; rw [if_neg (by omega), if_neg (by omega), if_pos hk2]; omega
        · unfold mkB; rw [if_neg (by omega), if_pos hk2]; omega
/-! ### every round is full -/
def fullB (n : Nat) (kind : Int) (m : List S37) : Bool := decide (m ≠ []) && (List.range (rndsQ (rndsN n) kind)).all fun r => decide (n / 2 ≤ (byR m (r : Int)).length)
theorem full_lo : ∀ n, n < 14 → 2 ≤ n → ∀ k, k < 4 → 1 ≤ k → fullB n (k : Nat) (mkM n (k : Nat)) = true := by decide +kernel
theorem full_hi : ∀ n, n < 21 → 14 ≤ n → ∀ k, k < 4 → 1 ≤ k → fullB n (k : Nat) (mkM n (k : Nat)) = true := by decide +kernel
theorem full_mk {n : Nat} {kind : Int} (hn : 2 ≤ n ∧ n ≤ 20) (hk : 1 ≤ kind ∧ kind ≤ 3) : mkM n kind ≠ [] ∧ ∀ r : Nat, r < rndsQ (rndsN n) kind → n / 2 ≤ (byR (mkM n kind) (r : Int)).length := by
  obtain ⟨k, rfl⟩ : ∃ k : Nat, kind = k := ⟨kind.toNat, by omega⟩
  have h : fullB n (k : Nat) (mkM n (k : Nat)) = true := by
    by_cases h : n < 14
    · exact full_lo n h hn.1 k (by omega) (by omega)
    · exact full_hi n (by omega) (by omega) k (by omega) (by omega)
  unfold fullB at h
  simp only [Bool.and_eq_true, List.all_eq_true, List.mem_range, decide_eq_true_eq] at h
  exact h
end Go.Proofs.Ythddaojdlfifeaa.P

/- RobinAll, walked. -/
namespace Go.Proofs.Ythddaojdlfifeaa.P
open Go.RowKit Go.Proofs.YthddaojdlfifeaaW.PrintWords Go.Proofs.YthddaojdlfifeaaW.PrintLast Go.Proofs.YthddaojdlfifeaaW.PrintMore
open XW RegInv
attribute [local irreducible] Addr.add
set_option linter.unusedSimpArgs false
set_option linter.unusedVariables false

abbrev RightR (n kind : Int) (b : Bool) : Prop := ∀ w, Rets Try.prog 17 #[.int .i64 n, .int .i64 kind] w fun u w' => u = .bool b ∧ Below w.heap.size w w'
theorem E17 : Enters Try.prog 17 := enters Try.func17 (by kernel_rfl) rfl
end Go.Proofs.Ythddaojdlfifeaa.P

/- RobinAll: the contract. -/
namespace Go.Proofs.Ythddaojdlfifeaa.P
open Go.RowKit Go.Proofs.YthddaojdlfifeaaW.PrintWords Go.Proofs.YthddaojdlfifeaaW.PrintLast Go.Proofs.YthddaojdlfifeaaW.PrintMore
open XW RegInv
attribute [local irreducible] Addr.add
set_option linter.unusedSimpArgs false
set_option linter.unusedVariables false

theorem right_of (n kind : Int) : RightR n kind (decide (rightR n kind)) := fun w => by
  refine (fastilaw20_right.calls n kind (decide (rightR n kind)) w ?_).mono (by rintro e w' ⟨rfl, hb⟩; exact ⟨_, rfl, rfl, hb.below⟩)
  unfold fastilaw20_right.f
  by_cases hr : rightR n kind
  · rw [decide_eq_true hr]
    obtain ⟨h1, h2, h3, h4⟩ := hr
    rw [if_pos h1, if_pos h2]
    by_cases h3 : kind = 1
    · rw [if_pos h3]
    · by_cases h4 : kind = 2
      · rw [if_neg h3, if_pos h4]
      · rw [if_neg h3, if_neg h4]
        congr 1
        rw [beq_iff_eq]; omega
  · rw [decide_eq_false hr]
    unfold rightR at hr
    by_cases h1 : n ≥ 2
    · by_cases h2 : n ≤ 20
      · rw [if_pos h1, if_pos h2, if_neg (by omega), if_neg (by omega)]
        congr 1
        rw [beq_eq_false_iff_ne]; omega
      · rw [if_pos h1, if_neg h2]
    · rw [if_neg h1]
theorem getD_memN {m : List S37} {i : Nat} (h : i < m.length) : m.getD i z37 ∈ m := getD_memS h
end Go.Proofs.Ythddaojdlfifeaa.P

/- The names of RobinRenamed are a permutation. -/
namespace Go.Proofs.Ythddaojdlfifeaa.P
open Go.RowKit Go.Proofs.YthddaojdlfifeaaW.PrintWords Go.Proofs.YthddaojdlfifeaaW.PrintLast Go.Proofs.YthddaojdlfifeaaW.PrintMore
open XW RegInv
attribute [local irreducible] Addr.add
set_option linter.unusedSimpArgs false
set_option linter.unusedVariables false

theorem E18 : Enters Try.prog 18 := enters Try.func18 (by kernel_rfl) rfl
theorem put_rets (w : World) (A : Option Addr) (c : Nat) (l : List S37) (x : S37) (hC : Kd.C k37 w A l.length l) (hc : l.length ≤ c) (hl : l.length ≤ 1000000) :
    Rets Try.prog 18 #[.slice A l.length c, .agg #[.int .i64 x.f0, .int .i64 x.f1, .int .i64 x.f2]] w fun u w' => ∃ Rs, (∃ A' c', u = rowV A' (insR x l).length c' ∧ Rs = [.row 37 3 enc37 A' c' (insR x l)]) ∧ Mem w w' Rs := by
  obtain ⟨k, hk⟩ := (putf_ev x l hl).at1
  refine (fastiref20_Put.calls k A c l x.f0 x.f1 x.f2 _ w hC hc hk).mono ?_
  rintro e w' ⟨v, rfl, hR, hb⟩
  obtain ⟨A', c', rfl, hm⟩ := mem_R37 hR hb
  exact ⟨_, rfl, _, ⟨A', c', rfl, rfl⟩, hm⟩
end Go.Proofs.Ythddaojdlfifeaa.P

/- RobinRefused, walked. -/
namespace Go.Proofs.Ythddaojdlfifeaa.P
open Go.RowKit Go.Proofs.YthddaojdlfifeaaW.PrintWords Go.Proofs.YthddaojdlfifeaaW.PrintLast Go.Proofs.YthddaojdlfifeaaW.PrintMore
open XW RegInv
attribute [local irreducible] Addr.add
set_option linter.unusedSimpArgs false
set_option linter.unusedVariables false

theorem lies_cut {w : World} {A : Option Addr} {c : Nat} {m : List S37} (h : Kd.C k37 w A m.length m) (lo hi : Nat) (h1 : lo ≤ hi) (h2 : hi ≤ m.length) (hc : m.length ≤ c) : Lies w (cutA A lo c 3) (((m.take hi).drop lo).flatMap enc37) :=
  lies_C (fun _ _ _ h => k37_open h) (Kd.C_mid h h1 h2 hc)
theorem At_rowCap {base : World} {R : List Res} {Φ : World → Prop} {e : TypeId} {A : Option Nat} {c : Nat} {l : List S37} (i : Nat) (hi : R[i]? = some (.row e 3 enc37 A c l)) (h : l.length ≤ c → At base R Φ) : At base R Φ := fun w hw => h (cap_ownI hw i hi) w hw
theorem cutA_some (a : Addr) (l m s : Nat) : cutA (some a) l m s ≠ none := by
  unfold cutA; split <;> simp
theorem one37 (ys : List S37) : ∀ y ∈ ys, ∀ u ∈ enc37 y, u.oneCell' = true := by
  intro y _ u hu
  simp only [enc37, List.mem_cons, List.mem_nil_iff, or_false] at hu
  rcases hu with rfl | rfl | rfl <;> rfl
set_option maxHeartbeats 8000000 in
set_option maxRecDepth 100000 in
theorem rfu_core (w0 : World) (n rq : Nat) (kind : Int) (a bb : Nat) (m : List S37) (hn : 2 ≤ n ∧ n ≤ 20) (hk : 1 ≤ kind ∧ kind ≤ 3) (hQ : 1 ≤ rq ∧ rq ≤ 40) (hmk : MkR n kind m) (hrd : RndsR n kind rq) (hrt : RightR n kind true) (hm0 : 1 ≤ m.length) (hml : m.length ≤ 1000) (hin : ∀ i, i < m.length → okX n rq (m.getD i z37)) (ha : a < 65536) (hbb : bb < 256)
    (k : Nat) (hkk : k = a % m.length) (x : S37) (hx : x = m.getD k z37) (rest : List S37) (hrest : rest = m.take k ++ m.drop (k + 1))
    (hcr : ChkR n kind rest 200) (hcd : ChkR n kind (m.take k ++ [x] ++ m.drop k) 200)
    (hcx : (x.f0 + 1 + (bb % rq : Nat)) % rq ≠ x.f0 → ChkR n kind (insR ⟨(x.f0 + 1 + (bb % rq : Nat)) % rq, x.f1, x.f2⟩ rest) 200)
    (hcy : (x.f2 + 1 + (bb % n : Nat)) % n ≠ x.f2 → ChkR n kind (insR ⟨x.f0, x.f1, (x.f2 + 1 + (bb % n : Nat)) % n⟩ rest) 200) :
    Rets Try.prog 8 #[.int .i64 n, .int .i64 kind, .int .u16 a, .int .u8 bb] w0 fun u w' => u = .bool true ∧ Below w0.heap.size w0 w' := by
  have hF := wide_wide
  refine rets_at (n := 155) Try.func8 rfl Try.ntmps8 (by simp) ?_
  (repeat (first | ((with_reducible refine is_AL ?_); (first | ((with_reducible refine is_assign ?_); (refine At_plain hF (by (exact (rfl : _ = some (Value.bool _)))) ?_)) | with_reducible refine At_nil ?_)) | ((with_reducible refine is_At ?_); (first | with_reducible refine At_seq ?_; intro K hK | with_reducible refine At_region ?_ | with_reducible refine At_then_n ?_ | with_reducible refine At_go (by assumption) ?_))))
  refine At_callB hF E9 rfl (u := .bool true) (vs := #[]) (by simp) (fun w' hw' => sane_rets w') ?_
  (repeat (first | ((with_reducible refine is_AL ?_); (first | ((with_reducible refine is_move ?_); (refine At_plain hF (by (exact (rfl : _ = some (Value.int _ _)))) ?_)) | ((with_reducible refine is_un ?_); (refine At_plain hF (by (exact (rfl : _ = some (Value.bool _)))) ?_)) | with_reducible refine At_nil ?_)) | ((with_reducible refine is_At ?_); (first | with_reducible refine At_seq ?_; intro K hK | with_reducible refine At_region ?_ | with_reducible refine At_skip ?_ | with_reducible refine At_then_n ?_ | with_reducible refine At_go (by assumption) ?_ | ((with_reducible refine is_cond ?_); (refine At_cond_f rfl ?_))))))
  refine At_callB hF E17 rfl (u := .bool true) (arg2 (by (first | exact (rfl : _ = (Value.int _ _)) | exact (rfl : _ = (Value.bool _)) | exact (rfl : _ = (Value.pointer _)) | exact (rfl : _ = (Value.slice _ _ _)) | exact (rfl : _ = (Value.map _)) | exact (rfl : _ = (Value.func _ _ _)) | exact (rfl : _ = (Value.tuple _)) | exact (rfl : _ = (Value.agg _)) | exact (rfl : _ = (Value.string _)) | exact (rfl : _ = (Value.nilFunc)) | exact (rfl : _ = (Value.nilIface)))) (by (first | exact (rfl : _ = (Value.int _ _)) | exact (rfl : _ = (Value.bool _)) | exact (rfl : _ = (Value.pointer _)) | exact (rfl : _ = (Value.slice _ _ _)) | exact (rfl : _ = (Value.map _)) | exact (rfl : _ = (Value.func _ _ _)) | exact (rfl : _ = (Value.tuple _)) | exact (rfl : _ = (Value.agg _)) | exact (rfl : _ = (Value.string _)) | exact (rfl : _ = (Value.nilFunc)) | exact (rfl : _ = (Value.nilIface))))) (fun w' hw' => hrt w') ?_
  (repeat (first | ((with_reducible refine is_AL ?_); (first | ((with_reducible refine is_move ?_); (refine At_plain hF (by (exact (rfl : _ = some (Value.int _ _)))) ?_)) | ((with_reducible refine is_un ?_); (refine At_plain hF (by (exact (rfl : _ = some (Value.bool _)))) ?_)) | with_reducible refine At_nil ?_)) | ((with_reducible refine is_At ?_); (first | with_reducible refine At_seq ?_; intro K hK | with_reducible refine At_region ?_ | with_reducible refine At_skip ?_ | with_reducible refine At_then_n ?_ | with_reducible refine At_go (by assumption) ?_ | ((with_reducible refine is_cond ?_); (refine At_cond_f rfl ?_))))))
  refine At_callM hF E12 rfl (Post := fun u Rs => ∃ A c, u = .tuple #[rowV A m.length c, .int .i64 0] ∧ Rs = [.row 37 3 enc37 A c m]) (arg2 (by (first | exact (rfl : _ = (Value.int _ _)) | exact (rfl : _ = (Value.bool _)) | exact (rfl : _ = (Value.pointer _)) | exact (rfl : _ = (Value.slice _ _ _)) | exact (rfl : _ = (Value.map _)) | exact (rfl : _ = (Value.func _ _ _)) | exact (rfl : _ = (Value.tuple _)) | exact (rfl : _ = (Value.agg _)) | exact (rfl : _ = (Value.string _)) | exact (rfl : _ = (Value.nilFunc)) | exact (rfl : _ = (Value.nilIface)))) (by (first | exact (rfl : _ = (Value.int _ _)) | exact (rfl : _ = (Value.bool _)) | exact (rfl : _ = (Value.pointer _)) | exact (rfl : _ = (Value.slice _ _ _)) | exact (rfl : _ = (Value.map _)) | exact (rfl : _ = (Value.func _ _ _)) | exact (rfl : _ = (Value.tuple _)) | exact (rfl : _ = (Value.agg _)) | exact (rfl : _ = (Value.string _)) | exact (rfl : _ = (Value.nilFunc)) | exact (rfl : _ = (Value.nilIface))))) (fun w' hw' => hmk w') ?_
  rintro _ _ ⟨A, c, rfl, rfl⟩
  simp only [List.cons_append, List.nil_append]
  (repeat (first | ((with_reducible refine is_AL ?_); (first | ((with_reducible refine is_move ?_); (refine At_plain hF (by (first | exact (rfl : _ = some (Value.int _ _)) | exact (rfl : _ = some (Value.tuple _)))) ?_)) | ((with_reducible refine is_assign ?_); (refine At_plain hF (by (first | exact (rfl : _ = some (Value.int _ _)) | exact (rfl : _ = some (Value.slice _ _ _)))) ?_)) | ((with_reducible refine is_extract ?_); (refine At_plain hF (by (first | exact (rfl : _ = some (Value.int _ _)) | exact (rfl : _ = some (Value.slice _ _ _)))) ?_)) | with_reducible refine At_nil ?_)) | ((with_reducible refine is_At ?_); (first | with_reducible refine At_seq ?_; intro K hK | with_reducible refine At_region ?_ | with_reducible refine At_then_n ?_ | with_reducible refine At_go (by assumption) ?_))))
  refine At_callB hF E10 rfl (u := .tuple #[.int .i64 rq, .int .i64 0]) (arg2 (by (first | exact (rfl : _ = (Value.int _ _)) | exact (rfl : _ = (Value.bool _)) | exact (rfl : _ = (Value.pointer _)) | exact (rfl : _ = (Value.slice _ _ _)) | exact (rfl : _ = (Value.map _)) | exact (rfl : _ = (Value.func _ _ _)) | exact (rfl : _ = (Value.tuple _)) | exact (rfl : _ = (Value.agg _)) | exact (rfl : _ = (Value.string _)) | exact (rfl : _ = (Value.nilFunc)) | exact (rfl : _ = (Value.nilIface)))) (by (first | exact (rfl : _ = (Value.int _ _)) | exact (rfl : _ = (Value.bool _)) | exact (rfl : _ = (Value.pointer _)) | exact (rfl : _ = (Value.slice _ _ _)) | exact (rfl : _ = (Value.map _)) | exact (rfl : _ = (Value.func _ _ _)) | exact (rfl : _ = (Value.tuple _)) | exact (rfl : _ = (Value.agg _)) | exact (rfl : _ = (Value.string _)) | exact (rfl : _ = (Value.nilFunc)) | exact (rfl : _ = (Value.nilIface))))) (fun w' hw' => hrd w') ?_
  (repeat (first | ((with_reducible refine is_AL ?_); (first | ((with_reducible refine is_guarded ?_); (refine At_guard_t rfl (by decide) rfl ?_)) | ((with_reducible refine is_move ?_); (refine At_plain hF (by (first | exact (rfl : _ = some (Value.int _ _)) | exact (rfl : _ = some (Value.bool _)) | exact (rfl : _ = some (Value.slice _ _ _)) | exact (rfl : _ = some (Value.tuple _)))) ?_)) | ((with_reducible refine is_bin ?_); (refine At_plain hF (by (exact (rfl : _ = some (Value.bool _)))) ?_)) | ((with_reducible refine is_assign ?_); (refine At_plain hF (by (exact (rfl : _ = some (Value.int _ _)))) ?_)) | ((with_reducible refine is_pick ?_); (refine At_plain hF (by (exact (rfl : _ = some (Value.bool _)))) ?_)) | ((with_reducible refine is_extract ?_); (refine At_plain hF (by (exact (rfl : _ = some (Value.int _ _)))) ?_)) | ((with_reducible refine is_call ?_); (refine At_len hF rfl ?_)) | with_reducible refine At_nil ?_)) | ((with_reducible refine is_At ?_); (first | with_reducible refine At_seq ?_; intro K hK | with_reducible refine At_region ?_ | with_reducible refine At_then_n ?_ | with_reducible refine At_go (by assumption) ?_))))
  rw [show (((m.length : Nat) : Int) == 0) = false by rw [beq_eq_false_iff_ne]; omega]
  (repeat (first | ((with_reducible refine is_AL ?_); (first | ((with_reducible refine is_guarded ?_); (refine At_guard_t rfl (by decide) rfl ?_)) | ((with_reducible refine is_move ?_); (refine At_plain hF (by (exact (rfl : _ = some (Value.int _ _)))) ?_)) | ((with_reducible refine is_bin ?_); (refine At_plain hF (by (exact (rfl : _ = some (Value.bool _)))) ?_)) | ((with_reducible refine is_pick ?_); (refine At_plain hF (by (exact (rfl : _ = some (Value.bool _)))) ?_)) | with_reducible refine At_nil ?_)) | ((with_reducible refine is_At ?_); (first | with_reducible refine At_then_n ?_ | with_reducible refine At_go (by assumption) ?_))))
  ((with_reducible refine is_cond ?_); (refine At_cond rfl ?_ ?_ <;> (intro hg; try (simp only [decide_eq_true_eq, decide_eq_false_iff_not, beq_iff_eq, bne_iff_ne, beq_eq_false_iff_ne, bne_eq_false_iff_eq, ne_eq, Bool.not_eq_true', Bool.not_eq_false', Bool.not_true, Bool.not_false, Decidable.not_not] at hg); try (exfalso; first | omega | exact hg True.intro))))
  (repeat (first | ((with_reducible refine is_AL ?_); ((with_reducible refine is_move ?_); (refine At_plain hF (by (exact (rfl : _ = some (Value.int _ _)))) ?_))) | ((with_reducible refine is_At ?_); (first | with_reducible refine At_seq ?_; intro K hK | with_reducible refine At_region ?_ | with_reducible refine At_skip ?_ | with_reducible refine At_then_n ?_ | with_reducible refine At_go (by assumption) ?_))))
  refine At_conv hF Try.underlying44 Try.underlying3 (by exact rfl) ?_
  rw [show IntKind.i64.wrap (a : Int) = a from XW.wrap64_in (by omega) (by omega)]
  (repeat (first | ((with_reducible refine is_AL ?_); (first | ((with_reducible refine is_move ?_); (refine At_plain hF (by (exact (rfl : _ = some (Value.slice _ _ _)))) ?_)) | ((with_reducible refine is_bin ?_); ((with_reducible refine is_brem ?_); (refine At_rem hF rfl rfl (by omega) ?_))) | ((with_reducible refine is_assign ?_); (refine At_plain hF (by (exact (rfl : _ = some (Value.int _ _)))) ?_)) | ((with_reducible refine is_call ?_); (refine At_len hF rfl ?_)) | with_reducible refine At_nil ?_)) | ((with_reducible refine is_At ?_); (first | with_reducible refine At_seq ?_; intro K hK | with_reducible refine At_then_n ?_ | with_reducible refine At_go (by assumption) ?_))))
  rw [show (a : Int) % ((m.length : Nat) : Int) = (k : Nat) by rw [hkk]; omega]
  have hkl : k < m.length := by rw [hkk]; exact Nat.mod_lt _ (by omega)
  clear hkk
  refine At_rowSome 0 rfl (by omega) ?_
  rintro bA rfl
  refine At_rowCap 0 rfl ?_
  intro hmc
  have htl : (m.take k).length = k := by rw [List.length_take]; omega
  have hdl : (m.drop (k + 1)).length = m.length - (k + 1) := List.length_drop
  refine At_drawE hF 10 [1, 2, 3, 5, 6, 7, 8] [] [0, 4, 9] ([.row 37 3 enc37 (some bA) c m]) (by kernel_rfl) (by decide +kernel) (by decide +kernel) ?_; simp only [List.drop_succ_cons, List.drop_zero]; (repeat ((with_reducible refine is_AQF ?_); first | refine AQF_early (by decide) (by exact (rfl : _ = some (Oper.mk _ _ _ _ _ _))) (by intro K Q hK; (repeat ((with_reducible refine is_move ?_); (refine At_plain hF (by (first | exact (rfl : _ = some (Value.int _ _)) | exact (rfl : _ = some (Value.slice _ _ _)))) ?_))); exact At_nilK hK) ?_ | refine AQF_late (by decide) (by exact (rfl : _ = some (Oper.mk _ _ _ _ _ _))) (by intro E K Q hK; simp only [List.cons_append, List.nil_append] at hK ⊢; (repeat ((with_reducible refine is_move ?_); (refine At_plain hF (by (first | exact (rfl : _ = some (Value.int _ _)) | exact (rfl : _ = some (Value.slice _ _ _)))) ?_))); exact At_nilK hK) ?_))
  refine AQF_late (by decide) (by exact (rfl : _ = some (Oper.mk _ _ _ _ _ _))) (by intro E K Q hK; simp only [List.cons_append, List.nil_append] at hK ⊢; refine At_cut_h hF (by exact rfl) (by exact rfl) (by omega) ?_; exact At_nilK hK) ?_
  (repeat ((with_reducible refine is_AQF ?_); first | refine AQF_early (by decide) (by exact (rfl : _ = some (Oper.mk _ _ _ _ _ _))) (by intro K Q hK; (repeat (first | ((with_reducible refine is_move ?_); (refine At_plain hF (by (first | exact (rfl : _ = some (Value.int _ _)) | exact (rfl : _ = some (Value.slice _ _ _)))) ?_)) | ((with_reducible refine is_bin ?_); ((with_reducible refine is_badd ?_); (refine At_add hF rfl rfl (by omega) ?_))))); exact At_nilK hK) ?_ | refine AQF_late (by decide) (by exact (rfl : _ = some (Oper.mk _ _ _ _ _ _))) (by intro E K Q hK; simp only [List.cons_append, List.nil_append] at hK ⊢; (repeat (first | ((with_reducible refine is_move ?_); (refine At_plain hF (by (first | exact (rfl : _ = some (Value.int _ _)) | exact (rfl : _ = some (Value.slice _ _ _)))) ?_)) | ((with_reducible refine is_bin ?_); ((with_reducible refine is_badd ?_); (refine At_add hF rfl rfl (by omega) ?_))))); exact At_nilK hK) ?_))
  rw [show (k : Int) + 1 = ((k + 1 : Nat) : Int) by omega]
  refine AQF_late (by decide) (by exact (rfl : _ = some (Oper.mk _ _ _ _ _ _))) (by intro E K Q hK; simp only [List.cons_append, List.nil_append] at hK ⊢; refine At_cut_l hF (by exact rfl) (by exact rfl) (by omega) ?_; exact At_nilK hK) ?_
  (repeat ((with_reducible refine is_AQF ?_); first | refine AQF_early (by decide) (by exact (rfl : _ = some (Oper.mk _ _ _ _ _ _))) (by intro K Q hK; skip; exact At_nilK hK) ?_ | refine AQF_late (by decide) (by exact (rfl : _ = some (Oper.mk _ _ _ _ _ _))) (by intro E K Q hK; simp only [List.cons_append, List.nil_append] at hK ⊢; skip; exact At_nilK hK) ?_))
  refine AQF_done ?_
  (refine WAt_cons ?_ (by exact (rfl : _ = some (Oper.mk _ _ _ _ _ _))) ?_; (focus (repeat (first | exact List.Sublist.refl _ | exact List.Sublist.slnil | refine List.Sublist.cons_cons _ ?_ | refine List.Sublist.cons _ ?_))); intro K Q hK)
  refine At_slice0 hF enc37 enc37_len ?_
  intro b0
  refine At_nilK (hK _ _ ?_)
  (refine WAt_cons ?_ (by exact (rfl : _ = some (Oper.mk _ _ _ _ _ _))) ?_; (focus (repeat (first | exact List.Sublist.refl _ | exact List.Sublist.slnil | refine List.Sublist.cons_cons _ ?_ | refine List.Sublist.cons _ ?_))); intro K Q hK)
  refine At_spread hF (e := 37) (sz := 3) (enc := enc37) (A := some b0) (l := []) (ys := m.take k) 0 rfl (by exact rfl) rfl (by exact rfl) (by rw [htl]; rfl) (fun w' hw' => lies_cut (C_ownI hw' 1 rfl) 0 k (Nat.zero_le _) (by omega) hmc) (by decide) (one37 _) (by simp only [TS.bytes, List.length_nil]; omega) (by simp only [List.length_nil]; omega) (fun e => absurd e (cutA_some _ _ _ _)) ?_
  intro A1 c1
  simp only [List.set_cons_zero, List.nil_append]
  refine At_nilK (hK _ _ ?_)
  (refine WAt_cons ?_ (by exact (rfl : _ = some (Oper.mk _ _ _ _ _ _))) ?_; (focus (repeat (first | exact List.Sublist.refl _ | exact List.Sublist.slnil | refine List.Sublist.cons_cons _ ?_ | refine List.Sublist.cons _ ?_))); intro K Q hK)
  refine At_spread hF (e := 37) (sz := 3) (enc := enc37) (A := A1) (l := m.take k) (ys := m.drop (k + 1)) 0 rfl (by exact rfl) (by simp) (by exact rfl) (by rw [hdl]) (fun w' hw' => (by have := lies_cut (C_ownI hw' 1 rfl) (k + 1) m.length (by omega) (Nat.le_refl _) hmc; rwa [List.take_length] at this)) (by decide) (one37 _) (by simp only [TS.bytes]; omega) (by omega) (fun e => absurd e (cutA_some _ _ _ _)) ?_
  intro A2 c2
  simp only [List.set_cons_zero]
  rw [show (m.take k).length + (m.drop (k + 1)).length = rest.length by rw [hrest, List.length_append], ← hrest]
  refine At_nilK (hK _ _ ?_)
  (refine WAt_nil ?_ ?_; (focus (repeat (first | exact List.Sublist.refl _ | exact List.Sublist.slnil | refine List.Sublist.cons_cons _ ?_ | refine List.Sublist.cons _ ?_))))
  (repeat (first | ((with_reducible refine is_AL ?_); (first | ((with_reducible refine is_assign ?_); (refine At_plain hF (by (exact (rfl : _ = some (Value.slice _ _ _)))) ?_)) | with_reducible refine At_nil ?_)) | ((with_reducible refine is_At ?_); (first | with_reducible refine At_seq ?_; intro K hK | with_reducible refine At_then_n ?_ | with_reducible refine At_go (by assumption) ?_))))
  refine At_merge [(0, .int .i64 n), (1, .int .i64 kind), (3, .int .u8 bb), (9, rowV (some bA) m.length c), (11, .int .i64 rq), (13, .int .i64 k), (14, rowV A2 rest.length c2), (90, .bool false)] [.row 37 3 enc37 A2 c2 rest, .row 37 3 enc37 (some bA) c m] ?_ ?_
  · intro K' hK'
    have hdk : (m.drop k).length = m.length - k := List.length_drop
    refine At_drawF hF 23 [0, 1, 2, 3, 4, 5, 6, 7, 9, 10, 11, 13, 14, 15, 16, 19, 20, 21] [] [8, 12, 17, 18, 22] ([.row 37 3 enc37 A2 c2 rest, .row 37 3 enc37 (some bA) c m]) (by kernel_rfl) (by decide +kernel) (by decide +kernel) ?_; simp only [List.drop_succ_cons, List.drop_zero]; (repeat ((with_reducible refine is_AQF ?_); first | refine AQF_early (by decide) (by exact (rfl : _ = some (Oper.mk _ _ _ _ _ _))) (by intro K Q hK; (repeat ((with_reducible refine is_move ?_); (refine At_plain hF (by (first | exact (rfl : _ = some (Value.int _ _)) | exact (rfl : _ = some (Value.slice _ _ _)))) ?_))); exact At_nilK hK) ?_ | refine AQF_late (by decide) (by exact (rfl : _ = some (Oper.mk _ _ _ _ _ _))) (by intro E K Q hK; simp only [List.cons_append, List.nil_append] at hK ⊢; (repeat ((with_reducible refine is_move ?_); (refine At_plain hF (by (first | exact (rfl : _ = some (Value.int _ _)) | exact (rfl : _ = some (Value.slice _ _ _)))) ?_))); exact At_nilK hK) ?_))
    refine AQF_late (by decide) (by exact (rfl : _ = some (Oper.mk _ _ _ _ _ _))) (by intro E K Q hK; simp only [List.cons_append, List.nil_append] at hK ⊢; refine At_callB hF E15 rfl (u := .int .i64 200) (arg3 (by (first | exact (rfl : _ = (Value.int _ _)) | exact (rfl : _ = (Value.bool _)) | exact (rfl : _ = (Value.pointer _)) | exact (rfl : _ = (Value.slice _ _ _)) | exact (rfl : _ = (Value.map _)) | exact (rfl : _ = (Value.func _ _ _)) | exact (rfl : _ = (Value.tuple _)) | exact (rfl : _ = (Value.agg _)) | exact (rfl : _ = (Value.string _)) | exact (rfl : _ = (Value.nilFunc)) | exact (rfl : _ = (Value.nilIface)))) (by (first | exact (rfl : _ = (Value.int _ _)) | exact (rfl : _ = (Value.bool _)) | exact (rfl : _ = (Value.pointer _)) | exact (rfl : _ = (Value.slice _ _ _)) | exact (rfl : _ = (Value.map _)) | exact (rfl : _ = (Value.func _ _ _)) | exact (rfl : _ = (Value.tuple _)) | exact (rfl : _ = (Value.agg _)) | exact (rfl : _ = (Value.string _)) | exact (rfl : _ = (Value.nilFunc)) | exact (rfl : _ = (Value.nilIface)))) (by (first | exact (rfl : _ = (Value.int _ _)) | exact (rfl : _ = (Value.bool _)) | exact (rfl : _ = (Value.pointer _)) | exact (rfl : _ = (Value.slice _ _ _)) | exact (rfl : _ = (Value.map _)) | exact (rfl : _ = (Value.func _ _ _)) | exact (rfl : _ = (Value.tuple _)) | exact (rfl : _ = (Value.agg _)) | exact (rfl : _ = (Value.string _)) | exact (rfl : _ = (Value.nilFunc)) | exact (rfl : _ = (Value.nilIface))))) (fun w' hw' => hcr w' _ c2 (C_ownI hw' 0 rfl)) ?_; exact At_nilK hK) ?_
    (repeat ((with_reducible refine is_AQF ?_); first | refine AQF_early (by decide) (by exact (rfl : _ = some (Oper.mk _ _ _ _ _ _))) (by intro K Q hK; (repeat (first | ((with_reducible refine is_guarded ?_); (refine At_guard_t rfl (by decide) rfl ?_)) | ((with_reducible refine is_move ?_); (refine At_plain hF (by (first | exact (rfl : _ = some (Value.int _ _)) | exact (rfl : _ = some (Value.bool _)) | exact (rfl : _ = some (Value.slice _ _ _)))) ?_)) | ((with_reducible refine is_bin ?_); (refine At_plain hF (by (exact (rfl : _ = some (Value.bool _)))) ?_)))); exact At_nilK hK) ?_ | refine AQF_late (by decide) (by exact (rfl : _ = some (Oper.mk _ _ _ _ _ _))) (by intro E K Q hK; simp only [List.cons_append, List.nil_append] at hK ⊢; (repeat (first | ((with_reducible refine is_guarded ?_); (refine At_guard_t rfl (by decide) rfl ?_)) | ((with_reducible refine is_move ?_); (refine At_plain hF (by (first | exact (rfl : _ = some (Value.int _ _)) | exact (rfl : _ = some (Value.bool _)) | exact (rfl : _ = some (Value.slice _ _ _)))) ?_)) | ((with_reducible refine is_bin ?_); (refine At_plain hF (by (exact (rfl : _ = some (Value.bool _)))) ?_)))); exact At_nilK hK) ?_))
    refine AQF_late (by decide) (by exact (rfl : _ = some (Oper.mk _ _ _ _ _ _))) (by intro E K Q hK; simp only [List.cons_append, List.nil_append] at hK ⊢; refine At_guard_t rfl (by decide) rfl ?_; refine At_cut_h hF (by exact rfl) (by exact rfl) (by omega) ?_; exact At_nilK hK) ?_
    (repeat ((with_reducible refine is_AQF ?_); first | refine AQF_early (by decide) (by exact (rfl : _ = some (Oper.mk _ _ _ _ _ _))) (by intro K Q hK; (repeat (first | ((with_reducible refine is_guarded ?_); (refine At_guard_t rfl (by decide) rfl ?_)) | ((with_reducible refine is_move ?_); (refine At_plain hF (by (first | exact (rfl : _ = some (Value.int _ _)) | exact (rfl : _ = some (Value.slice _ _ _)))) ?_)) | ((with_reducible refine is_index ?_); (refine At_indexS hF rfl rfl (by omega) ?_)))); exact At_nilK hK) ?_ | refine AQF_late (by decide) (by exact (rfl : _ = some (Oper.mk _ _ _ _ _ _))) (by intro E K Q hK; simp only [List.cons_append, List.nil_append] at hK ⊢; (repeat (first | ((with_reducible refine is_guarded ?_); (refine At_guard_t rfl (by decide) rfl ?_)) | ((with_reducible refine is_move ?_); (refine At_plain hF (by (first | exact (rfl : _ = some (Value.int _ _)) | exact (rfl : _ = some (Value.slice _ _ _)))) ?_)) | ((with_reducible refine is_index ?_); (refine At_indexS hF rfl rfl (by omega) ?_)))); exact At_nilK hK) ?_))
    refine AQF_late (by decide) (by exact (rfl : _ = some (Oper.mk _ _ _ _ _ _))) (by intro E K Q hK; simp only [List.cons_append, List.nil_append] at hK ⊢; refine At_guard_t rfl (by decide) rfl ?_; refine At_loadRow hF 1 (by exact rfl) rfl z37 hkl rfl (v := .agg #[.int .i64 x.f0, .int .i64 x.f1, .int .i64 x.f2]) (by rw [← hx]; rfl) ?_; exact At_nilK hK) ?_
    (repeat ((with_reducible refine is_AQF ?_); first | refine AQF_early (by decide) (by exact (rfl : _ = some (Oper.mk _ _ _ _ _ _))) (by intro K Q hK; (repeat (first | ((with_reducible refine is_guarded ?_); (refine At_guard_t rfl (by decide) rfl ?_)) | ((with_reducible refine is_move ?_); (refine At_plain hF (by (first | exact (rfl : _ = some (Value.int _ _)) | exact (rfl : _ = some (Value.slice _ _ _)))) ?_)))); exact At_nilK hK) ?_ | refine AQF_late (by decide) (by exact (rfl : _ = some (Oper.mk _ _ _ _ _ _))) (by intro E K Q hK; simp only [List.cons_append, List.nil_append] at hK ⊢; (repeat (first | ((with_reducible refine is_guarded ?_); (refine At_guard_t rfl (by decide) rfl ?_)) | ((with_reducible refine is_move ?_); (refine At_plain hF (by (first | exact (rfl : _ = some (Value.int _ _)) | exact (rfl : _ = some (Value.slice _ _ _)))) ?_)))); exact At_nilK hK) ?_))
    refine AQF_late (by decide) (by exact (rfl : _ = some (Oper.mk _ _ _ _ _ _))) (by intro E K Q hK; simp only [List.cons_append, List.nil_append] at hK ⊢; refine At_guard_t rfl (by decide) rfl ?_; refine At_cut_l hF (by exact rfl) (by exact rfl) (by omega) ?_; exact At_nilK hK) ?_
    (repeat ((with_reducible refine is_AQF ?_); first | refine AQF_early (by decide) (by exact (rfl : _ = some (Oper.mk _ _ _ _ _ _))) (by intro K Q hK; skip; exact At_nilK hK) ?_ | refine AQF_late (by decide) (by exact (rfl : _ = some (Oper.mk _ _ _ _ _ _))) (by intro E K Q hK; simp only [List.cons_append, List.nil_append] at hK ⊢; skip; exact At_nilK hK) ?_))
    refine AQF_doneF ?_
    refine FAt_step (l := [8, 17]) (by (repeat (first | exact List.Sublist.refl _ | exact List.Sublist.slnil | refine List.Sublist.cons_cons _ ?_ | refine List.Sublist.cons _ ?_))) (by decide +kernel) ?_
    refine AT_all ?_ ?_
    · refine FAt_op (by exact (rfl : _ = some (Oper.mk _ _ _ _ _ _))) ?_
      intro K Q' hK
      refine At_guard_t rfl (by decide) rfl ?_
      refine At_slice0 hF enc37 enc37_len ?_
      intro b8
      refine At_nilK (hK _ _ ?_)
      refine FAt_step (l := [12, 17]) (by (repeat (first | exact List.Sublist.refl _ | exact List.Sublist.slnil | refine List.Sublist.cons_cons _ ?_ | refine List.Sublist.cons _ ?_))) (by decide +kernel) ?_
      refine AT_all ?_ ?_
      · refine FAt_op (by exact (rfl : _ = some (Oper.mk _ _ _ _ _ _))) ?_
        intro K Q' hK
        refine At_guard_t rfl (by decide) rfl ?_
        (first | (refine At_spread hF (e := 37) (sz := 3) (enc := enc37) (A := some b8) (l := []) (ys := m.take k) 0 rfl (by exact rfl) (by simp) (by exact rfl) (by rw [htl]; rfl) (fun w' hw' => lies_cut (C_ownI hw' 2 rfl) 0 k (Nat.zero_le _) (by omega) hmc) (by decide) (one37 _) (by simp only [TS.bytes, List.length_append, List.length_cons, List.length_nil]; omega) (by simp only [List.length_append, List.length_cons, List.length_nil]; omega) (fun e => absurd e (cutA_some _ _ _ _)) ?_) | (refine At_spread hF (e := 37) (sz := 3) (enc := enc37) (A := some b8) (l := []) (ys := m.take k) 0 rfl (by exact rfl) (by simp) (by exact rfl) (by rw [htl]; rfl) (fun w' hw' => lies_cut (C_ownI hw' 3 rfl) 0 k (Nat.zero_le _) (by omega) hmc) (by decide) (one37 _) (by simp only [TS.bytes, List.length_append, List.length_cons, List.length_nil]; omega) (by simp only [List.length_append, List.length_cons, List.length_nil]; omega) (fun e => absurd e (cutA_some _ _ _ _)) ?_) | (refine At_spread hF (e := 37) (sz := 3) (enc := enc37) (A := some b8) (l := []) (ys := m.take k) 1 rfl (by exact rfl) (by simp) (by exact rfl) (by rw [htl]; rfl) (fun w' hw' => lies_cut (C_ownI hw' 3 rfl) 0 k (Nat.zero_le _) (by omega) hmc) (by decide) (one37 _) (by simp only [TS.bytes, List.length_append, List.length_cons, List.length_nil]; omega) (by simp only [List.length_append, List.length_cons, List.length_nil]; omega) (fun e => absurd e (cutA_some _ _ _ _)) ?_))
        intro A12 c12
        simp only [List.set_cons_zero, List.set_cons_succ, List.nil_append]
        refine At_nilK (hK _ _ ?_)
        refine FAt_step (l := [17]) (by (repeat (first | exact List.Sublist.refl _ | exact List.Sublist.slnil | refine List.Sublist.cons_cons _ ?_ | refine List.Sublist.cons _ ?_))) (by decide +kernel) ?_
        refine AT_all1 ?_
        · refine FAt_op (by exact (rfl : _ = some (Oper.mk _ _ _ _ _ _))) ?_
          intro K Q' hK
          refine At_guard_t rfl (by decide) rfl ?_
          refine At_sliceA_1 hF (by decide) rfl rfl ?_
          intro b17
          refine At_nilK (hK _ _ ?_)
          refine FAt_step (l := [18]) (by (repeat (first | exact List.Sublist.refl _ | exact List.Sublist.slnil | refine List.Sublist.cons_cons _ ?_ | refine List.Sublist.cons _ ?_))) (by decide +kernel) ?_
          refine AT_all1 ?_
          · refine FAt_op (by exact (rfl : _ = some (Oper.mk _ _ _ _ _ _))) ?_
            intro K Q' hK
            refine At_guard_t rfl (by decide) rfl ?_
            (first | (refine At_append hF (e := 37) (i := 1) (j := 0) rfl rfl (by exact rfl) (by simp) (by exact rfl) (enc := enc37) (x0 := x) rfl (by decide) (by simp [Value.one1]) (by simp only [TS.bytes]; omega) (by omega) ?_) | (refine At_append hF (e := 37) (i := 0) (j := 1) rfl rfl (by exact rfl) (by simp) (by exact rfl) (enc := enc37) (x0 := x) rfl (by decide) (by simp [Value.one1]) (by simp only [TS.bytes]; omega) (by omega) ?_))
            intro A18 c18
            simp only [List.set_cons_zero, List.set_cons_succ]
            refine At_nilK (hK _ _ ?_)
            refine FAt_step (l := [22]) (by (repeat (first | exact List.Sublist.refl _ | exact List.Sublist.slnil | refine List.Sublist.cons_cons _ ?_ | refine List.Sublist.cons _ ?_))) (by decide +kernel) ?_
            refine AT_all1 ?_
            · refine FAt_op (by exact (rfl : _ = some (Oper.mk _ _ _ _ _ _))) ?_
              intro K Q' hK
              refine At_guard_t rfl (by decide) rfl ?_
              (first | (refine At_spread hF (e := 37) (sz := 3) (enc := enc37) (A := A18) (l := m.take k ++ [x]) (ys := m.drop k) 1 rfl (by exact rfl) (by simp) (by exact rfl) (by rw [List.length_drop]) (fun w' hw' => (by have := lies_cut (C_ownI hw' 3 rfl) k m.length (by omega) (Nat.le_refl _) hmc; rwa [List.take_length] at this)) (by decide) (one37 _) (by simp only [TS.bytes, List.length_append, List.length_cons, List.length_nil]; omega) (by simp only [List.length_append, List.length_cons, List.length_nil]; omega) (fun e => absurd e (cutA_some _ _ _ _)) ?_) | (refine At_spread hF (e := 37) (sz := 3) (enc := enc37) (A := A18) (l := m.take k ++ [x]) (ys := m.drop k) 0 rfl (by exact rfl) (by simp) (by exact rfl) (by rw [List.length_drop]) (fun w' hw' => (by have := lies_cut (C_ownI hw' 3 rfl) k m.length (by omega) (Nat.le_refl _) hmc; rwa [List.take_length] at this)) (by decide) (one37 _) (by simp only [TS.bytes, List.length_append, List.length_cons, List.length_nil]; omega) (by simp only [List.length_append, List.length_cons, List.length_nil]; omega) (fun e => absurd e (cutA_some _ _ _ _)) ?_))
              intro A22 c22
              simp only [List.set_cons_zero, List.set_cons_succ]
              refine At_nilK (hK _ _ ?_)
              refine FAt_done (by (repeat (first | exact List.Sublist.refl _ | exact List.Sublist.slnil | refine List.Sublist.cons_cons _ ?_ | refine List.Sublist.cons _ ?_))) (by decide +kernel) ?_
              refine At_guard_t rfl (by decide) rfl ?_
              rw [show (m.take k ++ [x]).length + (m.drop k).length = (m.take k ++ [x] ++ m.drop k).length from (List.length_append ..).symm]
              (first | (refine At_callB hF E15 rfl (u := .int .i64 200) (arg3 (by (first | exact (rfl : _ = (Value.int _ _)) | exact (rfl : _ = (Value.bool _)) | exact (rfl : _ = (Value.pointer _)) | exact (rfl : _ = (Value.slice _ _ _)) | exact (rfl : _ = (Value.map _)) | exact (rfl : _ = (Value.func _ _ _)) | exact (rfl : _ = (Value.tuple _)) | exact (rfl : _ = (Value.agg _)) | exact (rfl : _ = (Value.string _)) | exact (rfl : _ = (Value.nilFunc)) | exact (rfl : _ = (Value.nilIface)))) (by (first | exact (rfl : _ = (Value.int _ _)) | exact (rfl : _ = (Value.bool _)) | exact (rfl : _ = (Value.pointer _)) | exact (rfl : _ = (Value.slice _ _ _)) | exact (rfl : _ = (Value.map _)) | exact (rfl : _ = (Value.func _ _ _)) | exact (rfl : _ = (Value.tuple _)) | exact (rfl : _ = (Value.agg _)) | exact (rfl : _ = (Value.string _)) | exact (rfl : _ = (Value.nilFunc)) | exact (rfl : _ = (Value.nilIface)))) (by (first | exact (rfl : _ = (Value.int _ _)) | exact (rfl : _ = (Value.bool _)) | exact (rfl : _ = (Value.pointer _)) | exact (rfl : _ = (Value.slice _ _ _)) | exact (rfl : _ = (Value.map _)) | exact (rfl : _ = (Value.func _ _ _)) | exact (rfl : _ = (Value.tuple _)) | exact (rfl : _ = (Value.agg _)) | exact (rfl : _ = (Value.string _)) | exact (rfl : _ = (Value.nilFunc)) | exact (rfl : _ = (Value.nilIface))))) (fun w' hw' => hcd w' _ c22 (C_ownI hw' 1 rfl)) ?_) | (refine At_callB hF E15 rfl (u := .int .i64 200) (arg3 (by (first | exact (rfl : _ = (Value.int _ _)) | exact (rfl : _ = (Value.bool _)) | exact (rfl : _ = (Value.pointer _)) | exact (rfl : _ = (Value.slice _ _ _)) | exact (rfl : _ = (Value.map _)) | exact (rfl : _ = (Value.func _ _ _)) | exact (rfl : _ = (Value.tuple _)) | exact (rfl : _ = (Value.agg _)) | exact (rfl : _ = (Value.string _)) | exact (rfl : _ = (Value.nilFunc)) | exact (rfl : _ = (Value.nilIface)))) (by (first | exact (rfl : _ = (Value.int _ _)) | exact (rfl : _ = (Value.bool _)) | exact (rfl : _ = (Value.pointer _)) | exact (rfl : _ = (Value.slice _ _ _)) | exact (rfl : _ = (Value.map _)) | exact (rfl : _ = (Value.func _ _ _)) | exact (rfl : _ = (Value.tuple _)) | exact (rfl : _ = (Value.agg _)) | exact (rfl : _ = (Value.string _)) | exact (rfl : _ = (Value.nilFunc)) | exact (rfl : _ = (Value.nilIface)))) (by (first | exact (rfl : _ = (Value.int _ _)) | exact (rfl : _ = (Value.bool _)) | exact (rfl : _ = (Value.pointer _)) | exact (rfl : _ = (Value.slice _ _ _)) | exact (rfl : _ = (Value.map _)) | exact (rfl : _ = (Value.func _ _ _)) | exact (rfl : _ = (Value.tuple _)) | exact (rfl : _ = (Value.agg _)) | exact (rfl : _ = (Value.string _)) | exact (rfl : _ = (Value.nilFunc)) | exact (rfl : _ = (Value.nilIface))))) (fun w' hw' => hcd w' _ c22 (C_ownI hw' 0 rfl)) ?_))
              (repeat (first | ((with_reducible refine is_AL ?_); (first | ((with_reducible refine is_guarded ?_); (refine At_guard_t rfl (by decide) rfl ?_)) | ((with_reducible refine is_bin ?_); (refine At_plain hF (by (exact (rfl : _ = some (Value.bool _)))) ?_)) | ((with_reducible refine is_pick ?_); (refine At_plain hF (by (exact (rfl : _ = some (Value.bool _)))) ?_)) | with_reducible refine At_nil ?_)) | ((with_reducible refine is_At ?_); (with_reducible refine At_then_n ?_))))
              refine At.sub ?_ (hK' _ ?_)
              · (repeat (first | exact List.Sublist.refl _ | exact List.Sublist.slnil | refine List.Sublist.cons_cons _ ?_ | refine List.Sublist.cons _ ?_))
              · (repeat (first | exact True.intro | (refine And.intro ?_ ?_; focus (show _ = (_ : Value); first | exact rfl | (refine Eq.trans (b := Value.int IntKind.i64 _) rfl (congrArg (Value.int IntKind.i64) ?_); omega)))))
      refine AT_all1 ?_
      · refine FAt_op (by exact (rfl : _ = some (Oper.mk _ _ _ _ _ _))) ?_
        intro K Q' hK
        refine At_guard_t rfl (by decide) rfl ?_
        refine At_sliceA_1 hF (by decide) rfl rfl ?_
        intro b17
        refine At_nilK (hK _ _ ?_)
        refine FAt_step (l := [12]) (by (repeat (first | exact List.Sublist.refl _ | exact List.Sublist.slnil | refine List.Sublist.cons_cons _ ?_ | refine List.Sublist.cons _ ?_))) (by decide +kernel) ?_
        refine AT_all1 ?_
        · refine FAt_op (by exact (rfl : _ = some (Oper.mk _ _ _ _ _ _))) ?_
          intro K Q' hK
          refine At_guard_t rfl (by decide) rfl ?_
          (first | (refine At_spread hF (e := 37) (sz := 3) (enc := enc37) (A := some b8) (l := []) (ys := m.take k) 0 rfl (by exact rfl) (by simp) (by exact rfl) (by rw [htl]; rfl) (fun w' hw' => lies_cut (C_ownI hw' 2 rfl) 0 k (Nat.zero_le _) (by omega) hmc) (by decide) (one37 _) (by simp only [TS.bytes, List.length_append, List.length_cons, List.length_nil]; omega) (by simp only [List.length_append, List.length_cons, List.length_nil]; omega) (fun e => absurd e (cutA_some _ _ _ _)) ?_) | (refine At_spread hF (e := 37) (sz := 3) (enc := enc37) (A := some b8) (l := []) (ys := m.take k) 0 rfl (by exact rfl) (by simp) (by exact rfl) (by rw [htl]; rfl) (fun w' hw' => lies_cut (C_ownI hw' 3 rfl) 0 k (Nat.zero_le _) (by omega) hmc) (by decide) (one37 _) (by simp only [TS.bytes, List.length_append, List.length_cons, List.length_nil]; omega) (by simp only [List.length_append, List.length_cons, List.length_nil]; omega) (fun e => absurd e (cutA_some _ _ _ _)) ?_) | (refine At_spread hF (e := 37) (sz := 3) (enc := enc37) (A := some b8) (l := []) (ys := m.take k) 1 rfl (by exact rfl) (by simp) (by exact rfl) (by rw [htl]; rfl) (fun w' hw' => lies_cut (C_ownI hw' 3 rfl) 0 k (Nat.zero_le _) (by omega) hmc) (by decide) (one37 _) (by simp only [TS.bytes, List.length_append, List.length_cons, List.length_nil]; omega) (by simp only [List.length_append, List.length_cons, List.length_nil]; omega) (fun e => absurd e (cutA_some _ _ _ _)) ?_))
          intro A12 c12
          simp only [List.set_cons_zero, List.set_cons_succ, List.nil_append]
          refine At_nilK (hK _ _ ?_)
          refine FAt_step (l := [18]) (by (repeat (first | exact List.Sublist.refl _ | exact List.Sublist.slnil | refine List.Sublist.cons_cons _ ?_ | refine List.Sublist.cons _ ?_))) (by decide +kernel) ?_
          refine AT_all1 ?_
          · refine FAt_op (by exact (rfl : _ = some (Oper.mk _ _ _ _ _ _))) ?_
            intro K Q' hK
            refine At_guard_t rfl (by decide) rfl ?_
            (first | (refine At_append hF (e := 37) (i := 1) (j := 0) rfl rfl (by exact rfl) (by simp) (by exact rfl) (enc := enc37) (x0 := x) rfl (by decide) (by simp [Value.one1]) (by simp only [TS.bytes]; omega) (by omega) ?_) | (refine At_append hF (e := 37) (i := 0) (j := 1) rfl rfl (by exact rfl) (by simp) (by exact rfl) (enc := enc37) (x0 := x) rfl (by decide) (by simp [Value.one1]) (by simp only [TS.bytes]; omega) (by omega) ?_))
            intro A18 c18
            simp only [List.set_cons_zero, List.set_cons_succ]
            refine At_nilK (hK _ _ ?_)
            refine FAt_step (l := [22]) (by (repeat (first | exact List.Sublist.refl _ | exact List.Sublist.slnil | refine List.Sublist.cons_cons _ ?_ | refine List.Sublist.cons _ ?_))) (by decide +kernel) ?_
            refine AT_all1 ?_
            · refine FAt_op (by exact (rfl : _ = some (Oper.mk _ _ _ _ _ _))) ?_
              intro K Q' hK
              refine At_guard_t rfl (by decide) rfl ?_
              (first | (refine At_spread hF (e := 37) (sz := 3) (enc := enc37) (A := A18) (l := m.take k ++ [x]) (ys := m.drop k) 1 rfl (by exact rfl) (by simp) (by exact rfl) (by rw [List.length_drop]) (fun w' hw' => (by have := lies_cut (C_ownI hw' 3 rfl) k m.length (by omega) (Nat.le_refl _) hmc; rwa [List.take_length] at this)) (by decide) (one37 _) (by simp only [TS.bytes, List.length_append, List.length_cons, List.length_nil]; omega) (by simp only [List.length_append, List.length_cons, List.length_nil]; omega) (fun e => absurd e (cutA_some _ _ _ _)) ?_) | (refine At_spread hF (e := 37) (sz := 3) (enc := enc37) (A := A18) (l := m.take k ++ [x]) (ys := m.drop k) 0 rfl (by exact rfl) (by simp) (by exact rfl) (by rw [List.length_drop]) (fun w' hw' => (by have := lies_cut (C_ownI hw' 3 rfl) k m.length (by omega) (Nat.le_refl _) hmc; rwa [List.take_length] at this)) (by decide) (one37 _) (by simp only [TS.bytes, List.length_append, List.length_cons, List.length_nil]; omega) (by simp only [List.length_append, List.length_cons, List.length_nil]; omega) (fun e => absurd e (cutA_some _ _ _ _)) ?_))
              intro A22 c22
              simp only [List.set_cons_zero, List.set_cons_succ]
              refine At_nilK (hK _ _ ?_)
              refine FAt_done (by (repeat (first | exact List.Sublist.refl _ | exact List.Sublist.slnil | refine List.Sublist.cons_cons _ ?_ | refine List.Sublist.cons _ ?_))) (by decide +kernel) ?_
              refine At_guard_t rfl (by decide) rfl ?_
              rw [show (m.take k ++ [x]).length + (m.drop k).length = (m.take k ++ [x] ++ m.drop k).length from (List.length_append ..).symm]
              (first | (refine At_callB hF E15 rfl (u := .int .i64 200) (arg3 (by (first | exact (rfl : _ = (Value.int _ _)) | exact (rfl : _ = (Value.bool _)) | exact (rfl : _ = (Value.pointer _)) | exact (rfl : _ = (Value.slice _ _ _)) | exact (rfl : _ = (Value.map _)) | exact (rfl : _ = (Value.func _ _ _)) | exact (rfl : _ = (Value.tuple _)) | exact (rfl : _ = (Value.agg _)) | exact (rfl : _ = (Value.string _)) | exact (rfl : _ = (Value.nilFunc)) | exact (rfl : _ = (Value.nilIface)))) (by (first | exact (rfl : _ = (Value.int _ _)) | exact (rfl : _ = (Value.bool _)) | exact (rfl : _ = (Value.pointer _)) | exact (rfl : _ = (Value.slice _ _ _)) | exact (rfl : _ = (Value.map _)) | exact (rfl : _ = (Value.func _ _ _)) | exact (rfl : _ = (Value.tuple _)) | exact (rfl : _ = (Value.agg _)) | exact (rfl : _ = (Value.string _)) | exact (rfl : _ = (Value.nilFunc)) | exact (rfl : _ = (Value.nilIface)))) (by (first | exact (rfl : _ = (Value.int _ _)) | exact (rfl : _ = (Value.bool _)) | exact (rfl : _ = (Value.pointer _)) | exact (rfl : _ = (Value.slice _ _ _)) | exact (rfl : _ = (Value.map _)) | exact (rfl : _ = (Value.func _ _ _)) | exact (rfl : _ = (Value.tuple _)) | exact (rfl : _ = (Value.agg _)) | exact (rfl : _ = (Value.string _)) | exact (rfl : _ = (Value.nilFunc)) | exact (rfl : _ = (Value.nilIface))))) (fun w' hw' => hcd w' _ c22 (C_ownI hw' 1 rfl)) ?_) | (refine At_callB hF E15 rfl (u := .int .i64 200) (arg3 (by (first | exact (rfl : _ = (Value.int _ _)) | exact (rfl : _ = (Value.bool _)) | exact (rfl : _ = (Value.pointer _)) | exact (rfl : _ = (Value.slice _ _ _)) | exact (rfl : _ = (Value.map _)) | exact (rfl : _ = (Value.func _ _ _)) | exact (rfl : _ = (Value.tuple _)) | exact (rfl : _ = (Value.agg _)) | exact (rfl : _ = (Value.string _)) | exact (rfl : _ = (Value.nilFunc)) | exact (rfl : _ = (Value.nilIface)))) (by (first | exact (rfl : _ = (Value.int _ _)) | exact (rfl : _ = (Value.bool _)) | exact (rfl : _ = (Value.pointer _)) | exact (rfl : _ = (Value.slice _ _ _)) | exact (rfl : _ = (Value.map _)) | exact (rfl : _ = (Value.func _ _ _)) | exact (rfl : _ = (Value.tuple _)) | exact (rfl : _ = (Value.agg _)) | exact (rfl : _ = (Value.string _)) | exact (rfl : _ = (Value.nilFunc)) | exact (rfl : _ = (Value.nilIface)))) (by (first | exact (rfl : _ = (Value.int _ _)) | exact (rfl : _ = (Value.bool _)) | exact (rfl : _ = (Value.pointer _)) | exact (rfl : _ = (Value.slice _ _ _)) | exact (rfl : _ = (Value.map _)) | exact (rfl : _ = (Value.func _ _ _)) | exact (rfl : _ = (Value.tuple _)) | exact (rfl : _ = (Value.agg _)) | exact (rfl : _ = (Value.string _)) | exact (rfl : _ = (Value.nilFunc)) | exact (rfl : _ = (Value.nilIface))))) (fun w' hw' => hcd w' _ c22 (C_ownI hw' 0 rfl)) ?_))
              (repeat (first | ((with_reducible refine is_AL ?_); (first | ((with_reducible refine is_guarded ?_); (refine At_guard_t rfl (by decide) rfl ?_)) | ((with_reducible refine is_bin ?_); (refine At_plain hF (by (exact (rfl : _ = some (Value.bool _)))) ?_)) | ((with_reducible refine is_pick ?_); (refine At_plain hF (by (exact (rfl : _ = some (Value.bool _)))) ?_)) | with_reducible refine At_nil ?_)) | ((with_reducible refine is_At ?_); (with_reducible refine At_then_n ?_))))
              refine At.sub ?_ (hK' _ ?_)
              · (repeat (first | exact List.Sublist.refl _ | exact List.Sublist.slnil | refine List.Sublist.cons_cons _ ?_ | refine List.Sublist.cons _ ?_))
              · (repeat (first | exact True.intro | (refine And.intro ?_ ?_; focus (show _ = (_ : Value); first | exact rfl | (refine Eq.trans (b := Value.int IntKind.i64 _) rfl (congrArg (Value.int IntKind.i64) ?_); omega)))))
    refine AT_all1 ?_
    · refine FAt_op (by exact (rfl : _ = some (Oper.mk _ _ _ _ _ _))) ?_
      intro K Q' hK
      refine At_guard_t rfl (by decide) rfl ?_
      refine At_sliceA_1 hF (by decide) rfl rfl ?_
      intro b17
      refine At_nilK (hK _ _ ?_)
      refine FAt_step (l := [8]) (by (repeat (first | exact List.Sublist.refl _ | exact List.Sublist.slnil | refine List.Sublist.cons_cons _ ?_ | refine List.Sublist.cons _ ?_))) (by decide +kernel) ?_
      refine AT_all1 ?_
      · refine FAt_op (by exact (rfl : _ = some (Oper.mk _ _ _ _ _ _))) ?_
        intro K Q' hK
        refine At_guard_t rfl (by decide) rfl ?_
        refine At_slice0 hF enc37 enc37_len ?_
        intro b8
        refine At_nilK (hK _ _ ?_)
        refine FAt_step (l := [12]) (by (repeat (first | exact List.Sublist.refl _ | exact List.Sublist.slnil | refine List.Sublist.cons_cons _ ?_ | refine List.Sublist.cons _ ?_))) (by decide +kernel) ?_
        refine AT_all1 ?_
        · refine FAt_op (by exact (rfl : _ = some (Oper.mk _ _ _ _ _ _))) ?_
          intro K Q' hK
          refine At_guard_t rfl (by decide) rfl ?_
          (first | (refine At_spread hF (e := 37) (sz := 3) (enc := enc37) (A := some b8) (l := []) (ys := m.take k) 0 rfl (by exact rfl) (by simp) (by exact rfl) (by rw [htl]; rfl) (fun w' hw' => lies_cut (C_ownI hw' 2 rfl) 0 k (Nat.zero_le _) (by omega) hmc) (by decide) (one37 _) (by simp only [TS.bytes, List.length_append, List.length_cons, List.length_nil]; omega) (by simp only [List.length_append, List.length_cons, List.length_nil]; omega) (fun e => absurd e (cutA_some _ _ _ _)) ?_) | (refine At_spread hF (e := 37) (sz := 3) (enc := enc37) (A := some b8) (l := []) (ys := m.take k) 0 rfl (by exact rfl) (by simp) (by exact rfl) (by rw [htl]; rfl) (fun w' hw' => lies_cut (C_ownI hw' 3 rfl) 0 k (Nat.zero_le _) (by omega) hmc) (by decide) (one37 _) (by simp only [TS.bytes, List.length_append, List.length_cons, List.length_nil]; omega) (by simp only [List.length_append, List.length_cons, List.length_nil]; omega) (fun e => absurd e (cutA_some _ _ _ _)) ?_) | (refine At_spread hF (e := 37) (sz := 3) (enc := enc37) (A := some b8) (l := []) (ys := m.take k) 1 rfl (by exact rfl) (by simp) (by exact rfl) (by rw [htl]; rfl) (fun w' hw' => lies_cut (C_ownI hw' 3 rfl) 0 k (Nat.zero_le _) (by omega) hmc) (by decide) (one37 _) (by simp only [TS.bytes, List.length_append, List.length_cons, List.length_nil]; omega) (by simp only [List.length_append, List.length_cons, List.length_nil]; omega) (fun e => absurd e (cutA_some _ _ _ _)) ?_))
          intro A12 c12
          simp only [List.set_cons_zero, List.set_cons_succ, List.nil_append]
          refine At_nilK (hK _ _ ?_)
          refine FAt_step (l := [18]) (by (repeat (first | exact List.Sublist.refl _ | exact List.Sublist.slnil | refine List.Sublist.cons_cons _ ?_ | refine List.Sublist.cons _ ?_))) (by decide +kernel) ?_
          refine AT_all1 ?_
          · refine FAt_op (by exact (rfl : _ = some (Oper.mk _ _ _ _ _ _))) ?_
            intro K Q' hK
            refine At_guard_t rfl (by decide) rfl ?_
            (first | (refine At_append hF (e := 37) (i := 1) (j := 0) rfl rfl (by exact rfl) (by simp) (by exact rfl) (enc := enc37) (x0 := x) rfl (by decide) (by simp [Value.one1]) (by simp only [TS.bytes]; omega) (by omega) ?_) | (refine At_append hF (e := 37) (i := 0) (j := 1) rfl rfl (by exact rfl) (by simp) (by exact rfl) (enc := enc37) (x0 := x) rfl (by decide) (by simp [Value.one1]) (by simp only [TS.bytes]; omega) (by omega) ?_))
            intro A18 c18
            simp only [List.set_cons_zero, List.set_cons_succ]
            refine At_nilK (hK _ _ ?_)
            refine FAt_step (l := [22]) (by (repeat (first | exact List.Sublist.refl _ | exact List.Sublist.slnil | refine List.Sublist.cons_cons _ ?_ | refine List.Sublist.cons _ ?_))) (by decide +kernel) ?_
            refine AT_all1 ?_
            · refine FAt_op (by exact (rfl : _ = some (Oper.mk _ _ _ _ _ _))) ?_
              intro K Q' hK
              refine At_guard_t rfl (by decide) rfl ?_
              (first | (refine At_spread hF (e := 37) (sz := 3) (enc := enc37) (A := A18) (l := m.take k ++ [x]) (ys := m.drop k) 1 rfl (by exact rfl) (by simp) (by exact rfl) (by rw [List.length_drop]) (fun w' hw' => (by have := lies_cut (C_ownI hw' 3 rfl) k m.length (by omega) (Nat.le_refl _) hmc; rwa [List.take_length] at this)) (by decide) (one37 _) (by simp only [TS.bytes, List.length_append, List.length_cons, List.length_nil]; omega) (by simp only [List.length_append, List.length_cons, List.length_nil]; omega) (fun e => absurd e (cutA_some _ _ _ _)) ?_) | (refine At_spread hF (e := 37) (sz := 3) (enc := enc37) (A := A18) (l := m.take k ++ [x]) (ys := m.drop k) 0 rfl (by exact rfl) (by simp) (by exact rfl) (by rw [List.length_drop]) (fun w' hw' => (by have := lies_cut (C_ownI hw' 3 rfl) k m.length (by omega) (Nat.le_refl _) hmc; rwa [List.take_length] at this)) (by decide) (one37 _) (by simp only [TS.bytes, List.length_append, List.length_cons, List.length_nil]; omega) (by simp only [List.length_append, List.length_cons, List.length_nil]; omega) (fun e => absurd e (cutA_some _ _ _ _)) ?_))
              intro A22 c22
              simp only [List.set_cons_zero, List.set_cons_succ]
              refine At_nilK (hK _ _ ?_)
              refine FAt_done (by (repeat (first | exact List.Sublist.refl _ | exact List.Sublist.slnil | refine List.Sublist.cons_cons _ ?_ | refine List.Sublist.cons _ ?_))) (by decide +kernel) ?_
              refine At_guard_t rfl (by decide) rfl ?_
              rw [show (m.take k ++ [x]).length + (m.drop k).length = (m.take k ++ [x] ++ m.drop k).length from (List.length_append ..).symm]
              (first | (refine At_callB hF E15 rfl (u := .int .i64 200) (arg3 (by (first | exact (rfl : _ = (Value.int _ _)) | exact (rfl : _ = (Value.bool _)) | exact (rfl : _ = (Value.pointer _)) | exact (rfl : _ = (Value.slice _ _ _)) | exact (rfl : _ = (Value.map _)) | exact (rfl : _ = (Value.func _ _ _)) | exact (rfl : _ = (Value.tuple _)) | exact (rfl : _ = (Value.agg _)) | exact (rfl : _ = (Value.string _)) | exact (rfl : _ = (Value.nilFunc)) | exact (rfl : _ = (Value.nilIface)))) (by (first | exact (rfl : _ = (Value.int _ _)) | exact (rfl : _ = (Value.bool _)) | exact (rfl : _ = (Value.pointer _)) | exact (rfl : _ = (Value.slice _ _ _)) | exact (rfl : _ = (Value.map _)) | exact (rfl : _ = (Value.func _ _ _)) | exact (rfl : _ = (Value.tuple _)) | exact (rfl : _ = (Value.agg _)) | exact (rfl : _ = (Value.string _)) | exact (rfl : _ = (Value.nilFunc)) | exact (rfl : _ = (Value.nilIface)))) (by (first | exact (rfl : _ = (Value.int _ _)) | exact (rfl : _ = (Value.bool _)) | exact (rfl : _ = (Value.pointer _)) | exact (rfl : _ = (Value.slice _ _ _)) | exact (rfl : _ = (Value.map _)) | exact (rfl : _ = (Value.func _ _ _)) | exact (rfl : _ = (Value.tuple _)) | exact (rfl : _ = (Value.agg _)) | exact (rfl : _ = (Value.string _)) | exact (rfl : _ = (Value.nilFunc)) | exact (rfl : _ = (Value.nilIface))))) (fun w' hw' => hcd w' _ c22 (C_ownI hw' 1 rfl)) ?_) | (refine At_callB hF E15 rfl (u := .int .i64 200) (arg3 (by (first | exact (rfl : _ = (Value.int _ _)) | exact (rfl : _ = (Value.bool _)) | exact (rfl : _ = (Value.pointer _)) | exact (rfl : _ = (Value.slice _ _ _)) | exact (rfl : _ = (Value.map _)) | exact (rfl : _ = (Value.func _ _ _)) | exact (rfl : _ = (Value.tuple _)) | exact (rfl : _ = (Value.agg _)) | exact (rfl : _ = (Value.string _)) | exact (rfl : _ = (Value.nilFunc)) | exact (rfl : _ = (Value.nilIface)))) (by (first | exact (rfl : _ = (Value.int _ _)) | exact (rfl : _ = (Value.bool _)) | exact (rfl : _ = (Value.pointer _)) | exact (rfl : _ = (Value.slice _ _ _)) | exact (rfl : _ = (Value.map _)) | exact (rfl : _ = (Value.func _ _ _)) | exact (rfl : _ = (Value.tuple _)) | exact (rfl : _ = (Value.agg _)) | exact (rfl : _ = (Value.string _)) | exact (rfl : _ = (Value.nilFunc)) | exact (rfl : _ = (Value.nilIface)))) (by (first | exact (rfl : _ = (Value.int _ _)) | exact (rfl : _ = (Value.bool _)) | exact (rfl : _ = (Value.pointer _)) | exact (rfl : _ = (Value.slice _ _ _)) | exact (rfl : _ = (Value.map _)) | exact (rfl : _ = (Value.func _ _ _)) | exact (rfl : _ = (Value.tuple _)) | exact (rfl : _ = (Value.agg _)) | exact (rfl : _ = (Value.string _)) | exact (rfl : _ = (Value.nilFunc)) | exact (rfl : _ = (Value.nilIface))))) (fun w' hw' => hcd w' _ c22 (C_ownI hw' 0 rfl)) ?_))
              (repeat (first | ((with_reducible refine is_AL ?_); (first | ((with_reducible refine is_guarded ?_); (refine At_guard_t rfl (by decide) rfl ?_)) | ((with_reducible refine is_bin ?_); (refine At_plain hF (by (exact (rfl : _ = some (Value.bool _)))) ?_)) | ((with_reducible refine is_pick ?_); (refine At_plain hF (by (exact (rfl : _ = some (Value.bool _)))) ?_)) | with_reducible refine At_nil ?_)) | ((with_reducible refine is_At ?_); (with_reducible refine At_then_n ?_))))
              refine At.sub ?_ (hK' _ ?_)
              · (repeat (first | exact List.Sublist.refl _ | exact List.Sublist.slnil | refine List.Sublist.cons_cons _ ?_ | refine List.Sublist.cons _ ?_))
              · (repeat (first | exact True.intro | (refine And.intro ?_ ?_; focus (show _ = (_ : Value); first | exact rfl | (refine Eq.trans (b := Value.int IntKind.i64 _) rfl (congrArg (Value.int IntKind.i64) ?_); omega)))))
  intro ρ1
  try dsimp only
  (repeat ((with_reducible refine is_At ?_); (first | with_reducible refine At_seq ?_; intro K hK | with_reducible refine At_skip ?_ | with_reducible refine At_then_n ?_ | with_reducible refine At_go (by assumption) ?_ | ((with_reducible refine is_cond ?_); (refine At_cond_f rfl ?_)))))
  have hxin : okX n rq x := by rw [hx]; exact hin k hkl
  obtain ⟨x1, x2, ⟨x3, x4⟩, ⟨x5, x6⟩, _⟩ := hxin
  refine At_mergeE (σ := Nat × Nat) (fun b => [(0, .int .i64 n), (1, .int .i64 kind), (3, .int .u8 bb), (9, rowV (some bA) m.length c), (11, .int .i64 rq), (13, .int .i64 k), (14, rowV A2 rest.length c2), (15, ip b.1), (16, ip b.2)]) (fun b => .obj b.1 (.cells #[.int .i64 x.f0, .int .i64 x.f1, .int .i64 x.f2] 37 (0, 0)) :: .obj b.2 (.cells #[.int .i64 x.f0, .int .i64 x.f1, .int .i64 x.f2] 37 (0, 0)) :: .row 37 3 enc37 A2 c2 rest :: [.row 37 3 enc37 (some bA) c m]) (fun _ => True) ?_ ?_
  · intro K' hK'
    refine At_drawF hF 12 [0, 1, 2, 3, 4, 5, 6, 7] [] [8, 9, 10, 11] (.row 37 3 enc37 A2 c2 rest :: [.row 37 3 enc37 (some bA) c m]) (by kernel_rfl) (by decide +kernel) (by decide +kernel) ?_; simp only [List.drop_succ_cons, List.drop_zero]; (repeat ((with_reducible refine is_AQF ?_); first | refine AQF_early (by decide) (by exact (rfl : _ = some (Oper.mk _ _ _ _ _ _))) (by intro K Q hK; (repeat (first | ((with_reducible refine is_move ?_); (refine At_plain hF (by (first | exact (rfl : _ = some (Value.int _ _)) | exact (rfl : _ = some (Value.slice _ _ _)))) ?_)) | ((with_reducible refine is_index ?_); (refine At_indexS hF rfl rfl (by omega) ?_)))); exact At_nilK hK) ?_ | refine AQF_late (by decide) (by exact (rfl : _ = some (Oper.mk _ _ _ _ _ _))) (by intro E K Q hK; simp only [List.cons_append, List.nil_append] at hK ⊢; (repeat (first | ((with_reducible refine is_move ?_); (refine At_plain hF (by (first | exact (rfl : _ = some (Value.int _ _)) | exact (rfl : _ = some (Value.slice _ _ _)))) ?_)) | ((with_reducible refine is_index ?_); (refine At_indexS hF rfl rfl (by omega) ?_)))); exact At_nilK hK) ?_))
    refine AQF_late (by decide) (by exact (rfl : _ = some (Oper.mk _ _ _ _ _ _))) (by intro E K Q hK; simp only [List.cons_append, List.nil_append] at hK ⊢; refine At_loadRow hF 1 (by exact rfl) rfl z37 hkl rfl (v := .agg #[.int .i64 x.f0, .int .i64 x.f1, .int .i64 x.f2]) (by rw [← hx]; rfl) ?_; exact At_nilK hK) ?_
    (repeat ((with_reducible refine is_AQF ?_); first | refine AQF_early (by decide) (by exact (rfl : _ = some (Oper.mk _ _ _ _ _ _))) (by intro K Q hK; (repeat (first | ((with_reducible refine is_move ?_); (refine At_plain hF (by (first | exact (rfl : _ = some (Value.int _ _)) | exact (rfl : _ = some (Value.slice _ _ _)))) ?_)) | ((with_reducible refine is_index ?_); (refine At_indexS hF rfl rfl (by omega) ?_)))); exact At_nilK hK) ?_ | refine AQF_late (by decide) (by exact (rfl : _ = some (Oper.mk _ _ _ _ _ _))) (by intro E K Q hK; simp only [List.cons_append, List.nil_append] at hK ⊢; (repeat (first | ((with_reducible refine is_move ?_); (refine At_plain hF (by (first | exact (rfl : _ = some (Value.int _ _)) | exact (rfl : _ = some (Value.slice _ _ _)))) ?_)) | ((with_reducible refine is_index ?_); (refine At_indexS hF rfl rfl (by omega) ?_)))); exact At_nilK hK) ?_))
    refine AQF_late (by decide) (by exact (rfl : _ = some (Oper.mk _ _ _ _ _ _))) (by intro E K Q hK; simp only [List.cons_append, List.nil_append] at hK ⊢; refine At_loadRow hF 1 (by exact rfl) rfl z37 hkl rfl (v := .agg #[.int .i64 x.f0, .int .i64 x.f1, .int .i64 x.f2]) (by rw [← hx]; rfl) ?_; exact At_nilK hK) ?_
    refine AQF_doneF ?_
    refine FAt_step (l := [8, 9]) (by (repeat (first | exact List.Sublist.refl _ | exact List.Sublist.slnil | refine List.Sublist.cons_cons _ ?_ | refine List.Sublist.cons _ ?_))) (by decide +kernel) ?_
    refine AT_all ?_ ?_
    · refine FAt_op (by exact (rfl : _ = some (Oper.mk _ _ _ _ _ _))) ?_
      intro K Q' hK
      (refine At_alloc hF (by exact (rfl : _ = List.toArray (_ :: _))) ?_; intro b15)
      refine At_nilK (hK _ _ ?_)
      refine FAt_step (l := [9]) (by (repeat (first | exact List.Sublist.refl _ | exact List.Sublist.slnil | refine List.Sublist.cons_cons _ ?_ | refine List.Sublist.cons _ ?_))) (by decide +kernel) ?_
      refine AT_all1 ?_
      · refine FAt_op (by exact (rfl : _ = some (Oper.mk _ _ _ _ _ _))) ?_
        intro K Q' hK
        (refine At_alloc hF (by exact (rfl : _ = List.toArray (_ :: _))) ?_; intro b16)
        refine At_nilK (hK _ _ ?_)
        refine FAt_step (l := [10]) (by (repeat (first | exact List.Sublist.refl _ | exact List.Sublist.slnil | refine List.Sublist.cons_cons _ ?_ | refine List.Sublist.cons _ ?_))) (by decide +kernel) ?_
        refine AT_all1 ?_
        · refine FAt_op (by exact (rfl : _ = some (Oper.mk _ _ _ _ _ _))) ?_
          intro K Q' hK
          (repeat ((with_reducible refine is_store ?_); (refine At_storeB_1 hF rfl rfl rfl rfl (by simp [Value.one1, epair]) ?_)))
          refine At_nilK (hK _ _ ?_)
          refine FAt_step (l := [11]) (by (repeat (first | exact List.Sublist.refl _ | exact List.Sublist.slnil | refine List.Sublist.cons_cons _ ?_ | refine List.Sublist.cons _ ?_))) (by decide +kernel) ?_
          refine AT_all1 ?_
          · refine FAt_op (by exact (rfl : _ = some (Oper.mk _ _ _ _ _ _))) ?_
            intro K Q' hK
            (repeat ((with_reducible refine is_store ?_); (refine At_storeB_0 hF rfl rfl rfl rfl (by simp [Value.one1, epair]) ?_)))
            refine At_nilK (hK _ _ ?_)
            refine FAt_done (by (repeat (first | exact List.Sublist.refl _ | exact List.Sublist.slnil | refine List.Sublist.cons_cons _ ?_ | refine List.Sublist.cons _ ?_))) (by decide +kernel) ?_
            (repeat (first | ((with_reducible refine is_AL ?_); (with_reducible refine At_nil ?_)) | ((with_reducible refine is_At ?_); (with_reducible refine At_then_n ?_))))
            first | (refine At.sub ?_ (hK' (b15, b16) _ trivial ?_); focus ((repeat (first | exact List.Sublist.refl _ | exact List.Sublist.slnil | refine List.Sublist.cons_cons _ ?_ | refine List.Sublist.cons _ ?_)); done)) | (refine fun w' hw' => (hK' (b15, b16) _ trivial ?_) w' (hw'.perm (List.Perm.swap _ _ _)))
            (repeat (first | exact True.intro | (refine And.intro ?_ ?_; focus (show _ = (_ : Value); first | exact rfl | (refine Eq.trans (b := Value.int IntKind.i64 _) rfl (congrArg (Value.int IntKind.i64) ?_); omega)))))
    refine AT_all1 ?_
    · refine FAt_op (by exact (rfl : _ = some (Oper.mk _ _ _ _ _ _))) ?_
      intro K Q' hK
      (refine At_alloc hF (by exact (rfl : _ = List.toArray (_ :: _))) ?_; intro b16)
      refine At_nilK (hK _ _ ?_)
      refine FAt_step (l := [8]) (by (repeat (first | exact List.Sublist.refl _ | exact List.Sublist.slnil | refine List.Sublist.cons_cons _ ?_ | refine List.Sublist.cons _ ?_))) (by decide +kernel) ?_
      refine AT_all1 ?_
      · refine FAt_op (by exact (rfl : _ = some (Oper.mk _ _ _ _ _ _))) ?_
        intro K Q' hK
        (refine At_alloc hF (by exact (rfl : _ = List.toArray (_ :: _))) ?_; intro b15)
        refine At_nilK (hK _ _ ?_)
        refine FAt_step (l := [10]) (by (repeat (first | exact List.Sublist.refl _ | exact List.Sublist.slnil | refine List.Sublist.cons_cons _ ?_ | refine List.Sublist.cons _ ?_))) (by decide +kernel) ?_
        refine AT_all1 ?_
        · refine FAt_op (by exact (rfl : _ = some (Oper.mk _ _ _ _ _ _))) ?_
          intro K Q' hK
          (repeat ((with_reducible refine is_store ?_); (refine At_storeB_0 hF rfl rfl rfl rfl (by simp [Value.one1, epair]) ?_)))
          refine At_nilK (hK _ _ ?_)
          refine FAt_step (l := [11]) (by (repeat (first | exact List.Sublist.refl _ | exact List.Sublist.slnil | refine List.Sublist.cons_cons _ ?_ | refine List.Sublist.cons _ ?_))) (by decide +kernel) ?_
          refine AT_all1 ?_
          · refine FAt_op (by exact (rfl : _ = some (Oper.mk _ _ _ _ _ _))) ?_
            intro K Q' hK
            (repeat ((with_reducible refine is_store ?_); (refine At_storeB_1 hF rfl rfl rfl rfl (by simp [Value.one1, epair]) ?_)))
            refine At_nilK (hK _ _ ?_)
            refine FAt_done (by (repeat (first | exact List.Sublist.refl _ | exact List.Sublist.slnil | refine List.Sublist.cons_cons _ ?_ | refine List.Sublist.cons _ ?_))) (by decide +kernel) ?_
            (repeat (first | ((with_reducible refine is_AL ?_); (with_reducible refine At_nil ?_)) | ((with_reducible refine is_At ?_); (with_reducible refine At_then_n ?_))))
            first | (refine At.sub ?_ (hK' (b15, b16) _ trivial ?_); focus ((repeat (first | exact List.Sublist.refl _ | exact List.Sublist.slnil | refine List.Sublist.cons_cons _ ?_ | refine List.Sublist.cons _ ?_)); done)) | (refine fun w' hw' => (hK' (b15, b16) _ trivial ?_) w' (hw'.perm (List.Perm.swap _ _ _)))
            (repeat (first | exact True.intro | (refine And.intro ?_ ?_; focus (show _ = (_ : Value); first | exact rfl | (refine Eq.trans (b := Value.int IntKind.i64 _) rfl (congrArg (Value.int IntKind.i64) ?_); omega)))))
  rintro ⟨b15, b16⟩ ρ2 -
  try dsimp only
  have hwb : IntKind.i64.wrap (bb : Int) = bb := XW.wrap64_in (by omega) (by omega)
  have hm1 : bb % rq < 256 := Nat.lt_of_le_of_lt (Nat.mod_le _ _) hbb
  have hm2 : bb % n < 256 := Nat.lt_of_le_of_lt (Nat.mod_le _ _) hbb
  have he1 : (bb : Int) % (rq : Int) = ((bb % rq : Nat) : Int) := (Int.natCast_emod _ _).symm
  have he2 : (bb : Int) % (n : Int) = ((bb % n : Nat) : Int) := (Int.natCast_emod _ _).symm
  (repeat ((with_reducible refine is_At ?_); (first | with_reducible refine At_seq ?_; intro K hK | with_reducible refine At_go (by assumption) ?_)))
  refine At_drawM hF 11 (by kernel_rfl) (by decide +kernel) ?_; simp only [List.take_succ_cons, List.take_zero, List.drop_succ_cons, List.drop_zero]; (repeat ((with_reducible refine is_AQc ?_); refine AQ_cons (by intro K Q hK; (repeat (first | ((with_reducible refine is_move ?_); (refine At_plain hF (by (exact (rfl : _ = some (Value.int _ _)))) ?_)) | ((with_reducible refine is_bin ?_); ((with_reducible refine is_badd ?_); (refine At_add hF rfl rfl (by omega) ?_))) | ((with_reducible refine is_field ?_); (refine At_field hF rfl ?_)) | ((with_reducible refine is_load ?_); (refine At_load hF 0 (by exact rfl) rfl (by (exact (rfl : _ = some (Value.int _ _)))) ?_)))); exact At_nilK hK) ?_))
  refine AQ_cons (by intro K Q hK; refine At_conv hF Try.underlying5 Try.underlying3 (by exact rfl) ?_; exact At_nilK hK) ?_
  rw [hwb]
  (repeat ((with_reducible refine is_AQc ?_); refine AQ_cons (by intro K Q hK; (repeat (first | ((with_reducible refine is_move ?_); (refine At_plain hF (by (exact (rfl : _ = some (Value.int _ _)))) ?_)) | ((with_reducible refine is_bin ?_); (first | ((with_reducible refine is_badd ?_); (refine At_add hF rfl rfl (by omega) ?_)) | ((with_reducible refine is_brem ?_); (refine At_rem hF rfl rfl (by omega) ?_)))) | ((with_reducible refine is_field ?_); (refine At_field hF rfl ?_)))); exact At_nilK hK) ?_))
  rw [he1]
  (repeat ((with_reducible refine is_AQc ?_); refine AQ_cons (by intro K Q hK; skip; exact At_nilK hK) ?_))
  (repeat ((with_reducible refine is_AQc ?_); refine AQ_cons (by intro K Q hK; skip; exact At_nilK hK) ?_)); refine AQ_done ?_
  (repeat (first | ((with_reducible refine is_AL ?_); (first | ((with_reducible refine is_store ?_); (refine At_store_0 hF rfl (by (exact (rfl : _ = (Value.int _ _)))) (by (exact of_decide_eq_true rfl)) (by exact rfl) (by exact rfl) (by (exact (rfl : _ = List.toArray (_ :: _)))) ?_)) | with_reducible refine At_nil ?_)) | ((with_reducible refine is_At ?_); (first | with_reducible refine At_seq ?_; intro K hK | with_reducible refine At_then_n ?_ | with_reducible refine At_go (by assumption) ?_))))
  generalize hg0 : (x.f0 + 1 + ((bb % rq : Nat) : Int)) % (rq : Int) = g0 at hcx ⊢
  refine At_merge [(0, .int .i64 n), (1, .int .i64 kind), (3, .int .u8 bb), (9, rowV (some bA) m.length c), (11, .int .i64 rq), (13, .int .i64 k), (14, rowV A2 rest.length c2), (16, ip b16), (126, .bool false)] (.obj b16 (.cells #[.int .i64 x.f0, .int .i64 x.f1, .int .i64 x.f2] 37 (0, 0)) :: .row 37 3 enc37 A2 c2 rest :: [.row 37 3 enc37 (some bA) c m]) ?_ ?_
  · intro K' hK'
    by_cases hne : g0 = x.f0
    · refine At_drawM hF 17 (by kernel_rfl) (by decide +kernel) ?_; simp only [List.take_succ_cons, List.take_zero, List.drop_succ_cons, List.drop_zero]; (repeat ((with_reducible refine is_AQc ?_); refine AQ_cons (by intro K Q hK; (repeat (first | ((with_reducible refine is_move ?_); (refine At_plain hF (by (first | exact (rfl : _ = some (Value.int _ _)) | exact (rfl : _ = some (Value.slice _ _ _)))) ?_)) | ((with_reducible refine is_field ?_); (refine At_field hF rfl ?_)) | ((with_reducible refine is_load ?_); (refine At_load hF 0 (by exact rfl) rfl (by (exact (rfl : _ = some (Value.int _ _)))) ?_)) | ((with_reducible refine is_index ?_); (refine At_indexS hF rfl rfl (by omega) ?_)))); exact At_nilK hK) ?_))
      refine AQ_cons (by intro K Q hK; refine At_loadRowF hF 3 0 (by exact rfl) rfl z37 hkl rfl (v := .int .i64 x.f0) (by rw [← hx]; rfl) ?_; exact At_nilK hK) ?_
      (repeat ((with_reducible refine is_AQc ?_); refine AQ_cons (by intro K Q hK; (repeat (first | ((with_reducible refine is_move ?_); (refine At_plain hF (by (exact (rfl : _ = some (Value.bool _)))) ?_)) | ((with_reducible refine is_bin ?_); (refine At_plain hF (by (exact (rfl : _ = some (Value.bool _)))) ?_)))); exact At_nilK hK) ?_))
      rw [show (g0 != x.f0) = false by simp [hne]]
      (repeat ((with_reducible refine is_AQc ?_); refine AQ_cons (by intro K Q hK; (repeat (first | ((with_reducible refine is_guarded ?_); (refine At_guard_f hF rfl (by decide) rfl rfl ?_)) | ((with_reducible refine is_pick ?_); (refine At_plain hF (by (exact (rfl : _ = some (Value.bool _)))) ?_)))); exact At_nilK hK) ?_)); refine AQ_done ?_
      (repeat (first | ((with_reducible refine is_AL ?_); (with_reducible refine At_nil ?_)) | ((with_reducible refine is_At ?_); (with_reducible refine At_then_n ?_))))
      refine At.sub ?_ (hK' _ ?_)
      · (repeat (first | exact List.Sublist.refl _ | exact List.Sublist.slnil | refine List.Sublist.cons_cons _ ?_ | refine List.Sublist.cons _ ?_))
      · (repeat (first | exact True.intro | (refine And.intro ?_ ?_; focus (show _ = (_ : Value); first | exact rfl | (refine Eq.trans (b := Value.int IntKind.i64 _) rfl (congrArg (Value.int IntKind.i64) ?_); omega)))))
    · refine At_drawE hF 14 [0, 1, 2, 3, 4, 5, 6, 7, 8, 9, 10, 11, 12] [] [13] (.obj b15 (.cells #[.int .i64 g0, .int .i64 x.f1, .int .i64 x.f2] 37 (0, 0)) :: .obj b16 (.cells #[.int .i64 x.f0, .int .i64 x.f1, .int .i64 x.f2] 37 (0, 0)) :: .row 37 3 enc37 A2 c2 rest :: [.row 37 3 enc37 (some bA) c m]) (by kernel_rfl) (by decide +kernel) (by decide +kernel) ?_; simp only [List.drop_succ_cons, List.drop_zero]; (repeat ((with_reducible refine is_AQF ?_); first | refine AQF_early (by decide) (by exact (rfl : _ = some (Oper.mk _ _ _ _ _ _))) (by intro K Q hK; (repeat (first | ((with_reducible refine is_move ?_); (refine At_plain hF (by (first | exact (rfl : _ = some (Value.int _ _)) | exact (rfl : _ = some (Value.slice _ _ _)))) ?_)) | ((with_reducible refine is_field ?_); (refine At_field hF rfl ?_)) | ((with_reducible refine is_load ?_); (refine At_load hF 0 (by exact rfl) rfl (by (exact (rfl : _ = some (Value.int _ _)))) ?_)) | ((with_reducible refine is_index ?_); (refine At_indexS hF rfl rfl (by omega) ?_)))); exact At_nilK hK) ?_ | refine AQF_late (by decide) (by exact (rfl : _ = some (Oper.mk _ _ _ _ _ _))) (by intro E K Q hK; simp only [List.cons_append, List.nil_append] at hK ⊢; (repeat (first | ((with_reducible refine is_move ?_); (refine At_plain hF (by (first | exact (rfl : _ = some (Value.int _ _)) | exact (rfl : _ = some (Value.slice _ _ _)))) ?_)) | ((with_reducible refine is_field ?_); (refine At_field hF rfl ?_)) | ((with_reducible refine is_load ?_); (refine At_load hF 0 (by exact rfl) rfl (by (exact (rfl : _ = some (Value.int _ _)))) ?_)) | ((with_reducible refine is_index ?_); (refine At_indexS hF rfl rfl (by omega) ?_)))); exact At_nilK hK) ?_))
      refine AQF_late (by decide) (by exact (rfl : _ = some (Oper.mk _ _ _ _ _ _))) (by intro E K Q hK; simp only [List.cons_append, List.nil_append] at hK ⊢; refine At_loadRowF hF 3 0 (by exact rfl) rfl z37 hkl rfl (v := .int .i64 x.f0) (by rw [← hx]; rfl) ?_; exact At_nilK hK) ?_
      (repeat ((with_reducible refine is_AQF ?_); first | refine AQF_early (by decide) (by exact (rfl : _ = some (Oper.mk _ _ _ _ _ _))) (by intro K Q hK; (repeat (first | ((with_reducible refine is_move ?_); (refine At_plain hF (by (exact (rfl : _ = some (Value.bool _)))) ?_)) | ((with_reducible refine is_bin ?_); (refine At_plain hF (by (exact (rfl : _ = some (Value.bool _)))) ?_)))); exact At_nilK hK) ?_ | refine AQF_late (by decide) (by exact (rfl : _ = some (Oper.mk _ _ _ _ _ _))) (by intro E K Q hK; simp only [List.cons_append, List.nil_append] at hK ⊢; (repeat (first | ((with_reducible refine is_move ?_); (refine At_plain hF (by (exact (rfl : _ = some (Value.bool _)))) ?_)) | ((with_reducible refine is_bin ?_); (refine At_plain hF (by (exact (rfl : _ = some (Value.bool _)))) ?_)))); exact At_nilK hK) ?_))
      rw [show (g0 != x.f0) = true by simp [hne]]
      (repeat ((with_reducible refine is_AQF ?_); first | refine AQF_early (by decide) (by exact (rfl : _ = some (Oper.mk _ _ _ _ _ _))) (by intro K Q hK; (repeat (first | ((with_reducible refine is_guarded ?_); (refine At_guard_t rfl (by decide) rfl ?_)) | ((with_reducible refine is_move ?_); (refine At_plain hF (by (first | exact (rfl : _ = some (Value.int _ _)) | exact (rfl : _ = some (Value.slice _ _ _)))) ?_)) | ((with_reducible refine is_load ?_); (refine At_loadB hF 0 rfl rfl rfl ?_)))); exact At_nilK hK) ?_ | refine AQF_late (by decide) (by exact (rfl : _ = some (Oper.mk _ _ _ _ _ _))) (by intro E K Q hK; simp only [List.cons_append, List.nil_append] at hK ⊢; (repeat (first | ((with_reducible refine is_guarded ?_); (refine At_guard_t rfl (by decide) rfl ?_)) | ((with_reducible refine is_move ?_); (refine At_plain hF (by (first | exact (rfl : _ = some (Value.int _ _)) | exact (rfl : _ = some (Value.slice _ _ _)))) ?_)) | ((with_reducible refine is_load ?_); (refine At_loadB hF 0 rfl rfl rfl ?_)))); exact At_nilK hK) ?_))
      refine AQF_done ?_
      (refine WAt_cons ?_ (by exact (rfl : _ = some (Oper.mk _ _ _ _ _ _))) ?_; (focus (repeat (first | exact List.Sublist.refl _ | exact List.Sublist.slnil | refine List.Sublist.cons_cons _ ?_ | refine List.Sublist.cons _ ?_))); intro K Q hK)
      refine At_guard_t rfl (by decide) rfl ?_
      refine At_callM hF E18 rfl (Post := fun u Rs => ∃ A' c', u = rowV A' (insR (⟨g0, x.f1, x.f2⟩ : S37) rest).length c' ∧ Rs = [.row 37 3 enc37 A' c' (insR (⟨g0, x.f1, x.f2⟩ : S37) rest)]) (arg2 (by (first | exact (rfl : _ = (Value.int _ _)) | exact (rfl : _ = (Value.bool _)) | exact (rfl : _ = (Value.pointer _)) | exact (rfl : _ = (Value.slice _ _ _)) | exact (rfl : _ = (Value.map _)) | exact (rfl : _ = (Value.func _ _ _)) | exact (rfl : _ = (Value.tuple _)) | exact (rfl : _ = (Value.agg _)) | exact (rfl : _ = (Value.string _)) | exact (rfl : _ = (Value.nilFunc)) | exact (rfl : _ = (Value.nilIface)))) (by (first | exact (rfl : _ = (Value.int _ _)) | exact (rfl : _ = (Value.bool _)) | exact (rfl : _ = (Value.pointer _)) | exact (rfl : _ = (Value.slice _ _ _)) | exact (rfl : _ = (Value.map _)) | exact (rfl : _ = (Value.func _ _ _)) | exact (rfl : _ = (Value.tuple _)) | exact (rfl : _ = (Value.agg _)) | exact (rfl : _ = (Value.string _)) | exact (rfl : _ = (Value.nilFunc)) | exact (rfl : _ = (Value.nilIface))))) (fun w' hw' => put_rets w' _ c2 rest ⟨g0, x.f1, x.f2⟩ (C_ownI hw' 2 rfl) (cap_ownI hw' 2 rfl) (by rw [hrest, List.length_append, htl, hdl]; omega)) ?_
      rintro _ _ ⟨A5, c5, rfl, rfl⟩
      simp only [List.cons_append, List.nil_append]
      refine At_nilK (hK _ _ ?_)
      (refine WAt_nil ?_ ?_; (focus (repeat (first | exact List.Sublist.refl _ | exact List.Sublist.slnil | refine List.Sublist.cons_cons _ ?_ | refine List.Sublist.cons _ ?_))))
      refine At_guard_t rfl (by decide) rfl ?_
      refine At_callB hF E15 rfl (u := .int .i64 200) (arg3 (by (first | exact (rfl : _ = (Value.int _ _)) | exact (rfl : _ = (Value.bool _)) | exact (rfl : _ = (Value.pointer _)) | exact (rfl : _ = (Value.slice _ _ _)) | exact (rfl : _ = (Value.map _)) | exact (rfl : _ = (Value.func _ _ _)) | exact (rfl : _ = (Value.tuple _)) | exact (rfl : _ = (Value.agg _)) | exact (rfl : _ = (Value.string _)) | exact (rfl : _ = (Value.nilFunc)) | exact (rfl : _ = (Value.nilIface)))) (by (first | exact (rfl : _ = (Value.int _ _)) | exact (rfl : _ = (Value.bool _)) | exact (rfl : _ = (Value.pointer _)) | exact (rfl : _ = (Value.slice _ _ _)) | exact (rfl : _ = (Value.map _)) | exact (rfl : _ = (Value.func _ _ _)) | exact (rfl : _ = (Value.tuple _)) | exact (rfl : _ = (Value.agg _)) | exact (rfl : _ = (Value.string _)) | exact (rfl : _ = (Value.nilFunc)) | exact (rfl : _ = (Value.nilIface)))) (by (first | exact (rfl : _ = (Value.int _ _)) | exact (rfl : _ = (Value.bool _)) | exact (rfl : _ = (Value.pointer _)) | exact (rfl : _ = (Value.slice _ _ _)) | exact (rfl : _ = (Value.map _)) | exact (rfl : _ = (Value.func _ _ _)) | exact (rfl : _ = (Value.tuple _)) | exact (rfl : _ = (Value.agg _)) | exact (rfl : _ = (Value.string _)) | exact (rfl : _ = (Value.nilFunc)) | exact (rfl : _ = (Value.nilIface))))) (fun w' hw' => hcx hne w' _ c5 (C_ownI hw' 0 rfl)) ?_
      (repeat (first | ((with_reducible refine is_AL ?_); (first | ((with_reducible refine is_guarded ?_); (refine At_guard_t rfl (by decide) rfl ?_)) | ((with_reducible refine is_bin ?_); (refine At_plain hF (by (exact (rfl : _ = some (Value.bool _)))) ?_)) | ((with_reducible refine is_pick ?_); (refine At_plain hF (by (exact (rfl : _ = some (Value.bool _)))) ?_)) | with_reducible refine At_nil ?_)) | ((with_reducible refine is_At ?_); (with_reducible refine At_then_n ?_))))
      refine At.sub ?_ (hK' _ ?_)
      · (repeat (first | exact List.Sublist.refl _ | exact List.Sublist.slnil | refine List.Sublist.cons_cons _ ?_ | refine List.Sublist.cons _ ?_))
      · (repeat (first | exact True.intro | (refine And.intro ?_ ?_; focus (show _ = (_ : Value); first | exact rfl | (refine Eq.trans (b := Value.int IntKind.i64 _) rfl (congrArg (Value.int IntKind.i64) ?_); omega)))))
  intro ρ3
  try dsimp only
  (repeat ((with_reducible refine is_At ?_); (first | with_reducible refine At_seq ?_; intro K hK | with_reducible refine At_skip ?_ | with_reducible refine At_then_n ?_ | with_reducible refine At_go (by assumption) ?_ | ((with_reducible refine is_cond ?_); (refine At_cond_f rfl ?_)))))
  refine At_drawM hF 11 (by kernel_rfl) (by decide +kernel) ?_; simp only [List.take_succ_cons, List.take_zero, List.drop_succ_cons, List.drop_zero]; (repeat ((with_reducible refine is_AQc ?_); refine AQ_cons (by intro K Q hK; (repeat (first | ((with_reducible refine is_move ?_); (refine At_plain hF (by (exact (rfl : _ = some (Value.int _ _)))) ?_)) | ((with_reducible refine is_bin ?_); ((with_reducible refine is_badd ?_); (refine At_add hF rfl rfl (by omega) ?_))) | ((with_reducible refine is_field ?_); (refine At_field hF rfl ?_)) | ((with_reducible refine is_load ?_); (refine At_load hF 0 (by exact rfl) rfl (by (exact (rfl : _ = some (Value.int _ _)))) ?_)))); exact At_nilK hK) ?_))
  refine AQ_cons (by intro K Q hK; refine At_conv hF Try.underlying5 Try.underlying3 (by exact rfl) ?_; exact At_nilK hK) ?_
  rw [hwb]
  (repeat ((with_reducible refine is_AQc ?_); refine AQ_cons (by intro K Q hK; (repeat (first | ((with_reducible refine is_move ?_); (refine At_plain hF (by (exact (rfl : _ = some (Value.int _ _)))) ?_)) | ((with_reducible refine is_bin ?_); (first | ((with_reducible refine is_badd ?_); (refine At_add hF rfl rfl (by omega) ?_)) | ((with_reducible refine is_brem ?_); (refine At_rem hF rfl rfl (by omega) ?_)))) | ((with_reducible refine is_field ?_); (refine At_field hF rfl ?_)))); exact At_nilK hK) ?_))
  rw [he2]
  (repeat ((with_reducible refine is_AQc ?_); refine AQ_cons (by intro K Q hK; skip; exact At_nilK hK) ?_))
  (repeat ((with_reducible refine is_AQc ?_); refine AQ_cons (by intro K Q hK; skip; exact At_nilK hK) ?_)); refine AQ_done ?_
  (repeat (first | ((with_reducible refine is_AL ?_); (first | ((with_reducible refine is_store ?_); (refine At_store_0 hF rfl (by (exact (rfl : _ = (Value.int _ _)))) (by (exact of_decide_eq_true rfl)) (by exact rfl) (by exact rfl) (by (exact (rfl : _ = List.toArray (_ :: _)))) ?_)) | with_reducible refine At_nil ?_)) | ((with_reducible refine is_At ?_); (first | with_reducible refine At_seq ?_; intro K hK | with_reducible refine At_then_n ?_ | with_reducible refine At_go (by assumption) ?_))))
  generalize hg2 : (x.f2 + 1 + ((bb % n : Nat) : Int)) % (n : Int) = g2 at hcy ⊢
  by_cases hne : g2 = x.f2
  · refine At_drawM hF 18 (by kernel_rfl) (by decide +kernel) ?_; simp only [List.take_succ_cons, List.take_zero, List.drop_succ_cons, List.drop_zero]; (repeat ((with_reducible refine is_AQc ?_); refine AQ_cons (by intro K Q hK; (repeat (first | ((with_reducible refine is_move ?_); (refine At_plain hF (by (first | exact (rfl : _ = some (Value.int _ _)) | exact (rfl : _ = some (Value.slice _ _ _)))) ?_)) | ((with_reducible refine is_field ?_); (refine At_field hF rfl ?_)) | ((with_reducible refine is_load ?_); (refine At_load hF 0 (by exact rfl) rfl (by (exact (rfl : _ = some (Value.int _ _)))) ?_)) | ((with_reducible refine is_index ?_); (refine At_indexS hF rfl rfl (by omega) ?_)))); exact At_nilK hK) ?_))
    refine AQ_cons (by intro K Q hK; refine At_loadRowF hF 2 2 (by exact rfl) rfl z37 hkl rfl (v := .int .i64 x.f2) (by rw [← hx]; rfl) ?_; exact At_nilK hK) ?_
    (repeat ((with_reducible refine is_AQc ?_); refine AQ_cons (by intro K Q hK; (repeat (first | ((with_reducible refine is_move ?_); (refine At_plain hF (by (exact (rfl : _ = some (Value.bool _)))) ?_)) | ((with_reducible refine is_bin ?_); (refine At_plain hF (by (exact (rfl : _ = some (Value.bool _)))) ?_)))); exact At_nilK hK) ?_))
    rw [show (g2 == x.f2) = true by simp [hne]]
    (repeat ((with_reducible refine is_AQc ?_); refine AQ_cons (by intro K Q hK; (repeat (first | ((with_reducible refine is_guarded ?_); (refine At_guard_f hF rfl (by decide) rfl rfl ?_)) | ((with_reducible refine is_assign ?_); (refine At_plain hF (by (exact (rfl : _ = some (Value.bool _)))) ?_)) | ((with_reducible refine is_pick ?_); (refine At_plain hF (by (exact (rfl : _ = some (Value.bool _)))) ?_)))); exact At_nilK hK) ?_)); refine AQ_done ?_
    (repeat (first | ((with_reducible refine is_AL ?_); (with_reducible refine At_nil ?_)) | ((with_reducible refine is_At ?_); (first | with_reducible refine At_ret ?_ | with_reducible refine At_then_n ?_ | with_reducible refine At_go (by assumption) ?_))))
    exact At_ret1 rfl (rv_tmp (by decide)) (fun w' hw' => ⟨_, rfl, rfl, hw'.below⟩)
  · refine At_drawE hF 14 [0, 1, 2, 3, 4, 5, 6, 7, 8, 9, 10, 11, 12] [] [13] (.obj b16 (.cells #[.int .i64 x.f0, .int .i64 x.f1, .int .i64 g2] 37 (0, 0)) :: .row 37 3 enc37 A2 c2 rest :: [.row 37 3 enc37 (some bA) c m]) (by kernel_rfl) (by decide +kernel) (by decide +kernel) ?_; simp only [List.drop_succ_cons, List.drop_zero]; (repeat ((with_reducible refine is_AQF ?_); first | refine AQF_early (by decide) (by exact (rfl : _ = some (Oper.mk _ _ _ _ _ _))) (by intro K Q hK; (repeat (first | ((with_reducible refine is_move ?_); (refine At_plain hF (by (first | exact (rfl : _ = some (Value.int _ _)) | exact (rfl : _ = some (Value.slice _ _ _)))) ?_)) | ((with_reducible refine is_field ?_); (refine At_field hF rfl ?_)) | ((with_reducible refine is_load ?_); (refine At_load hF 0 (by exact rfl) rfl (by (exact (rfl : _ = some (Value.int _ _)))) ?_)) | ((with_reducible refine is_index ?_); (refine At_indexS hF rfl rfl (by omega) ?_)))); exact At_nilK hK) ?_ | refine AQF_late (by decide) (by exact (rfl : _ = some (Oper.mk _ _ _ _ _ _))) (by intro E K Q hK; simp only [List.cons_append, List.nil_append] at hK ⊢; (repeat (first | ((with_reducible refine is_move ?_); (refine At_plain hF (by (first | exact (rfl : _ = some (Value.int _ _)) | exact (rfl : _ = some (Value.slice _ _ _)))) ?_)) | ((with_reducible refine is_field ?_); (refine At_field hF rfl ?_)) | ((with_reducible refine is_load ?_); (refine At_load hF 0 (by exact rfl) rfl (by (exact (rfl : _ = some (Value.int _ _)))) ?_)) | ((with_reducible refine is_index ?_); (refine At_indexS hF rfl rfl (by omega) ?_)))); exact At_nilK hK) ?_))
    refine AQF_late (by decide) (by exact (rfl : _ = some (Oper.mk _ _ _ _ _ _))) (by intro E K Q hK; simp only [List.cons_append, List.nil_append] at hK ⊢; refine At_loadRowF hF 2 2 (by exact rfl) rfl z37 hkl rfl (v := .int .i64 x.f2) (by rw [← hx]; rfl) ?_; exact At_nilK hK) ?_
    (repeat ((with_reducible refine is_AQF ?_); first | refine AQF_early (by decide) (by exact (rfl : _ = some (Oper.mk _ _ _ _ _ _))) (by intro K Q hK; (repeat (first | ((with_reducible refine is_move ?_); (refine At_plain hF (by (exact (rfl : _ = some (Value.bool _)))) ?_)) | ((with_reducible refine is_bin ?_); (refine At_plain hF (by (exact (rfl : _ = some (Value.bool _)))) ?_)))); exact At_nilK hK) ?_ | refine AQF_late (by decide) (by exact (rfl : _ = some (Oper.mk _ _ _ _ _ _))) (by intro E K Q hK; simp only [List.cons_append, List.nil_append] at hK ⊢; (repeat (first | ((with_reducible refine is_move ?_); (refine At_plain hF (by (exact (rfl : _ = some (Value.bool _)))) ?_)) | ((with_reducible refine is_bin ?_); (refine At_plain hF (by (exact (rfl : _ = some (Value.bool _)))) ?_)))); exact At_nilK hK) ?_))
    rw [show (g2 == x.f2) = false by simp [hne]]
    (repeat ((with_reducible refine is_AQF ?_); first | refine AQF_early (by decide) (by exact (rfl : _ = some (Oper.mk _ _ _ _ _ _))) (by intro K Q hK; (repeat (first | ((with_reducible refine is_guarded ?_); (refine At_guard_t rfl (by decide) rfl ?_)) | ((with_reducible refine is_move ?_); (refine At_plain hF (by (first | exact (rfl : _ = some (Value.int _ _)) | exact (rfl : _ = some (Value.slice _ _ _)))) ?_)) | ((with_reducible refine is_load ?_); (refine At_loadB hF 0 rfl rfl rfl ?_)))); exact At_nilK hK) ?_ | refine AQF_late (by decide) (by exact (rfl : _ = some (Oper.mk _ _ _ _ _ _))) (by intro E K Q hK; simp only [List.cons_append, List.nil_append] at hK ⊢; (repeat (first | ((with_reducible refine is_guarded ?_); (refine At_guard_t rfl (by decide) rfl ?_)) | ((with_reducible refine is_move ?_); (refine At_plain hF (by (first | exact (rfl : _ = some (Value.int _ _)) | exact (rfl : _ = some (Value.slice _ _ _)))) ?_)) | ((with_reducible refine is_load ?_); (refine At_loadB hF 0 rfl rfl rfl ?_)))); exact At_nilK hK) ?_))
    refine AQF_done ?_
    (refine WAt_cons ?_ (by exact (rfl : _ = some (Oper.mk _ _ _ _ _ _))) ?_; (focus (repeat (first | exact List.Sublist.refl _ | exact List.Sublist.slnil | refine List.Sublist.cons_cons _ ?_ | refine List.Sublist.cons _ ?_))); intro K Q hK)
    refine At_guard_t rfl (by decide) rfl ?_
    refine At_callM hF E18 rfl (Post := fun u Rs => ∃ A' c', u = rowV A' (insR (⟨x.f0, x.f1, g2⟩ : S37) rest).length c' ∧ Rs = [.row 37 3 enc37 A' c' (insR (⟨x.f0, x.f1, g2⟩ : S37) rest)]) (arg2 (by (first | exact (rfl : _ = (Value.int _ _)) | exact (rfl : _ = (Value.bool _)) | exact (rfl : _ = (Value.pointer _)) | exact (rfl : _ = (Value.slice _ _ _)) | exact (rfl : _ = (Value.map _)) | exact (rfl : _ = (Value.func _ _ _)) | exact (rfl : _ = (Value.tuple _)) | exact (rfl : _ = (Value.agg _)) | exact (rfl : _ = (Value.string _)) | exact (rfl : _ = (Value.nilFunc)) | exact (rfl : _ = (Value.nilIface)))) (by (first | exact (rfl : _ = (Value.int _ _)) | exact (rfl : _ = (Value.bool _)) | exact (rfl : _ = (Value.pointer _)) | exact (rfl : _ = (Value.slice _ _ _)) | exact (rfl : _ = (Value.map _)) | exact (rfl : _ = (Value.func _ _ _)) | exact (rfl : _ = (Value.tuple _)) | exact (rfl : _ = (Value.agg _)) | exact (rfl : _ = (Value.string _)) | exact (rfl : _ = (Value.nilFunc)) | exact (rfl : _ = (Value.nilIface))))) (fun w' hw' => put_rets w' _ c2 rest ⟨x.f0, x.f1, g2⟩ (C_ownI hw' 1 rfl) (cap_ownI hw' 1 rfl) (by rw [hrest, List.length_append, htl, hdl]; omega)) ?_
    rintro _ _ ⟨A5, c5, rfl, rfl⟩
    simp only [List.cons_append, List.nil_append]
    refine At_nilK (hK _ _ ?_)
    (refine WAt_nil ?_ ?_; (focus (repeat (first | exact List.Sublist.refl _ | exact List.Sublist.slnil | refine List.Sublist.cons_cons _ ?_ | refine List.Sublist.cons _ ?_))))
    refine At_guard_t rfl (by decide) rfl ?_
    refine At_callB hF E15 rfl (u := .int .i64 200) (arg3 (by (first | exact (rfl : _ = (Value.int _ _)) | exact (rfl : _ = (Value.bool _)) | exact (rfl : _ = (Value.pointer _)) | exact (rfl : _ = (Value.slice _ _ _)) | exact (rfl : _ = (Value.map _)) | exact (rfl : _ = (Value.func _ _ _)) | exact (rfl : _ = (Value.tuple _)) | exact (rfl : _ = (Value.agg _)) | exact (rfl : _ = (Value.string _)) | exact (rfl : _ = (Value.nilFunc)) | exact (rfl : _ = (Value.nilIface)))) (by (first | exact (rfl : _ = (Value.int _ _)) | exact (rfl : _ = (Value.bool _)) | exact (rfl : _ = (Value.pointer _)) | exact (rfl : _ = (Value.slice _ _ _)) | exact (rfl : _ = (Value.map _)) | exact (rfl : _ = (Value.func _ _ _)) | exact (rfl : _ = (Value.tuple _)) | exact (rfl : _ = (Value.agg _)) | exact (rfl : _ = (Value.string _)) | exact (rfl : _ = (Value.nilFunc)) | exact (rfl : _ = (Value.nilIface)))) (by (first | exact (rfl : _ = (Value.int _ _)) | exact (rfl : _ = (Value.bool _)) | exact (rfl : _ = (Value.pointer _)) | exact (rfl : _ = (Value.slice _ _ _)) | exact (rfl : _ = (Value.map _)) | exact (rfl : _ = (Value.func _ _ _)) | exact (rfl : _ = (Value.tuple _)) | exact (rfl : _ = (Value.agg _)) | exact (rfl : _ = (Value.string _)) | exact (rfl : _ = (Value.nilFunc)) | exact (rfl : _ = (Value.nilIface))))) (fun w' hw' => hcy hne w' _ c5 (C_ownI hw' 0 rfl)) ?_
    (repeat (first | ((with_reducible refine is_AL ?_); (first | ((with_reducible refine is_guarded ?_); (refine At_guard_t rfl (by decide) rfl ?_)) | ((with_reducible refine is_bin ?_); (refine At_plain hF (by (exact (rfl : _ = some (Value.bool _)))) ?_)) | ((with_reducible refine is_assign ?_); (refine At_plain hF (by (exact (rfl : _ = some (Value.bool _)))) ?_)) | ((with_reducible refine is_pick ?_); (refine At_plain hF (by (exact (rfl : _ = some (Value.bool _)))) ?_)) | with_reducible refine At_nil ?_)) | ((with_reducible refine is_At ?_); (first | with_reducible refine At_ret ?_ | with_reducible refine At_then_n ?_ | with_reducible refine At_go (by assumption) ?_))))
    exact At_ret1 rfl (rv_tmp (by decide)) (fun w' hw' => ⟨_, rfl, rfl, hw'.below⟩)
end Go.Proofs.Ythddaojdlfifeaa.P

/- RobinRefused: the contract. -/
namespace Go.Proofs.Ythddaojdlfifeaa.P
open Go.RowKit Go.Proofs.YthddaojdlfifeaaW.PrintWords Go.Proofs.YthddaojdlfifeaaW.PrintLast Go.Proofs.YthddaojdlfifeaaW.PrintMore
open XW RegInv
attribute [local irreducible] Addr.add
set_option linter.unusedSimpArgs false
set_option linter.unusedVariables false

set_option maxHeartbeats 4000000 in
set_option maxRecDepth 100000 in
theorem rfu_bad (w0 : World) (n kind a bb : Int) (h : ¬ rightR n kind) : Rets Try.prog 8 #[.int .i64 n, .int .i64 kind, .int .u16 a, .int .u8 bb] w0 fun u w' => u = .bool true ∧ Below w0.heap.size w0 w' := by
  have hF := wide_wide
  have hrt := right_of n kind
  rw [decide_eq_false h] at hrt
  refine rets_at (n := 155) Try.func8 rfl Try.ntmps8 (by simp) ?_
  (repeat (first | ((with_reducible refine is_AL ?_); (first | ((with_reducible refine is_assign ?_); (refine At_plain hF (by (exact (rfl : _ = some (Value.bool _)))) ?_)) | with_reducible refine At_nil ?_)) | ((with_reducible refine is_At ?_); (first | with_reducible refine At_seq ?_; intro K hK | with_reducible refine At_region ?_ | with_reducible refine At_then_n ?_ | with_reducible refine At_go (by assumption) ?_))))
  refine At_callB hF E9 rfl (u := .bool true) (vs := #[]) (by simp) (fun w' hw' => sane_rets w') ?_
  (repeat (first | ((with_reducible refine is_AL ?_); (first | ((with_reducible refine is_move ?_); (refine At_plain hF (by (exact (rfl : _ = some (Value.int _ _)))) ?_)) | ((with_reducible refine is_un ?_); (refine At_plain hF (by (exact (rfl : _ = some (Value.bool _)))) ?_)) | with_reducible refine At_nil ?_)) | ((with_reducible refine is_At ?_); (first | with_reducible refine At_seq ?_; intro K hK | with_reducible refine At_region ?_ | with_reducible refine At_skip ?_ | with_reducible refine At_then_n ?_ | with_reducible refine At_go (by assumption) ?_ | ((with_reducible refine is_cond ?_); (refine At_cond_f rfl ?_))))))
  refine At_callB hF E17 rfl (u := .bool false) (arg2 (by (first | exact (rfl : _ = (Value.int _ _)) | exact (rfl : _ = (Value.bool _)) | exact (rfl : _ = (Value.pointer _)) | exact (rfl : _ = (Value.slice _ _ _)) | exact (rfl : _ = (Value.map _)) | exact (rfl : _ = (Value.func _ _ _)) | exact (rfl : _ = (Value.tuple _)) | exact (rfl : _ = (Value.agg _)) | exact (rfl : _ = (Value.string _)) | exact (rfl : _ = (Value.nilFunc)) | exact (rfl : _ = (Value.nilIface)))) (by (first | exact (rfl : _ = (Value.int _ _)) | exact (rfl : _ = (Value.bool _)) | exact (rfl : _ = (Value.pointer _)) | exact (rfl : _ = (Value.slice _ _ _)) | exact (rfl : _ = (Value.map _)) | exact (rfl : _ = (Value.func _ _ _)) | exact (rfl : _ = (Value.tuple _)) | exact (rfl : _ = (Value.agg _)) | exact (rfl : _ = (Value.string _)) | exact (rfl : _ = (Value.nilFunc)) | exact (rfl : _ = (Value.nilIface))))) (fun w' hw' => hrt w') ?_
  (repeat (first | ((with_reducible refine is_AL ?_); (first | ((with_reducible refine is_assign ?_); (refine At_plain hF (by (exact (rfl : _ = some (Value.bool _)))) ?_)) | ((with_reducible refine is_un ?_); (refine At_plain hF (by (exact (rfl : _ = some (Value.bool _)))) ?_)) | with_reducible refine At_nil ?_)) | ((with_reducible refine is_At ?_); (first | with_reducible refine At_seq ?_; intro K hK | with_reducible refine At_region ?_ | with_reducible refine At_ret ?_ | with_reducible refine At_then_n ?_ | with_reducible refine At_then_r ?_ | with_reducible refine At_go (by assumption) ?_ | ((with_reducible refine is_cond ?_); (refine At_cond_t rfl ?_))))))
  exact At_ret1 rfl (rv_tmp (by decide)) (fun w' hw' => ⟨_, rfl, rfl, hw'.below⟩)
theorem chk_no {n : Nat} {kind : Int} {l : List S37} (h : ¬ okC n (rndsN n) kind l) : chkM n kind l = 200 := if_neg h
theorem all_pairs {n : Nat} {kind : Int} {m : List S37} (h : Good n kind m) (hk1 : kind = 1) : ∀ a b : Int, 0 ≤ a → a < n → 0 ≤ b → b < n → a ≠ b → ∃ x ∈ m, pr x = (min a b, max a b) := by
  have key : ∀ a b : Nat, a < n → b < a → ∃ x ∈ m, pr x = ((b : Int), (a : Int)) := fun a b ha hb => by
    have := (h.all a ha).2.2 b hb
    unfold pairB at this
    rw [if_pos hk1] at this
    have h2 : 0 < cM m a b ∨ 0 < cM m b a := by omega
    rcases h2 with h2 | h2
    · obtain ⟨x, hx, e⟩ := List.countP_pos_iff.1 h2
      simp only [Bool.and_eq_true, beq_iff_eq] at e
      exact ⟨x, hx, by unfold pr; rw [e.1, e.2, Prod.mk.injEq]; omega⟩
    · obtain ⟨x, hx, e⟩ := List.countP_pos_iff.1 h2
      simp only [Bool.and_eq_true, beq_iff_eq] at e
      exact ⟨x, hx, by unfold pr; rw [e.1, e.2, Prod.mk.injEq]; omega⟩
  intro a b h0 h1 h2 h3 hab
  obtain ⟨p, rfl⟩ : ∃ p : Nat, a = p := ⟨a.toNat, by omega⟩
  obtain ⟨q, rfl⟩ : ∃ q : Nat, b = q := ⟨b.toNat, by omega⟩
  rcases Nat.lt_or_ge q p with hlt | hge
  · obtain ⟨x, hx, e⟩ := key p q (by omega) hlt
    exact ⟨x, hx, by rw [e, Prod.mk.injEq]; omega⟩
  · obtain ⟨x, hx, e⟩ := key q p (by omega) (by omega)
    exact ⟨x, hx, by rw [e, Prod.mk.injEq]; omega⟩
theorem rfu_good (w0 : World) (n : Nat) (kind : Int) (a bb : Nat) (hn : 2 ≤ n ∧ n ≤ 20) (hk : 1 ≤ kind ∧ kind ≤ 3) (ha : a < 65536) (hbb : bb < 256) :
    Rets Try.prog 8 #[.int .i64 n, .int .i64 kind, .int .u16 a, .int .u8 bb] w0 fun u w' => u = .bool true ∧ Below w0.heap.size w0 w' := by
  have hg := good_mk hn hk
  obtain ⟨hne, hfull⟩ := full_mk hn hk
  have hrt := right_of n kind
  rw [decide_eq_true (show rightR n kind from ⟨by omega, by omega, hk⟩)] at hrt
  have hR : 1 ≤ rndsN n ∧ rndsN n ≤ 20 := by unfold rndsN; omega
  have hQ : 1 ≤ rndsQ (rndsN n) kind ∧ rndsQ (rndsN n) kind ≤ 40 := by unfold rndsQ; split <;> omega
  have hl := hg.len
  have hmkr := mk_of n kind hn hk
  have hap := fun h => all_pairs hg h
  generalize mkM n kind = m at hg hne hfull hl hmkr hap
  have hm0 : 1 ≤ m.length := List.length_pos_iff.2 hne
  generalize hkk : a % m.length = k
  have hkl : k < m.length := by rw [← hkk]; exact Nat.mod_lt _ (by omega)
  generalize hx : m.getD k z37 = x
  generalize hrest : m.take k ++ m.drop (k + 1) = rest
  have hpm : m.Perm (x :: rest) := by
    have e : m = m.take k ++ m.getD k z37 :: m.drop (k + 1) := by
      have h1 := take_snocS m k z37 hkl
      have h2 := List.take_append_drop (k + 1) m
      rw [h1, List.append_assoc] at h2
      exact h2.symm
    rw [← hrest, ← hx]
    exact (List.Perm.of_eq e).trans List.perm_middle
  have hrl : rest.length + 1 = m.length := by have := hpm.length_eq; simp at this; omega
  have hxin := hg.inX x (hpm.symm.subset (List.mem_cons_self ..))
  obtain ⟨x1, x2, ⟨x3, x4⟩, ⟨x5, x6⟩, x7⟩ := hxin
  refine rfu_core w0 n (rndsQ (rndsN n) kind) kind a bb m hn hk hQ hmkr (fun w => rounds_rets n (rndsN n) kind hn hk rfl w) hrt hm0 hl (fun i hi => hg.inX _ (getD_memN hi)) ha hbb k hkk.symm x hx.symm rest hrest.symm ?_ ?_ (fun hne => ?_) (fun hne => ?_)
  · exact chk_of n kind _ 200 hn hk (by omega) (chk_no (len_no hR.1 hk hg.chk (by omega)))
  · have hdl : (m.take k ++ [x] ++ m.drop k).length = m.length + 1 := by simp; omega
    exact chk_of n kind _ 200 hn hk (by omega) (chk_no (len_no hR.1 hk hg.chk (by omega)))
  · refine chk_of n kind _ 200 hn hk (by rw [(insR_perm _ _).length_eq, List.length_cons]; omega) (chk_no (round_no hR.1 hpm (insR_perm _ _) hne ?_))
    have h0 := Int.emod_nonneg (x.f0 + 1 + ((bb % rndsQ (rndsN n) kind : Nat) : Int)) (show ((rndsQ (rndsN n) kind : Nat) : Int) ≠ 0 by omega)
    have h1 := Int.emod_lt_of_pos (x.f0 + 1 + ((bb % rndsQ (rndsN n) kind : Nat) : Int)) (show (0 : Int) < ((rndsQ (rndsN n) kind : Nat) : Int) by omega)
    show n / 2 ≤ (byR m ((x.f0 + 1 + ((bb % rndsQ (rndsN n) kind : Nat) : Int)) % ((rndsQ (rndsN n) kind : Nat) : Int))).length
    generalize (x.f0 + 1 + ((bb % rndsQ (rndsN n) kind : Nat) : Int)) % ((rndsQ (rndsN n) kind : Nat) : Int) = g at h0 h1
    obtain ⟨r, rfl⟩ : ∃ r : Nat, g = r := ⟨g.toNat, by omega⟩
    exact hfull r (by omega)
  · refine chk_of n kind _ 200 hn hk (by rw [(insR_perm _ _).length_eq, List.length_cons]; omega) (chk_no (away_no hR.1 hk hg.chk hap hpm (insR_perm _ _) rfl rfl hne ⟨?_, ?_⟩))
    · exact Int.emod_nonneg _ (by omega)
    · exact Int.emod_lt_of_pos _ (by omega)
theorem law_RobinRefused.calls (a0 : Int) (a1 : Int) (a2 : Int) (a3 : Int) (r : Bool) (w : World) (h : r = true ∧ (Lit.int .u16 a2).wf = true ∧ (Lit.int .u8 a3).wf = true) :
    Calls Try.prog 8 #[.int .i64 a0, .int .i64 a1, .int .u16 a2, .int .u8 a3] w fun e w' => e = .returned (.bool r) ∧ Below w.heap.size w w' := by
  obtain ⟨rfl, h1, h2⟩ := h
  simp only [Lit.wf, Bool.and_eq_true, decide_eq_true_eq] at h1 h2
  have ha : 0 ≤ a2 ∧ a2 ≤ 65535 := h1
  have hb : 0 ≤ a3 ∧ a3 ≤ 255 := h2
  obtain ⟨x, rfl⟩ : ∃ k : Nat, a2 = k := ⟨a2.toNat, by omega⟩
  obtain ⟨y, rfl⟩ : ∃ k : Nat, a3 = k := ⟨a3.toNat, by omega⟩
  by_cases hr : rightR a0 a1
  · obtain ⟨g1, g2, g3, g4⟩ := hr
    obtain ⟨n, rfl⟩ : ∃ n : Nat, a0 = n := ⟨a0.toNat, by omega⟩
    refine (rfu_good w n a1 x y (by omega) ⟨g3, g4⟩ (by omega) (by omega)).mono ?_
    rintro e w' ⟨v, rfl, rfl, hb⟩
    exact ⟨rfl, hb⟩
  · refine (rfu_bad w a0 a1 _ _ hr).mono ?_
    rintro e w' ⟨v, rfl, rfl, hb⟩
    exact ⟨rfl, hb⟩
end Go.Proofs.Ythddaojdlfifeaa.P
