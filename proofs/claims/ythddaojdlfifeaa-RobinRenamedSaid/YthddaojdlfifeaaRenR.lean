import Derived.Test.YthddaojdlfifeaaGSane
import Derived.Test.YthddaojdlfifeaaEqvP
import Derived.Test.YthddaojdlfifeaaP12
import Derived.Test.YthddaojdlfifeaaXMakeZ
import Derived.Test.YthddaojdlfifeaaXDrawN
import Derived.Test.YthddaojdlfifeaaXBits
import Derived.Test.YthddaojdlfifeaaP6
import Derived.Test.YthddaojdlfifeaaXDrawF
import Derived.Test.YthddaojdlfifeaaXStr
/- RobinAll: what is counted. -/
namespace Go.Proofs.Ythddaojdlfifeaa.P
open Go.RowKit Go.Proofs.YthddaojdlfifeaaW.PrintWords Go.Proofs.YthddaojdlfifeaaW.PrintLast Go.Proofs.YthddaojdlfifeaaW.PrintMore
set_option linter.unusedSimpArgs false
set_option linter.unusedVariables false

def cM (m : List S37) (a b : Nat) : Nat := m.countP fun x => x.f1 == (a : Int) && x.f2 == (b : Int)
def cG (m : List S37) (r t : Nat) : Nat := (m.countP fun x => x.f0 == (r : Int) && x.f1 == (t : Int)) + m.countP fun x => x.f0 == (r : Int) && x.f2 == (t : Int)
/-- the rests of team a, r rounds of them -/
def rst (m : List S37) (a : Nat) : Nat → Int
  | 0 => 0
  | r + 1 => rst m a r + (1 - (cG m r a : Int))
def wantR (n : Nat) (kind : Int) : Int := if kind = 1 then (n % 2 : Nat) else 2 * (n % 2 : Nat)
/-- what RobinAll asks of the meetings -/
def pairB (m : List S37) (kind : Int) (a b : Nat) : Prop := if kind = 1 then cM m a b + cM m b a = 1 else cM m a b = 1 ∧ cM m b a = 1
def allOk (n Q : Nat) (kind : Int) (m : List S37) : Prop := ∀ a, a < n → (∀ r, r < Q → cG m r a ≤ 1) ∧ rst m a Q = wantR n kind ∧ ∀ b, b < a → pairB m kind a b
end Go.Proofs.Ythddaojdlfifeaa.P

/- What Make returns is a round robin, and everybody meets everybody. -/
namespace Go.Proofs.Ythddaojdlfifeaa.P
open Go.RowKit Go.Proofs.YthddaojdlfifeaaW.PrintWords Go.Proofs.YthddaojdlfifeaaW.PrintLast Go.Proofs.YthddaojdlfifeaaW.PrintMore
set_option linter.unusedSimpArgs false
set_option linter.unusedVariables false

/-- no number twice, told by the bits of one number -/
def nodupB : List Nat → Nat → Bool
  | [], _ => true
  | c :: l, s => !(s.testBit c) && nodupB l (s ||| 1 <<< c)
def bitsOf (l : List Nat) : Nat := l.foldl (fun s c => s ||| 1 <<< c) 0
theorem bit_or (s c t : Nat) : (s ||| 1 <<< c).testBit t = (s.testBit t || decide (c = t)) := by
  rw [Nat.testBit_or, Nat.one_shiftLeft, Nat.testBit_two_pow]
theorem nodupB_spec : ∀ (l : List Nat) (s : Nat), nodupB l s = true → l.Nodup ∧ ∀ c ∈ l, s.testBit c = false
  | [], s, _ => ⟨List.nodup_nil, by simp⟩
  | c :: l, s, h => by
    rw [nodupB, Bool.and_eq_true, Bool.not_eq_true'] at h
    obtain ⟨h1, h2⟩ := nodupB_spec l _ h.2
    have h3 : ∀ d ∈ l, s.testBit d = false ∧ c ≠ d := fun d hd => by
      have := h2 d hd
      rw [bit_or, Bool.or_eq_false_iff, decide_eq_false_iff_not] at this
      exact this
    refine ⟨List.nodup_cons.2 ⟨fun hc => (h3 c hc).2 rfl, h1⟩, fun d hd => ?_⟩
    rcases List.mem_cons.1 hd with rfl | hd
    · exact h.1
    · exact (h3 d hd).1
theorem bits_mem (t : Nat) : ∀ (l : List Nat) (s : Nat), (l.foldl (fun s c => s ||| 1 <<< c) s).testBit t = true → s.testBit t = true ∨ t ∈ l
  | [], s, h => .inl h
  | c :: l, s, h => by
    rcases bits_mem t l _ h with h1 | h1
    · rw [bit_or, Bool.or_eq_true, decide_eq_true_eq] at h1
      rcases h1 with h1 | h1
      · exact .inl h1
      · exact .inr (by simp [h1])
    · exact .inr (by simp [h1])
def cd (p : Int × Int) : Nat := p.1.toNat * 20 + p.2.toNat
theorem cd_inj {p q : Int × Int} (hp : 0 ≤ p.1 ∧ 0 ≤ p.2 ∧ p.2 < 20) (hq : 0 ≤ q.1 ∧ 0 ≤ q.2 ∧ q.2 < 20) (h : cd p = cd q) : p = q := by
  unfold cd at h
  exact Prod.ext (by omega) (by omega)
theorem nodup_cd {l : List (Int × Int)} (h : nodupB (l.map cd) 0 = true) : l.Nodup := by
  have h1 := (nodupB_spec _ _ h).1
  exact (List.pairwise_map.1 h1).imp (fun {a b} h e => h (by rw [e]))
def homeAway (x : S37) : Int × Int := (x.f1, x.f2)
def goodB (n : Nat) (kind : Int) (m : List S37) : Bool :=
  m.all (fun x => decide (okX n (rndsQ (rndsN n) kind : Nat) x)) && nodupB ((slots m).map cd) 0 && nodupB ((metL m (rndsN n) kind (rndsN n)).map cd) 0 &&
  (List.range (rndsN n)).all (fun r => decide (mkB (rndsN n) kind r < 0) || decide (byR m (mkB (rndsN n) kind r) = sortM ((byR m (mkA (rndsN n) kind r)).map (trn (mkB (rndsN n) kind r))))) &&
  decide ((metL m (rndsN n) kind (rndsN n)).length = n * (n - 1) / 2) && decide (m.length ≤ 1000) &&
  (List.range n).all (fun a => decide (((m.countP fun x => x.f1 == (a : Int)) + (m.countP fun x => x.f2 == (a : Int)) : Nat) + wantR n kind = (rndsQ (rndsN n) kind : Nat))) &&
  (if kind = 1 then nodupB ((m.map pr).map cd) 0 && (List.range n).all (fun a => (List.range a).all fun b => (bitsOf ((m.map pr).map cd)).testBit (b * 20 + a))
   else nodupB ((m.map homeAway).map cd) 0 && (List.range n).all (fun a => (List.range n).all fun b => decide (a = b) || (bitsOf ((m.map homeAway).map cd)).testBit (a * 20 + b)))
theorem good_2 : ∀ k, k < 4 → 1 ≤ k → goodB 2 (k : Nat) (mkM 2 (k : Nat)) = true := by decide +kernel
theorem good_3 : ∀ k, k < 4 → 1 ≤ k → goodB 3 (k : Nat) (mkM 3 (k : Nat)) = true := by decide +kernel
theorem good_4 : ∀ k, k < 4 → 1 ≤ k → goodB 4 (k : Nat) (mkM 4 (k : Nat)) = true := by decide +kernel
theorem good_5 : ∀ k, k < 4 → 1 ≤ k → goodB 5 (k : Nat) (mkM 5 (k : Nat)) = true := by decide +kernel
theorem good_6 : ∀ k, k < 4 → 1 ≤ k → goodB 6 (k : Nat) (mkM 6 (k : Nat)) = true := by decide +kernel
theorem good_7 : ∀ k, k < 4 → 1 ≤ k → goodB 7 (k : Nat) (mkM 7 (k : Nat)) = true := by decide +kernel
theorem good_8 : ∀ k, k < 4 → 1 ≤ k → goodB 8 (k : Nat) (mkM 8 (k : Nat)) = true := by decide +kernel
theorem good_9 : ∀ k, k < 4 → 1 ≤ k → goodB 9 (k : Nat) (mkM 9 (k : Nat)) = true := by decide +kernel
theorem good_10 : ∀ k, k < 4 → 1 ≤ k → goodB 10 (k : Nat) (mkM 10 (k : Nat)) = true := by decide +kernel
theorem good_11 : ∀ k, k < 4 → 1 ≤ k → goodB 11 (k : Nat) (mkM 11 (k : Nat)) = true := by decide +kernel
theorem good_12 : ∀ k, k < 4 → 1 ≤ k → goodB 12 (k : Nat) (mkM 12 (k : Nat)) = true := by decide +kernel
theorem good_13 : ∀ k, k < 4 → 1 ≤ k → goodB 13 (k : Nat) (mkM 13 (k : Nat)) = true := by decide +kernel
theorem good_14 : ∀ k, k < 4 → 1 ≤ k → goodB 14 (k : Nat) (mkM 14 (k : Nat)) = true := by decide +kernel
theorem good_15 : ∀ k, k < 4 → 1 ≤ k → goodB 15 (k : Nat) (mkM 15 (k : Nat)) = true := by decide +kernel
theorem good_16 : ∀ k, k < 4 → 1 ≤ k → goodB 16 (k : Nat) (mkM 16 (k : Nat)) = true := by decide +kernel
theorem good_17 : ∀ k, k < 4 → 1 ≤ k → goodB 17 (k : Nat) (mkM 17 (k : Nat)) = true := by decide +kernel
theorem good_18 : ∀ k, k < 4 → 1 ≤ k → goodB 18 (k : Nat) (mkM 18 (k : Nat)) = true := by decide +kernel
theorem good_19 : ∀ k, k < 4 → 1 ≤ k → goodB 19 (k : Nat) (mkM 19 (k : Nat)) = true := by decide +kernel
theorem good_20 : ∀ k, k < 4 → 1 ≤ k → goodB 20 (k : Nat) (mkM 20 (k : Nat)) = true := by decide +kernel
theorem good_in (n : Nat) (h : n < 21) (h2 : 2 ≤ n) : ∀ k, k < 4 → 1 ≤ k → goodB n (k : Nat) (mkM n (k : Nat)) = true := by
  match n, h, h2 with
  | 2, _, _ => exact good_2
  | 3, _, _ => exact good_3
  | 4, _, _ => exact good_4
  | 5, _, _ => exact good_5
  | 6, _, _ => exact good_6
  | 7, _, _ => exact good_7
  | 8, _, _ => exact good_8
  | 9, _, _ => exact good_9
  | 10, _, _ => exact good_10
  | 11, _, _ => exact good_11
  | 12, _, _ => exact good_12
  | 13, _, _ => exact good_13
  | 14, _, _ => exact good_14
  | 15, _, _ => exact good_15
  | 16, _, _ => exact good_16
  | 17, _, _ => exact good_17
  | 18, _, _ => exact good_18
  | 19, _, _ => exact good_19
  | 20, _, _ => exact good_20
  | k + 21, h, _ => omega
theorem good_at {n : Nat} {kind : Int} (hn : 2 ≤ n ∧ n ≤ 20) (hk : 1 ≤ kind ∧ kind ≤ 3) : goodB n kind (mkM n kind) = true := by
  obtain ⟨k, rfl⟩ : ∃ k : Nat, kind = k := ⟨kind.toNat, by omega⟩
  exact good_in n (by omega) hn.1 k (by omega) (by omega)
end Go.Proofs.Ythddaojdlfifeaa.P

/- What Make returns is a round robin: the facts. -/
namespace Go.Proofs.Ythddaojdlfifeaa.P
open Go.RowKit Go.Proofs.YthddaojdlfifeaaW.PrintWords Go.Proofs.YthddaojdlfifeaaW.PrintLast Go.Proofs.YthddaojdlfifeaaW.PrintMore
set_option linter.unusedSimpArgs false
set_option linter.unusedVariables false

theorem countP_nd {α β : Type} [DecidableEq β] (f : α → β) (c : β) : ∀ {l : List α}, (l.map f).Nodup → l.countP (fun x => decide (f x = c)) ≤ 1
  | [], _ => by simp
  | x :: l, h => by
    rw [List.map_cons, List.nodup_cons] at h
    have ih := countP_nd f c h.2
    rw [List.countP_cons]
    by_cases e : f x = c
    · have h0 : l.countP (fun x => decide (f x = c)) = 0 := by
        rw [List.countP_eq_zero]
        intro y hy
        rw [decide_eq_true_iff]
        intro e2
        exact h.1 (List.mem_map.2 ⟨y, hy, by rw [e2, e]⟩)
      rw [h0]; split <;> omega
    · rw [if_neg (by simpa using e)]; omega
theorem countP_pos' {α β : Type} [DecidableEq β] (f : α → β) (c : β) {l : List α} (h : c ∈ l.map f) : 1 ≤ l.countP (fun x => decide (f x = c)) := by
  obtain ⟨x, hx, e⟩ := List.mem_map.1 h
  exact List.countP_pos_iff.2 ⟨x, hx, by simp [e]⟩
/-! ### slots -/
theorem slots_app (l l' : List S37) : slots (l ++ l') = slots l ++ slots l' := by simp [slots]
theorem okI_of {n Q : Int} {m : List S37} (hX : ∀ x ∈ m, okX n Q x) (hb : m.Pairwise bef) (hs : (slots m).Nodup) : ∀ i, i < m.length → okI n Q m i := by
  intro i hi
  have e : m = m.take i ++ m.getD i z37 :: m.drop (i + 1) := by
    have h1 := take_snocS m i z37 hi
    have h2 := List.take_append_drop (i + 1) m
    rw [h1, List.append_assoc] at h2
    exact h2.symm
  have hm : m.getD i z37 ∈ m := getD_memS hi
  rw [e, slots_app] at hs
  have hd := (List.nodup_append.1 hs).2.2
  refine ⟨hX _ hm, fun h0 => ?_, fun h => hd _ h ((m.getD i z37).f0, (m.getD i z37).f1) (by simp [slots]) rfl, fun h => hd _ h ((m.getD i z37).f0, (m.getD i z37).f2) (by simp [slots]) rfl⟩
  have := List.pairwise_iff_getElem.1 hb (i - 1) i (by omega) hi (by omega)
  rw [List.getD_eq_getElem?_getD, List.getElem?_eq_getElem (by omega : i - 1 < m.length), List.getD_eq_getElem?_getD, List.getElem?_eq_getElem hi]
  exact this
theorem cG_slots (m : List S37) (r a : Nat) : cG m r a = (slots m).countP (fun p => decide (p = ((r : Int), (a : Int)))) := by
  induction m with
  | nil => rfl
  | cons x m ih =>
    have e : slots (x :: m) = (x.f0, x.f1) :: (x.f0, x.f2) :: slots m := rfl
    rw [e, List.countP_cons, List.countP_cons, ← ih]
    unfold cG
    rw [List.countP_cons, List.countP_cons]
    have e1 : (x.f0 == (r : Int) && x.f1 == (a : Int)) = decide ((x.f0, x.f1) = ((r : Int), (a : Int))) := by rw [Bool.eq_iff_iff]; simp
    have e2 : (x.f0 == (r : Int) && x.f2 == (a : Int)) = decide ((x.f0, x.f2) = ((r : Int), (a : Int))) := by rw [Bool.eq_iff_iff]; simp
    rw [e1, e2]; omega
theorem cG_one {m : List S37} (h : (slots m).Nodup) (r a : Nat) : cG m r a ≤ 1 := by
  rw [cG_slots]
  exact countP_nd id _ (by simpa using h)
theorem countP_split (p : S37 → Bool) (m : List S37) : ∀ R : Nat, (m.countP fun x : S37 => (decide (0 ≤ x.f0) && decide (x.f0 < ((R + 1 : Nat) : Int))) && p x) = (m.countP fun x : S37 => (decide (0 ≤ x.f0) && decide (x.f0 < (R : Int))) && p x) + m.countP fun x : S37 => x.f0 == (R : Int) && p x := by
  intro R
  induction m with
  | nil => rfl
  | cons x m ih =>
    rw [List.countP_cons, List.countP_cons, List.countP_cons, ih]
    have e : (if ((decide (0 ≤ x.f0) && decide (x.f0 < ((R + 1 : Nat) : Int))) && p x) = true then 1 else 0) = (if ((decide (0 ≤ x.f0) && decide (x.f0 < (R : Int))) && p x) = true then 1 else 0) + (if (x.f0 == (R : Int) && p x) = true then 1 else 0) := by
      cases p x
      · simp
      · simp only [Bool.and_true, Bool.and_eq_true, decide_eq_true_eq, beq_iff_eq]
        split <;> split <;> split <;> omega
    omega
theorem rst_eq (m : List S37) (a : Nat) : ∀ R : Nat, rst m a R = (R : Int) - (((m.countP fun x : S37 => (decide (0 ≤ x.f0) && decide (x.f0 < (R : Int))) && x.f1 == (a : Int)) + (m.countP fun x : S37 => (decide (0 ≤ x.f0) && decide (x.f0 < (R : Int))) && x.f2 == (a : Int)) : Nat) : Int)
  | 0 => by
    have e : ∀ p : S37 → Bool, (m.countP fun x : S37 => (decide (0 ≤ x.f0) && decide (x.f0 < ((0 : Nat) : Int))) && p x) = 0 := fun p => by
      rw [List.countP_eq_zero]
      intro x _
      simp; omega
    rw [e, e]; rfl
  | R + 1 => by
    rw [rst, rst_eq m a R, countP_split, countP_split]
    unfold cG; omega
theorem rst_all {m : List S37} {Q : Nat} (h : ∀ x ∈ m, 0 ≤ x.f0 ∧ x.f0 < Q) (a : Nat) : rst m a Q = (Q : Int) - (((m.countP fun x : S37 => x.f1 == (a : Int)) + (m.countP fun x : S37 => x.f2 == (a : Int)) : Nat) : Int) := by
  rw [rst_eq]
  have e : ∀ p : S37 → Bool, (m.countP fun x : S37 => (decide (0 ≤ x.f0) && decide (x.f0 < (Q : Int))) && p x) = m.countP p := fun p => by
    refine List.countP_congr fun x hx => ?_
    have := h x hx
    simp [this.1, this.2]
  rw [e, e]
/-! ### the facts -/
structure Good (n : Nat) (kind : Int) (m : List S37) : Prop where
  inX : ∀ x ∈ m, okX n (rndsQ (rndsN n) kind : Nat) x
  len : m.length ≤ 1000
  chk : okC n (rndsN n) kind m
  all : allOk n (rndsQ (rndsN n) kind) kind m
theorem good_of {n : Nat} {kind : Int} (hn : 2 ≤ n ∧ n ≤ 20) (hk : 1 ≤ kind ∧ kind ≤ 3) {m : List S37} (hb : m.Pairwise bef) (h : goodB n kind m = true) : Good n kind m := by
  unfold goodB at h
  simp only [Bool.and_eq_true, List.all_eq_true, decide_eq_true_eq, Bool.or_eq_true, List.mem_range] at h
  obtain ⟨⟨⟨⟨⟨⟨⟨h1, h2⟩, h3⟩, h4⟩, h5⟩, h6⟩, h7⟩, h8⟩ := h
  have hs : (slots m).Nodup := nodup_cd h2
  have hmet : (metL m (rndsN n) kind (rndsN n)).Nodup := nodup_cd h3
  have hR : 1 ≤ rndsN n := by unfold rndsN; omega
  have hI := okI_of h1 hb hs
  have hchk : okC n (rndsN n) kind m := by
    refine ⟨hI, fun r hr => ⟨?_, fun hb0 => ?_⟩, h5⟩
    · have := met_sub m (rndsN n) kind (rndsN n - (r + 1)) (r + 1)
      rw [show r + 1 + (rndsN n - (r + 1)) = rndsN n by omega] at this
      exact hmet.sublist this
    · rcases h4 r hr with h | h
      · omega
      · rw [h]; exact sortM_perm _
  refine ⟨h1, h6, hchk, fun a ha => ⟨fun r hr => cG_one hs r a, ?_, fun b hb2 => ?_⟩⟩
  · rw [rst_all (fun x hx => ⟨(h1 x hx).1, (h1 x hx).2.1⟩)]
    have := h7 a ha
    omega
  · unfold pairB
    by_cases hk1 : kind = 1
    · rw [if_pos hk1] at h8 ⊢
      simp only [Bool.and_eq_true, List.all_eq_true, List.mem_range] at h8
      have hnd : (m.map pr).Nodup := nodup_cd h8.1
      have hmem : ((b : Int), (a : Int)) ∈ m.map pr := by
        have := bits_mem _ _ _ (h8.2 a ha b hb2)
        rcases this with h | h
        · simp at h
        · obtain ⟨p, hp, e⟩ := List.mem_map.1 h
          obtain ⟨x, hx, rfl⟩ := List.mem_map.1 hp
          obtain ⟨_, _, ⟨e1, e2⟩, ⟨e3, e4⟩, _⟩ := h1 x hx
          have : pr x = ((b : Int), (a : Int)) := by
            refine cd_inj ?_ ?_ ?_
            · unfold pr; simp only; omega
            · simp only; omega
            · rw [e]; unfold cd; simp
          rw [← this]; exact hp
      have c1 := countP_nd pr ((b : Int), (a : Int)) hnd
      have c2 := countP_pos' pr ((b : Int), (a : Int)) hmem
      have e : (m.countP fun x => decide (pr x = ((b : Int), (a : Int)))) = cM m a b + cM m b a := by
        clear c1 c2 hmem hnd h8 h7 h6 h5 h4 h3 h2 hI hchk hmet hs hb
        unfold cM
        induction m with
        | nil => rfl
        | cons x m ih =>
          rw [List.countP_cons, List.countP_cons, List.countP_cons, ih (fun y hy => h1 y (by simp [hy]))]
          have e : (if decide (pr x = ((b : Int), (a : Int))) = true then 1 else 0) = (if (x.f1 == (a : Int) && x.f2 == (b : Int)) = true then 1 else 0) + (if (x.f1 == (b : Int) && x.f2 == (a : Int)) = true then 1 else 0) := by
            simp only [decide_eq_true_eq, Bool.and_eq_true, beq_iff_eq, pr, Prod.mk.injEq]
            split <;> split <;> split <;> omega
          omega
      omega
    · rw [if_neg hk1] at h8 ⊢
      simp only [Bool.and_eq_true, List.all_eq_true, List.mem_range, Bool.or_eq_true, decide_eq_true_eq] at h8
      have hnd : (m.map homeAway).Nodup := nodup_cd h8.1
      have key : ∀ a b : Nat, a < n → b < n → a ≠ b → cM m a b = 1 := fun a b ha hb hab => by
        have hmem : ((a : Int), (b : Int)) ∈ m.map homeAway := by
          rcases h8.2 a ha b hb with h | h
          · exact absurd h hab
          have := bits_mem _ _ _ h
          rcases this with h | h
          · simp at h
          · obtain ⟨p, hp, e⟩ := List.mem_map.1 h
            obtain ⟨x, hx, rfl⟩ := List.mem_map.1 hp
            obtain ⟨_, _, ⟨e1, e2⟩, ⟨e3, e4⟩, _⟩ := h1 x hx
            have : homeAway x = ((a : Int), (b : Int)) := by
              refine cd_inj ?_ ?_ ?_
              · unfold homeAway; simp only; omega
              · simp only; omega
              · rw [e]; unfold cd; simp
            rw [← this]; exact hp
        have c1 := countP_nd homeAway ((a : Int), (b : Int)) hnd
        have c2 := countP_pos' homeAway ((a : Int), (b : Int)) hmem
        have e : (m.countP fun x => decide (homeAway x = ((a : Int), (b : Int)))) = cM m a b := by
          unfold cM
          refine List.countP_congr fun x _ => ?_
          simp [homeAway]
        omega
      exact ⟨key a b ha (by omega) (by omega), key b a (by omega) ha (by omega)⟩
theorem good_mk {n : Nat} {kind : Int} (hn : 2 ≤ n ∧ n ≤ 20) (hk : 1 ≤ kind ∧ kind ≤ 3) : Good n kind (mkM n kind) := good_of hn hk (mk_strict hn hk) (good_at hn hk)
end Go.Proofs.Ythddaojdlfifeaa.P

/- Renamed round robins are round robins: plain. -/
namespace Go.Proofs.Ythddaojdlfifeaa.P
open Go.RowKit Go.Proofs.YthddaojdlfifeaaW.PrintWords Go.Proofs.YthddaojdlfifeaaW.PrintLast Go.Proofs.YthddaojdlfifeaaW.PrintMore
set_option linter.unusedSimpArgs false
set_option linter.unusedVariables false

/-- what a round robin is, told so that the order of the list tells nothing but itself -/
structure RR (n R : Nat) (kind : Int) (m : List S37) : Prop where
  inX : ∀ x ∈ m, okX n (rndsQ R kind : Nat) x
  slt : (slots m).Nodup
  met : (metL m R kind R).Nodup
  trns : ∀ r, r < R → 0 ≤ mkB R kind r → (byR m (mkB R kind r)).Perm ((byR m (mkA R kind r)).map (trn (mkB R kind r)))
  cnt : (metL m R kind R).length = n * (n - 1) / 2
theorem okC_of {n R : Nat} {kind : Int} {m : List S37} (h : RR n R kind m) (hb : m.Pairwise bef) : okC n R kind m := by
  refine ⟨okI_of h.inX hb h.slt, fun r hr => ⟨?_, h.trns r hr⟩, h.cnt⟩
  have := met_sub m R kind (R - (r + 1)) (r + 1)
  rw [show r + 1 + (R - (r + 1)) = R by omega] at this
  exact h.met.sublist this
theorem rr_of {n R : Nat} {kind : Int} {m : List S37} (hR : 1 ≤ R) (h : okC n R kind m) : RR n R kind m := by
  refine ⟨okI_mem h.1, ?_, ?_, fun r hr => (h.2.1 r hr).2, h.2.2⟩
  · have := okI_slots h.1 m.length (Nat.le_refl _)
    rwa [List.take_length] at this
  · have := (h.2.1 (R - 1) (by omega)).1
    rwa [show R - 1 + 1 = R by omega] at this
theorem slots_perm {l l' : List S37} (h : l.Perm l') : (slots l).Perm (slots l') := h.flatMap_right _
theorem byR_perm {l l' : List S37} (h : l.Perm l') (r : Int) : (byR l r).Perm (byR l' r) := h.filter _
theorem met_perm {l l' : List S37} (h : l.Perm l') (R : Nat) (kind : Int) : ∀ r, (metL l R kind r).Perm (metL l' R kind r)
  | 0 => List.Perm.refl _
  | r + 1 => (met_perm h R kind r).append ((byR_perm h _).map pr)
theorem RR.perm {n R : Nat} {kind : Int} {l l' : List S37} (h : RR n R kind l) (hp : l'.Perm l) : RR n R kind l' :=
  ⟨fun x hx => h.inX x (hp.subset hx), (slots_perm hp).nodup_iff.2 h.slt, (met_perm hp R kind R).nodup_iff.2 h.met, fun r hr hb => (byR_perm hp _).trans ((h.trns r hr hb).trans ((byR_perm hp _).symm.map _)), by rw [(met_perm hp R kind R).length_eq]; exact h.cnt⟩
/-- sorted, and each team at most once in a round -/
theorem bef_of {l : List S37} (hs : SrtL l) (hn : (slots l).Nodup) : l.Pairwise bef := by
  have h1 : l.Pairwise fun x y => (x.f0, x.f1) ≠ (y.f0, y.f1) := by
    clear hs
    induction l with
    | nil => exact List.Pairwise.nil
    | cons x l ih =>
      have e : slots (x :: l) = (x.f0, x.f1) :: (x.f0, x.f2) :: slots l := rfl
      rw [e, List.nodup_cons, List.nodup_cons] at hn
      refine List.pairwise_cons.2 ⟨fun y hy e => hn.1 ?_, ih hn.2.2⟩
      rw [e]
      exact List.mem_cons_of_mem _ (List.mem_flatMap.2 ⟨y, hy, by simp⟩)
  refine (hs.and h1).imp (fun {x y} h => ?_)
  obtain ⟨h2, h3⟩ := h
  unfold bef
  rcases h2 with h2 | ⟨h2, h4⟩
  · exact .inl h2
  · refine .inr ⟨h2, ?_⟩
    rcases Int.lt_or_eq_of_le h4 with h5 | h5
    · exact h5
    · exact absurd (by rw [h2, h5]) h3
/-- teams under other names; the venue may be turned where no return round is asked -/
def Rel (kind : Int) (π : Int → Int) (x y : S37) : Prop := y.f0 = x.f0 ∧ ((y.f1 = π x.f1 ∧ y.f2 = π x.f2) ∨ (kind = 1 ∧ y.f1 = π x.f2 ∧ y.f2 = π x.f1))
theorem byR_fst {Z : List (S37 × S37)} (r : Int) : byR (Z.map (·.1)) r = (Z.filter fun z => z.1.f0 == r).map (·.1) := by
  unfold byR; rw [List.filter_map]; rfl
theorem byR_snd {kind : Int} {π : Int → Int} {Z : List (S37 × S37)} (h : ∀ z ∈ Z, Rel kind π z.1 z.2) (r : Int) : byR (Z.map (·.2)) r = (Z.filter fun z => z.1.f0 == r).map (·.2) := by
  unfold byR
  rw [List.filter_map]
  congr 1
  refine List.filter_congr fun z hz => ?_
  show (z.2.f0 == r) = (z.1.f0 == r)
  rw [(h z hz).1]
def prπ (π : Int → Int) (x : S37) : Int × Int := (min (π x.f1) (π x.f2), max (π x.f1) (π x.f2))
theorem pr_rel {kind : Int} {π : Int → Int} {x y : S37} (h : Rel kind π x y) : pr y = prπ π x := by
  unfold pr prπ
  rcases h.2 with ⟨h1, h2⟩ | ⟨_, h1, h2⟩
  · rw [h1, h2]
  · rw [h1, h2, Int.min_comm, Int.max_comm]
theorem met_rel {kind : Int} {π : Int → Int} {Z : List (S37 × S37)} (h : ∀ z ∈ Z, Rel kind π z.1 z.2) (R : Nat) : ∀ r, metL (Z.map (·.2)) R kind r = (catR (Z.map (·.1)) (mkA R kind) r).map (prπ π)
  | 0 => rfl
  | r + 1 => by
    rw [metL, catR, met_rel h R r, List.map_append, byR_snd h, byR_fst, List.map_map, List.map_map]
    congr 1
    refine List.map_congr_left fun z hz => ?_
    exact pr_rel (h z (List.mem_filter.1 hz).1)
theorem cat_mem {m : List S37} {F : Nat → Int} {x : S37} : ∀ r, x ∈ catR m F r → x ∈ m
  | 0, h => by cases h
  | r + 1, h => by
    rw [catR] at h
    rcases List.mem_append.1 h with h | h
    · exact cat_mem r h
    · exact (List.mem_filter.1 h).1
theorem slots_rel {kind : Int} {π : Int → Int} : ∀ {Z : List (S37 × S37)}, (∀ z ∈ Z, Rel kind π z.1 z.2) → (slots (Z.map (·.2))).Perm ((slots (Z.map (·.1))).map fun p => (p.1, π p.2))
  | [], _ => List.Perm.refl _
  | z :: Z, h => by
    have ih := slots_rel (Z := Z) (fun y hy => h y (by simp [hy]))
    have hz := h z (by simp)
    have e1 : slots ((z :: Z).map (·.2)) = (z.2.f0, z.2.f1) :: (z.2.f0, z.2.f2) :: slots (Z.map (·.2)) := rfl
    have e2 : (slots ((z :: Z).map (·.1))).map (fun p : Int × Int => (p.1, π p.2)) = (z.1.f0, π z.1.f1) :: (z.1.f0, π z.1.f2) :: (slots (Z.map (·.1))).map (fun p : Int × Int => (p.1, π p.2)) := rfl
    rw [e1, e2, hz.1]
    rcases hz.2 with ⟨h1, h2⟩ | ⟨_, h1, h2⟩
    · rw [h1, h2]
      exact (ih.cons _).cons _
    · rw [h1, h2]
      exact ((ih.cons _).cons _).trans (List.Perm.swap _ _ _)
theorem nodup_map_on {α β : Type} {f : α → β} : ∀ {l : List α}, (∀ x ∈ l, ∀ y ∈ l, f x = f y → x = y) → l.Nodup → (l.map f).Nodup
  | [], _, _ => List.nodup_nil
  | a :: l, h, hn => by
    rw [List.nodup_cons] at hn
    rw [List.map_cons, List.nodup_cons]
    refine ⟨fun hm => ?_, nodup_map_on (fun x hx y hy => h x (by simp [hx]) y (by simp [hy])) hn.2⟩
    obtain ⟨b, hb, e⟩ := List.mem_map.1 hm
    exact hn.1 (h a (by simp) b (by simp [hb]) e.symm ▸ hb)
theorem slots_in {n Q : Int} {m : List S37} (h : ∀ x ∈ m, okX n Q x) : ∀ p ∈ slots m, 0 ≤ p.2 ∧ p.2 < n := by
  intro p hp
  obtain ⟨x, hx, hp⟩ := List.mem_flatMap.1 hp
  obtain ⟨_, _, h3, h4, _⟩ := h x hx
  simp only [List.mem_cons, List.not_mem_nil, or_false] at hp
  rcases hp with rfl | rfl
  · exact h3
  · exact h4
theorem rr_rel {n R : Nat} {kind : Int} {π : Int → Int} {Z : List (S37 × S37)} (hR : 1 ≤ R) (hk : 1 ≤ kind ∧ kind ≤ 3) (h : RR n R kind (Z.map (·.1))) (hrel : ∀ z ∈ Z, Rel kind π z.1 z.2)
    (hin : ∀ t : Int, 0 ≤ t → t < n → 0 ≤ π t ∧ π t < n) (hinj : ∀ s t : Int, 0 ≤ s → s < n → 0 ≤ t → t < n → π s = π t → s = t) : RR n R kind (Z.map (·.2)) := by
  have hX : ∀ z ∈ Z, okX n (rndsQ R kind : Nat) z.1 := fun z hz => h.inX _ (List.mem_map.2 ⟨z, hz, rfl⟩)
  refine ⟨?_, ?_, ?_, ?_, ?_⟩
  · intro y hy
    obtain ⟨z, hz, rfl⟩ := List.mem_map.1 hy
    obtain ⟨h1, h2, h3, h4, h5⟩ := hX z hz
    have hr := hrel z hz
    have i1 := hin _ h3.1 h3.2
    have i2 := hin _ h4.1 h4.2
    have i3 : π z.1.f1 ≠ π z.1.f2 := fun e => h5 (hinj _ _ h3.1 h3.2 h4.1 h4.2 e)
    rcases hr.2 with ⟨e1, e2⟩ | ⟨_, e1, e2⟩
    · exact ⟨by rw [hr.1]; exact h1, by rw [hr.1]; exact h2, by rw [e1]; exact i1, by rw [e2]; exact i2, by rw [e1, e2]; exact i3⟩
    · exact ⟨by rw [hr.1]; exact h1, by rw [hr.1]; exact h2, by rw [e1]; exact i2, by rw [e2]; exact i1, by rw [e1, e2]; exact fun e => i3 e.symm⟩
  · refine (slots_rel hrel).nodup_iff.2 (nodup_map_on (fun p hp q hq e => ?_) h.slt)
    obtain ⟨a1, a2⟩ := slots_in h.inX p hp
    obtain ⟨b1, b2⟩ := slots_in h.inX q hq
    have e1 := congrArg Prod.fst e
    have e2 := congrArg Prod.snd e
    exact Prod.ext e1 (hinj _ _ a1 a2 b1 b2 e2)
  · rw [met_rel hrel]
    have hm := h.met
    rw [met_cat] at hm
    refine List.pairwise_map.2 ((List.pairwise_map.1 hm).imp_of_mem ?_)
    intro x y hx hy hne e
    obtain ⟨_, _, x3, x4, _⟩ := h.inX x (cat_mem _ hx)
    obtain ⟨_, _, y3, y4, _⟩ := h.inX y (cat_mem _ hy)
    refine hne ?_
    unfold prπ at e
    rw [Prod.mk.injEq] at e
    have e2 : (π x.f1 = π y.f1 ∧ π x.f2 = π y.f2) ∨ (π x.f1 = π y.f2 ∧ π x.f2 = π y.f1) := by omega
    rw [pr_same]
    rcases e2 with ⟨e2, e3⟩ | ⟨e2, e3⟩
    · exact .inl ⟨hinj _ _ x3.1 x3.2 y3.1 y3.2 e2, hinj _ _ x4.1 x4.2 y4.1 y4.2 e3⟩
    · exact .inr ⟨hinj _ _ x3.1 x3.2 y4.1 y4.2 e2, hinj _ _ x4.1 x4.2 y3.1 y3.2 e3⟩
  · intro r hr hb
    have hk1 : kind ≠ 1 := fun e => by subst e; unfold mkB at hb; simp at hb
    have ht := h.trns r hr hb
    have hmap : Z.map (·.2) = (Z.map (·.1)).map (fun x => (⟨x.f0, π x.f1, π x.f2⟩ : S37)) := by
      rw [List.map_map]
      refine List.map_congr_left fun z hz => ?_
      have hr := hrel z hz
      rcases hr.2 with ⟨e1, e2⟩ | ⟨e0, _⟩
      · show z.2 = _
        cases hz2 : z.2 with
        | mk a b c =>
          rw [hz2] at hr e1 e2
          simp only at e1 e2
          have e3 := hr.1
          simp only at e3
          subst e1 e2 e3; rfl
      · exact absurd e0 hk1
    have hby : ∀ q, byR (Z.map (·.2)) q = (byR (Z.map (·.1)) q).map (fun x => (⟨x.f0, π x.f1, π x.f2⟩ : S37)) := fun q => by
      rw [hmap]; unfold byR; rw [List.filter_map]; rfl
    rw [hby, hby]
    refine (ht.map _).trans ?_
    rw [List.map_map, List.map_map]
    exact List.Perm.refl _
  · have := h.cnt
    rw [met_cat, List.length_map] at this
    rw [met_rel hrel, List.length_map]
    exact this
end Go.Proofs.Ythddaojdlfifeaa.P

/- RobinAll, walked. -/
namespace Go.Proofs.Ythddaojdlfifeaa.P
open Go.RowKit Go.Proofs.YthddaojdlfifeaaW.PrintWords Go.Proofs.YthddaojdlfifeaaW.PrintLast Go.Proofs.YthddaojdlfifeaaW.PrintMore
open XW RegInv
attribute [local irreducible] Addr.add
set_option linter.unusedSimpArgs false
set_option linter.unusedVariables false

abbrev bI (l : List Int) : Array Value := buf (sc (Value.int .i64)) l []
theorem bI_get {l : List Int} {k j : Nat} {v : Int} (hj : k = j) (hk : j < l.length) (hv : l.getD j 0 = v) : (bI l)[k]? = some (.int .i64 v) := by
  subst hj hv
  exact buf_get1 _ 0 hk
abbrev RightR (n kind : Int) (b : Bool) : Prop := ∀ w, Rets Try.prog 17 #[.int .i64 n, .int .i64 kind] w fun u w' => u = .bool b ∧ Below w.heap.size w w'
theorem E17 : Enters Try.prog 17 := enters Try.func17 (by kernel_rfl) rfl
end Go.Proofs.Ythddaojdlfifeaa.P

/- RobinAll: the contract. -/
namespace Go.Proofs.Ythddaojdlfifeaa.P
open Go.RowKit Go.Proofs.YthddaojdlfifeaaW.PrintWords Go.Proofs.YthddaojdlfifeaaW.PrintLast Go.Proofs.YthddaojdlfifeaaW.PrintMore
open XW RegInv
attribute [local irreducible] Addr.add
set_option linter.unusedSimpArgs false
set_option linter.unusedVariables false

theorem right_of (n kind : Int) : RightR n kind (decide (rightR n kind)) := fun w => by
  refine (fastilaw20_right.calls n kind (decide (rightR n kind)) w ?_).mono (by rintro e w' ⟨rfl, hb⟩; exact ⟨_, rfl, rfl, hb.below⟩)
  unfold fastilaw20_right.f
  by_cases hr : rightR n kind
  · rw [decide_eq_true hr]
    obtain ⟨h1, h2, h3, h4⟩ := hr
    rw [if_pos h1, if_pos h2]
    by_cases h3 : kind = 1
    · rw [if_pos h3]
    · by_cases h4 : kind = 2
      · rw [if_neg h3, if_pos h4]
      · rw [if_neg h3, if_neg h4]
        congr 1
        rw [beq_iff_eq]; omega
  · rw [decide_eq_false hr]
    unfold rightR at hr
    by_cases h1 : n ≥ 2
    · by_cases h2 : n ≤ 20
      · rw [if_pos h1, if_pos h2, if_neg (by omega), if_neg (by omega)]
        congr 1
        rw [beq_eq_false_iff_ne]; omega
      · rw [if_pos h1, if_neg h2]
    · rw [if_neg h1]
theorem getD_memN {m : List S37} {i : Nat} (h : i < m.length) : m.getD i z37 ∈ m := getD_memS h
end Go.Proofs.Ythddaojdlfifeaa.P

/- The names of RobinRenamed are a permutation. -/
namespace Go.Proofs.Ythddaojdlfifeaa.P
open Go.RowKit Go.Proofs.YthddaojdlfifeaaW.PrintWords Go.Proofs.YthddaojdlfifeaaW.PrintLast Go.Proofs.YthddaojdlfifeaaW.PrintMore
open XW RegInv
attribute [local irreducible] Addr.add
set_option linter.unusedSimpArgs false
set_option linter.unusedVariables false

def kpN (b : List Int) (i : Nat) : Nat := ((b.getD i 0) % ((i + 1 : Nat) : Int)).toNat
def nmSt (b : List Int) (l : List Int) (i : Nat) : List Int := if i < b.length then (((l.set i i).set i ((l.set i i).getD (kpN b i) 0)).set (kpN b i) i) else l.set i i
def nmS (n : Nat) (b : List Int) : Nat → List Int
  | 0 => List.replicate n 0
  | i + 1 => nmSt b (nmS n b i) i
theorem kpN_le (b : List Int) (i : Nat) : kpN b i ≤ i := by
  unfold kpN
  have h1 := Int.emod_nonneg (b.getD i 0) (show ((i + 1 : Nat) : Int) ≠ 0 by omega)
  have h2 := Int.emod_lt_of_pos (b.getD i 0) (show (0 : Int) < ((i + 1 : Nat) : Int) by omega)
  omega
theorem kpN_eq (b : List Int) (i : Nat) : ((kpN b i : Nat) : Int) = b.getD i 0 % ((i : Int) + 1) := by
  unfold kpN
  have h1 := Int.emod_nonneg (b.getD i 0) (show ((i + 1 : Nat) : Int) ≠ 0 by omega)
  rw [Int.toNat_of_nonneg h1]; rfl
theorem nmS_len (n : Nat) (b : List Int) : ∀ i, (nmS n b i).length = n
  | 0 => List.length_replicate
  | i + 1 => by
    rw [nmS, nmSt]
    split
    · rw [List.length_set, List.length_set, List.length_set, nmS_len n b i]
    · rw [List.length_set, nmS_len n b i]
theorem swap_perm {l : List Int} {i k : Nat} (hi : i < l.length) (hk : k < l.length) (v : Int) (hv : l.getD i 0 = v) : ((l.set i (l.getD k 0)).set k v).Perm l := by
  have := List.set_set_perm hi hk
  rw [List.getD_eq_getElem?_getD, List.getElem?_eq_getElem hi] at hv
  rw [List.getD_eq_getElem?_getD, List.getElem?_eq_getElem hk]
  simp only [Option.getD_some] at hv ⊢
  rw [← hv]
  exact this
theorem nmS_perm (n : Nat) (b : List Int) : ∀ i, i ≤ n → ((nmS n b i).take i).Perm ((List.range i).map fun x : Nat => (x : Int))
  | 0, _ => by simp
  | i + 1, hi => by
    have ih := nmS_perm n b i (by omega)
    have hl := nmS_len n b i
    have hk := kpN_le b i
    generalize hL : nmS n b i = L at ih hl
    have ha : ((L.set i i).take (i + 1)).Perm ((List.range (i + 1)).map fun x : Nat => (x : Int)) := by
      rw [List.take_set, List.take_succ_eq_append_getElem (by omega), List.set_append_right _ _ (by rw [List.length_take]; omega), List.range_succ, List.map_append]
      have e : i - (L.take i).length = 0 := by simp; omega
      rw [e]
      exact ih.append (List.Perm.refl _)
    rw [nmS, hL, nmSt]
    split
    · refine List.Perm.trans ?_ ha
      rw [List.take_set, List.take_set]
      have h1 : ((L.set i i).take (i + 1)).getD (kpN b i) 0 = (L.set i i).getD (kpN b i) 0 := by
        rw [List.getD_eq_getElem?_getD, List.getElem?_take, if_pos (by omega), List.getD_eq_getElem?_getD]
      rw [← h1]
      refine swap_perm (by simp; omega) (by simp; omega) _ ?_
      rw [List.getD_eq_getElem?_getD, List.getElem?_take, if_pos (by omega), List.getElem?_set, if_pos rfl, if_pos (by omega)]; rfl
    · exact ha
/-- a team's new name -/
def nmF (n : Nat) (b : List Int) (t : Int) : Int := (nmS n b n).getD t.toNat 0
theorem nmF_in (n : Nat) (b : List Int) (t : Int) (h0 : 0 ≤ t) (h1 : t < n) : 0 ≤ nmF n b t ∧ nmF n b t < n := by
  have hp := nmS_perm n b n (Nat.le_refl _)
  have hl := nmS_len n b n
  rw [List.take_of_length_le (by omega)] at hp
  have hm : nmF n b t ∈ nmS n b n := by
    unfold nmF
    rw [List.getD_eq_getElem?_getD, List.getElem?_eq_getElem (by omega)]
    exact List.getElem_mem _
  obtain ⟨k, hk, e⟩ := List.mem_map.1 (hp.subset hm)
  have := List.mem_range.1 hk
  rw [← e]; omega
theorem nmF_inj (n : Nat) (b : List Int) (s t : Int) (h0 : 0 ≤ s) (h1 : s < n) (h2 : 0 ≤ t) (h3 : t < n) (h : nmF n b s = nmF n b t) : s = t := by
  have hp := nmS_perm n b n (Nat.le_refl _)
  have hl := nmS_len n b n
  rw [List.take_of_length_le (by omega)] at hp
  have hnd : (nmS n b n).Nodup := hp.nodup_iff.2 (List.pairwise_map.2 (List.nodup_range.imp (fun {a b} h e => h (by omega))))
  unfold nmF at h
  rw [List.getD_eq_getElem?_getD, List.getElem?_eq_getElem (by omega), List.getD_eq_getElem?_getD, List.getElem?_eq_getElem (by omega)] at h
  simp only [Option.getD_some] at h
  rcases Nat.lt_trichotomy s.toNat t.toNat with hlt | heq | hgt
  · exact absurd h (List.pairwise_iff_getElem.1 hnd _ _ _ _ hlt)
  · omega
  · exact absurd h.symm (List.pairwise_iff_getElem.1 hnd _ _ _ _ hgt)
def renM (n : Nat) (b : List Int) (x : S37) : S37 := ⟨x.f0, nmF n b x.f1, nmF n b x.f2⟩
def swM (t : Bool) (x : S37) : S37 := if t then ⟨x.f0, x.f2, x.f1⟩ else x
def bitT (turn i : Nat) : Bool := (turn >>> (i % 32)) &&& 1 == 1
/-- the meetings so far, put into order one by one -/
def foldI (g : Nat → S37) : Nat → List S37
  | 0 => []
  | i + 1 => insR (g i) (foldI g i)
theorem foldI_spec (g : Nat → S37) : ∀ i, (foldI g i).Perm ((List.range i).map g) ∧ SrtL (foldI g i)
  | 0 => ⟨List.Perm.refl _, List.Pairwise.nil⟩
  | i + 1 => by
    obtain ⟨h1, h2⟩ := foldI_spec g i
    refine ⟨?_, insR_srt _ _ h2⟩
    rw [foldI, List.range_succ, List.map_append]
    exact (insR_perm _ _).trans ((h1.cons _).trans (List.perm_append_singleton _ _).symm)
theorem foldI_len (g : Nat → S37) (i : Nat) : (foldI g i).length = i := by
  rw [(foldI_spec g i).1.length_eq]; simp
/-- renamed meetings in order are a round robin -/
theorem chk_ren {n : Nat} {kind : Int} (hn : 2 ≤ n ∧ n ≤ 20) (hk : 1 ≤ kind ∧ kind ≤ 3) {m : List S37} (h : okC n (rndsN n) kind m) (b : List Int) (g : Nat → S37) (hg : ∀ i, i < m.length → Rel kind (nmF n b) (m.getD i z37) (g i)) : chkM n kind (foldI g m.length) = 0 := by
  have hR : 1 ≤ rndsN n := by unfold rndsN; omega
  obtain ⟨h1, h2⟩ := foldI_spec g m.length
  have hr := rr_of hR h
  have e1 : ((List.range m.length).map fun i => (m.getD i z37, g i)).map (·.1) = m := by
    rw [List.map_map]
    refine List.ext_getElem (by simp) fun i a1 a2 => ?_
    simp only [List.getElem_map, List.getElem_range, Function.comp]
    rw [List.getD_eq_getElem?_getD, List.getElem?_eq_getElem a2]; rfl
  have e2 : ((List.range m.length).map fun i => (m.getD i z37, g i)).map (·.2) = (List.range m.length).map g := by
    rw [List.map_map]; rfl
  rw [← e1] at hr
  have hr2 := rr_rel hR hk hr (fun z hz => by
    obtain ⟨i, hi, rfl⟩ := List.mem_map.1 hz
    exact hg i (List.mem_range.1 hi)) (nmF_in n b) (nmF_inj n b)
  rw [e2] at hr2
  have hr3 := hr2.perm h1
  unfold chkM
  rw [if_pos (okC_of hr3 (bef_of h2 hr3.slt))]
theorem E18 : Enters Try.prog 18 := enters Try.func18 (by kernel_rfl) rfl
theorem put_rets (w : World) (A : Option Addr) (c : Nat) (l : List S37) (x : S37) (hC : Kd.C k37 w A l.length l) (hc : l.length ≤ c) (hl : l.length ≤ 1000000) :
    Rets Try.prog 18 #[.slice A l.length c, .agg #[.int .i64 x.f0, .int .i64 x.f1, .int .i64 x.f2]] w fun u w' => ∃ Rs, (∃ A' c', u = rowV A' (insR x l).length c' ∧ Rs = [.row 37 3 enc37 A' c' (insR x l)]) ∧ Mem w w' Rs := by
  obtain ⟨k, hk⟩ := (putf_ev x l hl).at1
  refine (fastiref20_Put.calls k A c l x.f0 x.f1 x.f2 _ w hC hc hk).mono ?_
  rintro e w' ⟨v, rfl, hR, hb⟩
  obtain ⟨A', c', rfl, hm⟩ := mem_R37 hR hb
  exact ⟨_, rfl, _, ⟨A', c', rfl, rfl⟩, hm⟩
end Go.Proofs.Ythddaojdlfifeaa.P

/- RobinRenamed, walked. -/
namespace Go.Proofs.Ythddaojdlfifeaa.P
open Go.RowKit Go.Proofs.YthddaojdlfifeaaW.PrintWords Go.Proofs.YthddaojdlfifeaaW.PrintLast Go.Proofs.YthddaojdlfifeaaW.PrintMore
open XW RegInv
attribute [local irreducible] Addr.add
set_option linter.unusedSimpArgs false
set_option linter.unusedVariables false

theorem bI_setR {l : List Int} {k j : Nat} {v : Int} (hj : k = j) (hk : j < l.length) : (bI l).setIfInBounds k (.int .i64 v) = bI (l.set j v) := by
  subst hj
  exact buf_set1 (Value.int .i64) hk
theorem C8 {w : World} {A : Option Addr} {n : Nat} {xs : List Int} (h : Kd.C (Kd.int .u8) w A n xs) (k : Nat) (hk : k < n) : ∃ ad, A = some ad ∧ w.cell? (ad.add k) = some (.int .u8 (xs.getD k 0)) := by
  obtain ⟨ad, c, hA, _, hK, hc⟩ := Kd.C_get h 0 (k : Int) (by omega) (by omega)
  rw [Int.toNat_natCast] at hK hc
  refine ⟨ad, hA, ?_⟩
  have e : c = [.int .u8 (xs.getD k 0)] := hK
  have := hc 0 _ (by rw [e]; rfl)
  simpa [Kd.int, Kd.scalar] using this
theorem getD_mem8 {l : List Int} {k : Nat} (h : k < l.length) : l.getD k 0 ∈ l := by
  rw [List.getD_eq_getElem?_getD, List.getElem?_eq_getElem h]; exact List.getElem_mem h
theorem bit_eq (tu i : Nat) : (((tu / 2 ^ (i % 32)) &&& 1 : Nat) : Int) = if bitT tu i then 1 else 0 := by
  unfold bitT
  rw [Nat.shiftRight_eq_div_pow]
  have := Nat.and_one_is_mod (tu / 2 ^ (i % 32))
  rw [this]
  rcases Nat.mod_two_eq_zero_or_one (tu / 2 ^ (i % 32)) with h | h <;> rw [h] <;> rfl
set_option maxHeartbeats 8000000 in
set_option maxRecDepth 100000 in
theorem ren_core (w0 : World) (n : Nat) (kind : Int) (A2 : Option Addr) (c2 : Nat) (b : List Int) (tu : Nat) (m : List S37) (hn : 2 ≤ n ∧ n ≤ 20) (hk : 1 ≤ kind ∧ kind ≤ 3) (hmk : MkR n kind m) (hrt : RightR n kind true) (hml : m.length ≤ 1000) (hin : ∀ i, i < m.length → okX n 40 (m.getD i z37))
    (hb : Kd.C (Kd.int .u8) w0 A2 b.length b) (hbw : ∀ x ∈ b, 0 ≤ x ∧ x ≤ 255) (htu : tu < 4294967296)
    (hc1 : ChkR n kind (foldI (fun i => renM n b (m.getD i z37)) m.length) 0) (hc2 : kind = 1 → ChkR n kind (foldI (fun i => swM (bitT tu i) (renM n b (m.getD i z37))) m.length) 0) :
    Rets Try.prog 7 #[.int .i64 n, .int .i64 kind, .slice A2 b.length c2, .int .u32 tu] w0 fun u w' => u = .bool true ∧ Below w0.heap.size w0 w' := by
  have hF := wide_wide
  refine rets_at (n := 139) Try.func7 rfl Try.ntmps7 (by simp) ?_
  (repeat (first | ((with_reducible refine is_AL ?_); (first | ((with_reducible refine is_assign ?_); (refine At_plain hF (by (exact (rfl : _ = some (Value.bool _)))) ?_)) | with_reducible refine At_nil ?_)) | ((with_reducible refine is_At ?_); (first | with_reducible refine At_seq ?_; intro K hK | with_reducible refine At_region ?_ | with_reducible refine At_then_n ?_ | with_reducible refine At_go (by assumption) ?_))))
  refine At_callB hF E9 rfl (u := .bool true) (vs := #[]) (by simp) (fun w' hw' => sane_rets w') ?_
  (repeat (first | ((with_reducible refine is_AL ?_); (first | ((with_reducible refine is_move ?_); (refine At_plain hF (by (exact (rfl : _ = some (Value.int _ _)))) ?_)) | ((with_reducible refine is_un ?_); (refine At_plain hF (by (exact (rfl : _ = some (Value.bool _)))) ?_)) | with_reducible refine At_nil ?_)) | ((with_reducible refine is_At ?_); (first | with_reducible refine At_seq ?_; intro K hK | with_reducible refine At_region ?_ | with_reducible refine At_skip ?_ | with_reducible refine At_then_n ?_ | with_reducible refine At_go (by assumption) ?_ | ((with_reducible refine is_cond ?_); (refine At_cond_f rfl ?_))))))
  refine At_callB hF E17 rfl (u := .bool true) (arg2 (by (first | exact (rfl : _ = (Value.int _ _)) | exact (rfl : _ = (Value.bool _)) | exact (rfl : _ = (Value.pointer _)) | exact (rfl : _ = (Value.slice _ _ _)) | exact (rfl : _ = (Value.map _)) | exact (rfl : _ = (Value.func _ _ _)) | exact (rfl : _ = (Value.tuple _)) | exact (rfl : _ = (Value.agg _)) | exact (rfl : _ = (Value.string _)) | exact (rfl : _ = (Value.nilFunc)) | exact (rfl : _ = (Value.nilIface)))) (by (first | exact (rfl : _ = (Value.int _ _)) | exact (rfl : _ = (Value.bool _)) | exact (rfl : _ = (Value.pointer _)) | exact (rfl : _ = (Value.slice _ _ _)) | exact (rfl : _ = (Value.map _)) | exact (rfl : _ = (Value.func _ _ _)) | exact (rfl : _ = (Value.tuple _)) | exact (rfl : _ = (Value.agg _)) | exact (rfl : _ = (Value.string _)) | exact (rfl : _ = (Value.nilFunc)) | exact (rfl : _ = (Value.nilIface))))) (fun w' hw' => hrt w') ?_
  (repeat (first | ((with_reducible refine is_AL ?_); (first | ((with_reducible refine is_move ?_); (refine At_plain hF (by (exact (rfl : _ = some (Value.int _ _)))) ?_)) | ((with_reducible refine is_un ?_); (refine At_plain hF (by (exact (rfl : _ = some (Value.bool _)))) ?_)) | with_reducible refine At_nil ?_)) | ((with_reducible refine is_At ?_); (first | with_reducible refine At_seq ?_; intro K hK | with_reducible refine At_region ?_ | with_reducible refine At_skip ?_ | with_reducible refine At_then_n ?_ | with_reducible refine At_go (by assumption) ?_ | ((with_reducible refine is_cond ?_); (refine At_cond_f rfl ?_))))))
  refine At_callM hF E12 rfl (Post := fun u Rs => ∃ A c, u = .tuple #[rowV A m.length c, .int .i64 0] ∧ Rs = [.row 37 3 enc37 A c m]) (arg2 (by (first | exact (rfl : _ = (Value.int _ _)) | exact (rfl : _ = (Value.bool _)) | exact (rfl : _ = (Value.pointer _)) | exact (rfl : _ = (Value.slice _ _ _)) | exact (rfl : _ = (Value.map _)) | exact (rfl : _ = (Value.func _ _ _)) | exact (rfl : _ = (Value.tuple _)) | exact (rfl : _ = (Value.agg _)) | exact (rfl : _ = (Value.string _)) | exact (rfl : _ = (Value.nilFunc)) | exact (rfl : _ = (Value.nilIface)))) (by (first | exact (rfl : _ = (Value.int _ _)) | exact (rfl : _ = (Value.bool _)) | exact (rfl : _ = (Value.pointer _)) | exact (rfl : _ = (Value.slice _ _ _)) | exact (rfl : _ = (Value.map _)) | exact (rfl : _ = (Value.func _ _ _)) | exact (rfl : _ = (Value.tuple _)) | exact (rfl : _ = (Value.agg _)) | exact (rfl : _ = (Value.string _)) | exact (rfl : _ = (Value.nilFunc)) | exact (rfl : _ = (Value.nilIface))))) (fun w' hw' => hmk w') ?_
  rintro _ _ ⟨A, c, rfl, rfl⟩
  simp only [List.cons_append, List.nil_append]
  (repeat (first | ((with_reducible refine is_AL ?_); (first | ((with_reducible refine is_move ?_); (refine At_plain hF (by (first | exact (rfl : _ = some (Value.int _ _)) | exact (rfl : _ = some (Value.tuple _)))) ?_)) | ((with_reducible refine is_bin ?_); (refine At_plain hF (by (exact (rfl : _ = some (Value.bool _)))) ?_)) | ((with_reducible refine is_assign ?_); (refine At_plain hF (by (first | exact (rfl : _ = some (Value.int _ _)) | exact (rfl : _ = some (Value.slice _ _ _)))) ?_)) | ((with_reducible refine is_extract ?_); (refine At_plain hF (by (first | exact (rfl : _ = some (Value.int _ _)) | exact (rfl : _ = some (Value.slice _ _ _)))) ?_)) | with_reducible refine At_nil ?_)) | ((with_reducible refine is_At ?_); (first | with_reducible refine At_seq ?_; intro K hK | with_reducible refine At_region ?_ | with_reducible refine At_skip ?_ | with_reducible refine At_then_n ?_ | with_reducible refine At_go (by assumption) ?_ | ((with_reducible refine is_cond ?_); (refine At_cond_f rfl ?_))))))
  (refine At_make hF (Value.int .i64) (0 : Int) rfl rfl rfl rfl (by exact rfl) (by exact rfl) (by simp only [TS.bytes] <;> omega) (by omega) ?_; intro bn)
  (repeat (first | ((with_reducible refine is_AL ?_); (first | ((with_reducible refine is_move ?_); (refine At_plain hF (by (first | exact (rfl : _ = some (Value.int _ _)) | exact (rfl : _ = some (Value.slice _ _ _)))) ?_)) | ((with_reducible refine is_assign ?_); (refine At_plain hF (by (exact (rfl : _ = some (Value.slice _ _ _)))) ?_)) | ((with_reducible refine is_call ?_); (refine At_len hF rfl ?_)) | with_reducible refine At_nil ?_)) | ((with_reducible refine is_At ?_); (first | with_reducible refine At_seq ?_; intro K hK | with_reducible refine At_block ?_ | with_reducible refine At_region ?_ | with_reducible refine At_then_n ?_ | with_reducible refine At_go (by assumption) ?_))))
  refine At_loop (fun i : Nat => [(0, .int .i64 n), (1, .int .i64 kind), (2, .slice A2 b.length c2), (3, .int .u32 tu), (9, rowV A m.length c), (11, .slice (some ⟨bn, 0, none⟩) n n), (34, .slice (some ⟨bn, 0, none⟩) n n), (35, .int .i64 n), (36, .int .i64 i)]) (fun i => [.obj bn (.cells (bI (nmS n b i)) 3 (0, 0)), .row 37 3 enc37 A c m]) (fun i => i ≤ n) (fun i => n - i) 0 ?_ ?_ (Nat.zero_le _) ?_
  · (repeat (first | exact List.Sublist.refl _ | exact List.Sublist.slnil | refine List.Sublist.cons_cons _ ?_ | refine List.Sublist.cons _ ?_))
  · (repeat (first | exact True.intro | (refine And.intro ?_ ?_; focus (show _ = (_ : Value); first | exact rfl | (refine Eq.trans (b := Value.int IntKind.i64 _) rfl (congrArg (Value.int IntKind.i64) ?_); omega)))))
  rintro i hi K hL ρ1
  try dsimp only
  (repeat (first | ((with_reducible refine is_AL ?_); (first | ((with_reducible refine is_bin ?_); (refine At_plain hF (by (exact (rfl : _ = some (Value.bool _)))) ?_)) | with_reducible refine At_nil ?_)) | ((with_reducible refine is_At ?_); (first | with_reducible refine At_seq ?_; intro K hK | with_reducible refine At_region ?_ | with_reducible refine At_then_n ?_ | with_reducible refine At_go (by assumption) ?_))))
  ((with_reducible refine is_cond ?_); (refine At_cond rfl ?_ ?_ <;> (intro hg; try (simp only [decide_eq_true_eq, decide_eq_false_iff_not, beq_iff_eq, bne_iff_ne, beq_eq_false_iff_ne, bne_eq_false_iff_eq, ne_eq, Bool.not_eq_true', Bool.not_eq_false', Bool.not_true, Bool.not_false, Decidable.not_not] at hg); try (exfalso; first | omega | exact hg True.intro))))
  · have hlt : i < n := by omega
    have hll := nmS_len n b i
    have hst : nmS n b (i + 1) = nmSt b (nmS n b i) i := rfl
    generalize nmS n b i = L at hll hst ⊢
    (repeat (first | ((with_reducible refine is_AL ?_); (first | ((with_reducible refine is_move ?_); (refine At_plain hF (by (first | exact (rfl : _ = some (Value.int _ _)) | exact (rfl : _ = some (Value.slice _ _ _)))) ?_)) | ((with_reducible refine is_bin ?_); (refine At_plain hF (by (exact (rfl : _ = some (Value.bool _)))) ?_)) | ((with_reducible refine is_assign ?_); (refine At_plain hF (by (exact (rfl : _ = some (Value.int _ _)))) ?_)) | ((with_reducible refine is_call ?_); (refine At_len hF rfl ?_)) | ((with_reducible refine is_index ?_); (refine At_indexS1 hF rfl rfl rfl (by omega) ?_)) | ((with_reducible refine is_store ?_); (refine At_store_0 hF rfl (by (exact (rfl : _ = (Value.int _ _)))) (by (simp [buf_size1]; omega)) (by exact rfl) (by exact rfl) (by (exact buf_set1 _ (by omega))) ?_)) | with_reducible refine At_nil ?_)) | ((with_reducible refine is_At ?_); (first | with_reducible refine At_seq ?_; intro K hK | with_reducible refine At_block ?_ | with_reducible refine At_region ?_ | with_reducible refine At_skip ?_ | with_reducible refine At_then_n ?_ | with_reducible refine At_go (by assumption) ?_))))
    by_cases hib : i < b.length
    · rw [nmSt, if_pos hib] at hst
      obtain ⟨adl, hAl, hcell⟩ := C8 hb i hib
      have hx := hbw _ (getD_mem8 hib)
      have hke := kpN_eq b i
      have hkle := kpN_le b i
      generalize kpN b i = k at hst hke hkle
      generalize b.getD i 0 = x at hcell hx hke
      have hwx : IntKind.i64.wrap x = x := XW.wrap64_in (by omega) (by omega)
      rw [decide_eq_true (show (i : Int) < (b.length : Nat) by omega)]
      (repeat (first | ((with_reducible refine is_AL ?_); (first | ((with_reducible refine is_move ?_); (refine At_plain hF (by (first | exact (rfl : _ = some (Value.int _ _)) | exact (rfl : _ = some (Value.slice _ _ _)))) ?_)) | ((with_reducible refine is_index ?_); (refine At_indexC1 hF rfl (by assumption) rfl rfl (by omega) ?_)))) | ((with_reducible refine is_At ?_); (first | with_reducible refine At_seq ?_; intro K hK | with_reducible refine At_region ?_ | ((with_reducible refine is_cond ?_); (refine At_cond_t rfl ?_))))))
      refine At_loadC hF (by exact rfl) hcell ?_
      refine At_conv hF Try.underlying5 Try.underlying3 (by exact rfl) ?_
      rw [hwx]
      (repeat (first | ((with_reducible refine is_AL ?_); (first | ((with_reducible refine is_move ?_); (refine At_plain hF (by (first | exact (rfl : _ = some (Value.int _ _)) | exact (rfl : _ = some (Value.slice _ _ _)))) ?_)) | ((with_reducible refine is_bin ?_); (first | ((with_reducible refine is_badd ?_); (refine At_add hF rfl rfl (by omega) ?_)) | ((with_reducible refine is_brem ?_); (refine At_rem hF rfl rfl (by omega) ?_)))) | ((with_reducible refine is_assign ?_); (refine At_plain hF (by (exact (rfl : _ = some (Value.int _ _)))) ?_)) | ((with_reducible refine is_index ?_); (refine At_indexS1i hF rfl rfl rfl (by omega) (by omega) ?_)) | with_reducible refine At_nil ?_)) | ((with_reducible refine is_At ?_); (first | with_reducible refine At_region ?_ | with_reducible refine At_then_n ?_ | with_reducible refine At_go (by assumption) ?_))))
      rw [← hke]
      generalize hL1 : L.set i (i : Int) = L1 at hst ⊢
      have hl1 : L1.length = n := by rw [← hL1, List.length_set]; exact hll
      (repeat (first | ((with_reducible refine is_AL ?_); (first | ((with_reducible refine is_move ?_); (refine At_plain hF (by (exact (rfl : _ = some (Value.int _ _)))) ?_)) | ((with_reducible refine is_bin ?_); ((with_reducible refine is_badd ?_); (refine At_add hF rfl rfl (by omega) ?_))) | ((with_reducible refine is_load ?_); (refine At_load hF 0 (by exact rfl) rfl (by (exact buf_getI _ (by omega))) ?_)) | ((with_reducible refine is_index ?_); (refine At_indexS1 hF rfl rfl rfl (by omega) ?_)) | ((with_reducible refine is_store ?_); (refine At_store_0 hF rfl (by (exact (rfl : _ = (Value.int _ _)))) (by (simp [buf_size1]; omega)) (by exact rfl) (by exact rfl) (by (first | exact buf_set1 _ (by omega) | (exact rfl))) ?_)) | with_reducible refine At_nil ?_)) | ((with_reducible refine is_At ?_); (first | with_reducible refine At_region ?_ | with_reducible refine At_then_n ?_ | with_reducible refine At_inb_n ?_ | with_reducible refine At_go (by assumption) ?_))))
      rw [show (default : Int) = 0 from rfl]
      have e2 : (buf (sc (Value.int .i64)) (L1.set i (L1.getD k 0)) []).setIfInBounds k (.int .i64 (i : Nat)) = bI ((L1.set i (L1.getD k 0)).set k i) := bI_setR rfl (by rw [List.length_set]; omega)
      rw [Int.toNat_natCast, e2, ← hst]
      refine At.sub ?_ (hL (i + 1) _ (by omega) (by omega) ?_)
      · (repeat (first | exact List.Sublist.refl _ | exact List.Sublist.slnil | refine List.Sublist.cons_cons _ ?_ | refine List.Sublist.cons _ ?_))
      · (repeat (first | exact True.intro | (refine And.intro ?_ ?_; focus (show _ = (_ : Value); first | exact rfl | (refine Eq.trans (b := Value.int IntKind.i64 _) rfl (congrArg (Value.int IntKind.i64) ?_); omega)))))
    · rw [nmSt, if_neg hib] at hst
      rw [decide_eq_false (show ¬ (i : Int) < (b.length : Nat) by omega)]
      (repeat (first | ((with_reducible refine is_AL ?_); (first | ((with_reducible refine is_move ?_); (refine At_plain hF (by (exact (rfl : _ = some (Value.int _ _)))) ?_)) | ((with_reducible refine is_bin ?_); ((with_reducible refine is_badd ?_); (refine At_add hF rfl rfl (by omega) ?_))) | with_reducible refine At_nil ?_)) | ((with_reducible refine is_At ?_); (first | with_reducible refine At_region ?_ | with_reducible refine At_skip ?_ | with_reducible refine At_then_n ?_ | with_reducible refine At_inb_n ?_ | with_reducible refine At_go (by assumption) ?_ | ((with_reducible refine is_cond ?_); (refine At_cond_f rfl ?_))))))
      rw [← hst]
      refine At.sub ?_ (hL (i + 1) _ (by omega) (by omega) ?_)
      · (repeat (first | exact List.Sublist.refl _ | exact List.Sublist.slnil | refine List.Sublist.cons_cons _ ?_ | refine List.Sublist.cons _ ?_))
      · (repeat (first | exact True.intro | (refine And.intro ?_ ?_; focus (show _ = (_ : Value); first | exact rfl | (refine Eq.trans (b := Value.int IntKind.i64 _) rfl (congrArg (Value.int IntKind.i64) ?_); omega)))))
  obtain rfl : i = n := by omega
  clear hL
  refine At.newNil 37 3 enc37 enc37_len ?_
  refine At.newNil 37 3 enc37 enc37_len ?_
  (repeat (first | ((with_reducible refine is_AL ?_); (first | ((with_reducible refine is_move ?_); (refine At_plain hF (by (first | exact (rfl : _ = some (Value.int _ _)) | exact (rfl : _ = some (Value.slice _ _ _)))) ?_)) | ((with_reducible refine is_assign ?_); (refine At_plain hF (by (exact (rfl : _ = some (Value.slice _ _ _)))) ?_)) | ((with_reducible refine is_call ?_); (refine At_len hF rfl ?_)) | with_reducible refine At_nil ?_)) | ((with_reducible refine is_At ?_); (first | with_reducible refine At_seq ?_; intro K hK | with_reducible refine At_block ?_ | with_reducible refine At_region ?_ | with_reducible refine At_exit ?_ | with_reducible refine At_then_n ?_ | with_reducible refine At_then_e ?_ | with_reducible refine At_inb_e rfl ?_ | with_reducible refine At_go (by assumption) ?_))))
  (refine At.pick [2, 3, 0, 1] (by decide) (R' := [_, _, _, _]) rfl ?_)
  refine At_loop (fun st : Nat × (Option Nat × Nat) × (Option Nat × Nat) => [(0, .int .i64 i), (1, .int .i64 kind), (3, .int .u32 tu), (11, .slice (some ⟨bn, 0, none⟩) i i), (14, rowV st.2.1.1 (foldI (fun q => renM i b (m.getD q z37)) st.1).length st.2.1.2), (15, rowV st.2.2.1 (foldI (fun q => swM (bitT tu q) (renM i b (m.getD q z37))) st.1).length st.2.2.2), (67, rowV A m.length c), (68, .int .i64 m.length), (69, .int .i64 st.1)]) (fun st => [.obj bn (.cells (bI (nmS i b i)) 3 (0, 0)), .row 37 3 enc37 A c m, .row 37 3 enc37 st.2.1.1 st.2.1.2 (foldI (fun q => renM i b (m.getD q z37)) st.1), .row 37 3 enc37 st.2.2.1 st.2.2.2 (foldI (fun q => swM (bitT tu q) (renM i b (m.getD q z37))) st.1)]) (fun st => st.1 ≤ m.length) (fun st => m.length - st.1) (0, (none, 0), (none, 0)) ?_ ?_ (Nat.zero_le _) ?_
  · (repeat (first | exact List.Sublist.refl _ | exact List.Sublist.slnil | refine List.Sublist.cons_cons _ ?_ | refine List.Sublist.cons _ ?_))
  · (repeat (first | exact True.intro | (refine And.intro ?_ ?_; focus (show _ = (_ : Value); first | exact rfl | (refine Eq.trans (b := Value.int IntKind.i64 _) rfl (congrArg (Value.int IntKind.i64) ?_); omega)))))
  rintro ⟨q, ⟨A3, c3⟩, ⟨A4, c4⟩⟩ hq K hL ρ1
  simp only at hq
  try dsimp only
  (repeat (first | ((with_reducible refine is_AL ?_); (first | ((with_reducible refine is_bin ?_); (refine At_plain hF (by (exact (rfl : _ = some (Value.bool _)))) ?_)) | with_reducible refine At_nil ?_)) | ((with_reducible refine is_At ?_); (first | with_reducible refine At_seq ?_; intro K hK | with_reducible refine At_region ?_ | with_reducible refine At_then_n ?_ | with_reducible refine At_go (by assumption) ?_))))
  ((with_reducible refine is_cond ?_); (refine At_cond rfl ?_ ?_ <;> (intro hg; try (simp only [decide_eq_true_eq, decide_eq_false_iff_not, beq_iff_eq, bne_iff_ne, beq_eq_false_iff_ne, bne_eq_false_iff_eq, ne_eq, Bool.not_eq_true', Bool.not_eq_false', Bool.not_true, Bool.not_false, Decidable.not_not] at hg); try (exfalso; first | omega | exact hg True.intro))))
  · have hlt : q < m.length := by omega
    have h5 := hin q hlt
    have hll := nmS_len i b i
    have hf1 : foldI (fun q => renM i b (m.getD q z37)) (q + 1) = insR (renM i b (m.getD q z37)) (foldI (fun q => renM i b (m.getD q z37)) q) := rfl
    have hf2 : foldI (fun q => swM (bitT tu q) (renM i b (m.getD q z37))) (q + 1) = insR (swM (bitT tu q) (renM i b (m.getD q z37))) (foldI (fun q => swM (bitT tu q) (renM i b (m.getD q z37))) q) := rfl
    have hl1 := foldI_len (fun q => renM i b (m.getD q z37)) q
    have hl2 := foldI_len (fun q => swM (bitT tu q) (renM i b (m.getD q z37))) q
    have hl3 := foldI_len (fun q => renM i b (m.getD q z37)) (q + 1)
    have hl4 := foldI_len (fun q => swM (bitT tu q) (renM i b (m.getD q z37))) (q + 1)
    refine At_rowSome 1 rfl (by omega) ?_
    rintro bA rfl
    (repeat (first | ((with_reducible refine is_AL ?_); (first | ((with_reducible refine is_move ?_); (refine At_plain hF (by (exact (rfl : _ = some (Value.int _ _)))) ?_)) | ((with_reducible refine is_index ?_); (refine At_indexS hF rfl rfl (by omega) ?_)))) | ((with_reducible refine is_At ?_); (first | with_reducible refine At_seq ?_; intro K hK | with_reducible refine At_block ?_ | with_reducible refine At_region ?_ | with_reducible refine At_skip ?_ | with_reducible refine At_then_n ?_ | with_reducible refine At_go (by assumption) ?_))))
    refine At_loadRow hF 1 (by exact rfl) rfl z37 hlt rfl (by exact (rfl : _ = Value.agg #[.int .i64 (m.getD q z37).f0, .int .i64 (m.getD q z37).f1, .int .i64 (m.getD q z37).f2])) ?_
    generalize hG1 : (foldI (fun q => renM i b (m.getD q z37)) q) = G1 at hf1 hl1 ⊢
    generalize hG2 : (foldI (fun q => swM (bitT tu q) (renM i b (m.getD q z37))) q) = G2 at hf2 hl2 ⊢
    rw [hf1] at hl3
    rw [hf2] at hl4
    generalize m.getD q z37 = x at h5 hf1 hf2 hl3 hl4 ⊢
    obtain ⟨f0, f1, f2⟩ := x
    obtain ⟨h1, h2, ⟨h3, h6⟩, ⟨h4, h7⟩, h8⟩ := h5
    dsimp only at *
    obtain ⟨f, rfl⟩ : ∃ k : Nat, f1 = k := ⟨f1.toNat, by omega⟩
    obtain ⟨g, rfl⟩ : ∃ k : Nat, f2 = k := ⟨f2.toNat, by omega⟩
    have i2 : (f : Int) < i := by omega
    have i3 : (g : Int) < i := by omega
    have hr : renM i b ⟨f0, (f : Int), (g : Int)⟩ = ⟨f0, (nmS i b i).getD f 0, (nmS i b i).getD g 0⟩ := rfl
    rw [hr] at hf1 hf2 hl3 hl4
    generalize hnf : (nmS i b i).getD f 0 = nf at hf1 hf2 hl3 hl4
    generalize hng : (nmS i b i).getD g 0 = ng at hf1 hf2 hl3 hl4
    have hN1 : (bI (nmS i b i))[f]? = some (.int .i64 nf) := bI_get (j := f) rfl (by omega) hnf
    have hN2 : (bI (nmS i b i))[g]? = some (.int .i64 ng) := bI_get (j := g) rfl (by omega) hng
    clear h1 h2 h3 h4 h6 h7 hnf hng hr
    generalize hNN : bI (nmS i b i) = NN at hN1 hN2 ⊢
    ((repeat (first | ((with_reducible refine is_AL ?_); (first | ((with_reducible refine is_guarded ?_); (refine At_guard_t rfl (by decide) rfl ?_)) | ((with_reducible refine is_move ?_); (refine At_plain hF (by (first | exact (rfl : _ = some (Value.int _ _)) | exact (rfl : _ = some (Value.bool _)))) ?_)) | ((with_reducible refine is_bin ?_); (refine At_plain hF (by (exact (rfl : _ = some (Value.bool _)))) ?_)) | ((with_reducible refine is_assign ?_); (refine At_plain hF (by (exact (rfl : _ = some (Value.int _ _)))) ?_)) | ((with_reducible refine is_pick ?_); (refine At_plain hF (by (exact (rfl : _ = some (Value.bool _)))) ?_)) | ((with_reducible refine is_field ?_); (refine At_field hF rfl ?_)) | ((with_reducible refine is_load ?_); (refine At_load hF 0 (by exact rfl) rfl (by (exact (rfl : _ = some (Value.int _ _)))) ?_)) | ((with_reducible refine is_store ?_); (refine At_storeB_0 hF rfl rfl rfl rfl (by simp [Value.one1, epair]) ?_)) | with_reducible refine At_nil ?_)) | ((with_reducible refine is_At ?_); (first | with_reducible refine At_seq ?_; intro K hK | with_reducible refine At_region ?_ | with_reducible refine At_then_n ?_ | with_reducible refine At_go (by assumption) ?_)))); ((with_reducible refine is_alloc ?_); (refine At_alloc hF (by (exact (rfl : _ = List.toArray (_ :: _)))) ?_; intro b17)); (repeat (first | ((with_reducible refine is_AL ?_); (first | ((with_reducible refine is_guarded ?_); (refine At_guard_t rfl (by decide) rfl ?_)) | ((with_reducible refine is_move ?_); (refine At_plain hF (by (first | exact (rfl : _ = some (Value.int _ _)) | exact (rfl : _ = some (Value.bool _)))) ?_)) | ((with_reducible refine is_bin ?_); (refine At_plain hF (by (exact (rfl : _ = some (Value.bool _)))) ?_)) | ((with_reducible refine is_assign ?_); (refine At_plain hF (by (exact (rfl : _ = some (Value.int _ _)))) ?_)) | ((with_reducible refine is_pick ?_); (refine At_plain hF (by (exact (rfl : _ = some (Value.bool _)))) ?_)) | ((with_reducible refine is_field ?_); (refine At_field hF rfl ?_)) | ((with_reducible refine is_load ?_); (refine At_load hF 0 (by exact rfl) rfl (by (exact (rfl : _ = some (Value.int _ _)))) ?_)) | ((with_reducible refine is_store ?_); (refine At_storeB_0 hF rfl rfl rfl rfl (by simp [Value.one1, epair]) ?_)) | with_reducible refine At_nil ?_)) | ((with_reducible refine is_At ?_); (first | with_reducible refine At_seq ?_; intro K hK | with_reducible refine At_region ?_ | with_reducible refine At_then_n ?_ | with_reducible refine At_go (by assumption) ?_)))))
    ((with_reducible refine is_guarded ?_); (refine At_guard hF rfl (by decide) rfl ?_ ?_ <;> (intro hg; try (simp only [decide_eq_true_eq, decide_eq_false_iff_not, beq_iff_eq, bne_iff_ne, beq_eq_false_iff_ne, bne_eq_false_iff_eq, ne_eq, Bool.not_eq_true', Bool.not_eq_false', Bool.not_true, Bool.not_false, Decidable.not_not] at hg); try (exfalso; first | omega | exact hg True.intro))))
    (repeat (first | ((with_reducible refine is_AL ?_); (first | ((with_reducible refine is_guarded ?_); (refine At_guard_t rfl (by decide) rfl ?_)) | ((with_reducible refine is_move ?_); (refine At_plain hF (by (first | exact (rfl : _ = some (Value.int _ _)) | exact (rfl : _ = some (Value.bool _)))) ?_)) | ((with_reducible refine is_bin ?_); (refine At_plain hF (by (exact (rfl : _ = some (Value.bool _)))) ?_)) | ((with_reducible refine is_pick ?_); (refine At_plain hF (by (exact (rfl : _ = some (Value.bool _)))) ?_)) | ((with_reducible refine is_field ?_); (refine At_field hF rfl ?_)) | ((with_reducible refine is_load ?_); (refine At_load hF 0 (by exact rfl) rfl (by (exact (rfl : _ = some (Value.int _ _)))) ?_)) | with_reducible refine At_nil ?_)) | ((with_reducible refine is_At ?_); (first | with_reducible refine At_then_n ?_ | with_reducible refine At_go (by assumption) ?_))))
    ((with_reducible refine is_cond ?_); (refine At_cond rfl ?_ ?_ <;> (intro hg; try (simp only [decide_eq_true_eq, decide_eq_false_iff_not, beq_iff_eq, bne_iff_ne, beq_eq_false_iff_ne, bne_eq_false_iff_eq, ne_eq, Bool.not_eq_true', Bool.not_eq_false', Bool.not_true, Bool.not_false, Decidable.not_not] at hg); try (exfalso; first | omega | exact hg True.intro))))
    (repeat ((with_reducible refine is_At ?_); (first | with_reducible refine At_seq ?_; intro K hK | with_reducible refine At_skip ?_ | with_reducible refine At_then_n ?_ | with_reducible refine At_go (by assumption) ?_)))
    refine At_drawE hF 14 [0, 1, 2, 3, 4, 5, 6, 7, 8, 9, 10, 12] [1, 2, 6, 7] [11, 13] (.obj bn (.cells NN 3 (0, 0)) :: .row 37 3 enc37 (some bA) c m :: .row 37 3 enc37 A3 c3 G1 :: [.row 37 3 enc37 A4 c4 G2]) (by kernel_rfl) (by decide +kernel) (by decide +kernel) ?_; simp only [List.drop_succ_cons, List.drop_zero]; (repeat ((with_reducible refine is_AQF ?_); first | refine AQF_early (by decide) (by exact (rfl : _ = some (Oper.mk _ _ _ _ _ _))) (by intro K Q hK; (repeat (first | ((with_reducible refine is_move ?_); (refine At_plain hF (by (exact (rfl : _ = some (Value.slice _ _ _)))) ?_)) | ((with_reducible refine is_field ?_); (refine At_field hF rfl ?_)) | ((with_reducible refine is_load ?_); (refine At_load hF 0 (by exact rfl) rfl (by (exact (rfl : _ = some (Value.int _ _)))) ?_)) | ((with_reducible refine is_index ?_); (refine At_indexS1 hF rfl rfl rfl (by omega) ?_)))); exact At_nilK hK) ?_ | refine AQF_late (by decide) (by exact (rfl : _ = some (Oper.mk _ _ _ _ _ _))) (by intro E K Q hK; simp only [List.cons_append, List.nil_append] at hK ⊢; (repeat (first | ((with_reducible refine is_move ?_); (refine At_plain hF (by (exact (rfl : _ = some (Value.slice _ _ _)))) ?_)) | ((with_reducible refine is_field ?_); (refine At_field hF rfl ?_)) | ((with_reducible refine is_load ?_); (refine At_load hF 0 (by exact rfl) rfl (by (exact (rfl : _ = some (Value.int _ _)))) ?_)) | ((with_reducible refine is_index ?_); (refine At_indexS1 hF rfl rfl rfl (by omega) ?_)))); exact At_nilK hK) ?_))
    refine AQF_late (by decide) (by exact (rfl : _ = some (Oper.mk _ _ _ _ _ _))) (by intro E K Q hK; simp only [List.cons_append, List.nil_append] at hK ⊢; refine At_load hF 0 (by exact rfl) rfl hN1 ?_; exact At_nilK hK) ?_
    (repeat ((with_reducible refine is_AQF ?_); first | refine AQF_early (by decide) (by exact (rfl : _ = some (Oper.mk _ _ _ _ _ _))) (by intro K Q hK; (repeat (first | ((with_reducible refine is_move ?_); (refine At_plain hF (by (exact (rfl : _ = some (Value.slice _ _ _)))) ?_)) | ((with_reducible refine is_field ?_); (refine At_field hF rfl ?_)) | ((with_reducible refine is_load ?_); (refine At_load hF 0 (by exact rfl) rfl (by (exact (rfl : _ = some (Value.int _ _)))) ?_)) | ((with_reducible refine is_index ?_); (refine At_indexS1 hF rfl rfl rfl (by omega) ?_)))); exact At_nilK hK) ?_ | refine AQF_late (by decide) (by exact (rfl : _ = some (Oper.mk _ _ _ _ _ _))) (by intro E K Q hK; simp only [List.cons_append, List.nil_append] at hK ⊢; (repeat (first | ((with_reducible refine is_move ?_); (refine At_plain hF (by (exact (rfl : _ = some (Value.slice _ _ _)))) ?_)) | ((with_reducible refine is_field ?_); (refine At_field hF rfl ?_)) | ((with_reducible refine is_load ?_); (refine At_load hF 0 (by exact rfl) rfl (by (exact (rfl : _ = some (Value.int _ _)))) ?_)) | ((with_reducible refine is_index ?_); (refine At_indexS1 hF rfl rfl rfl (by omega) ?_)))); exact At_nilK hK) ?_))
    refine AQF_late (by decide) (by exact (rfl : _ = some (Oper.mk _ _ _ _ _ _))) (by intro E K Q hK; simp only [List.cons_append, List.nil_append] at hK ⊢; refine At_load hF 0 (by exact rfl) rfl hN2 ?_; exact At_nilK hK) ?_
    (repeat ((with_reducible refine is_AQF ?_); first | refine AQF_early (by decide) (by exact (rfl : _ = some (Oper.mk _ _ _ _ _ _))) (by intro K Q hK; (repeat ((with_reducible refine is_field ?_); (refine At_field hF rfl ?_))); exact At_nilK hK) ?_ | refine AQF_late (by decide) (by exact (rfl : _ = some (Oper.mk _ _ _ _ _ _))) (by intro E K Q hK; simp only [List.cons_append, List.nil_append] at hK ⊢; (repeat ((with_reducible refine is_field ?_); (refine At_field hF rfl ?_))); exact At_nilK hK) ?_))
    refine AQF_done ?_
    (refine WAt_cons ?_ (by exact (rfl : _ = some (Oper.mk _ _ _ _ _ _))) ?_; (focus (repeat (first | exact List.Sublist.refl _ | exact List.Sublist.slnil | refine List.Sublist.cons_cons _ ?_ | refine List.Sublist.cons _ ?_))); intro K Q hK)
    ((with_reducible refine is_AL ?_); ((with_reducible refine is_store ?_); (refine At_store_0 hF rfl (by (exact (rfl : _ = (Value.int _ _)))) (by (exact of_decide_eq_true rfl)) (by exact rfl) (by exact rfl) (by (exact (rfl : _ = List.toArray (_ :: _)))) ?_)))
    refine At_nilK (hK _ _ ?_)
    (refine WAt_cons ?_ (by exact (rfl : _ = some (Oper.mk _ _ _ _ _ _))) ?_; (focus (repeat (first | exact List.Sublist.refl _ | exact List.Sublist.slnil | refine List.Sublist.cons_cons _ ?_ | refine List.Sublist.cons _ ?_))); intro K Q hK)
    ((with_reducible refine is_AL ?_); ((with_reducible refine is_store ?_); (refine At_store_0 hF rfl (by (exact (rfl : _ = (Value.int _ _)))) (by (exact of_decide_eq_true rfl)) (by exact rfl) (by exact rfl) (by (exact (rfl : _ = List.toArray (_ :: _)))) ?_)))
    refine At_nilK (hK _ _ ?_)
    (refine WAt_nil ?_ ?_; (focus (repeat (first | exact List.Sublist.refl _ | exact List.Sublist.slnil | refine List.Sublist.cons_cons _ ?_ | refine List.Sublist.cons _ ?_))))
    (repeat (first | ((with_reducible refine is_AL ?_); (first | ((with_reducible refine is_move ?_); (refine At_plain hF (by (exact (rfl : _ = some (Value.slice _ _ _)))) ?_)) | ((with_reducible refine is_load ?_); (refine At_loadB hF 0 rfl rfl rfl ?_)) | with_reducible refine At_nil ?_)) | ((with_reducible refine is_At ?_); (first | with_reducible refine At_seq ?_; intro K hK | with_reducible refine At_region ?_ | with_reducible refine At_then_n ?_ | with_reducible refine At_go (by assumption) ?_))))
    refine At_callM hF E18 rfl (Post := fun u Rs => ∃ A' c', u = rowV A' (insR (⟨f0, nf, ng⟩ : S37) G1).length c' ∧ Rs = [.row 37 3 enc37 A' c' (insR (⟨f0, nf, ng⟩ : S37) G1)]) (arg2 (by (first | exact (rfl : _ = (Value.int _ _)) | exact (rfl : _ = (Value.bool _)) | exact (rfl : _ = (Value.pointer _)) | exact (rfl : _ = (Value.slice _ _ _)) | exact (rfl : _ = (Value.map _)) | exact (rfl : _ = (Value.func _ _ _)) | exact (rfl : _ = (Value.tuple _)) | exact (rfl : _ = (Value.agg _)) | exact (rfl : _ = (Value.string _)) | exact (rfl : _ = (Value.nilFunc)) | exact (rfl : _ = (Value.nilIface)))) (by (first | exact (rfl : _ = (Value.int _ _)) | exact (rfl : _ = (Value.bool _)) | exact (rfl : _ = (Value.pointer _)) | exact (rfl : _ = (Value.slice _ _ _)) | exact (rfl : _ = (Value.map _)) | exact (rfl : _ = (Value.func _ _ _)) | exact (rfl : _ = (Value.tuple _)) | exact (rfl : _ = (Value.agg _)) | exact (rfl : _ = (Value.string _)) | exact (rfl : _ = (Value.nilFunc)) | exact (rfl : _ = (Value.nilIface))))) (fun w' hw' => put_rets w' _ c3 G1 ⟨f0, nf, ng⟩ (C_ownI hw' 3 rfl) (cap_ownI hw' 3 rfl) (by omega)) ?_
    rintro _ _ ⟨A5, c5, rfl, rfl⟩
    simp only [List.cons_append, List.nil_append]
    (repeat (first | ((with_reducible refine is_AL ?_); (first | ((with_reducible refine is_move ?_); (refine At_plain hF (by (exact (rfl : _ = some (Value.int _ _)))) ?_)) | ((with_reducible refine is_bin ?_); ((with_reducible refine is_brem ?_); (refine At_rem hF rfl rfl (by omega) ?_))) | ((with_reducible refine is_assign ?_); (refine At_plain hF (by (exact (rfl : _ = some (Value.slice _ _ _)))) ?_)) | with_reducible refine At_nil ?_)) | ((with_reducible refine is_At ?_); (first | with_reducible refine At_seq ?_; intro K hK | with_reducible refine At_region ?_ | with_reducible refine At_then_n ?_ | with_reducible refine At_go (by assumption) ?_))))
    rw [show (q : Int) % 32 = ((q % 32 : Nat) : Int) by omega]
    refine At_shr hF (by exact rfl) (by exact rfl) (by omega) ?_
    refine At_and hF (a := tu / 2 ^ (q % 32)) (b := 1) (by exact rfl) (by exact rfl) (Nat.lt_of_le_of_lt (Nat.div_le_self _ _) htu) (by decide) ?_
    rw [bit_eq]
    subst hNN
    cases hbt : bitT tu q with
    | true =>
        rw [hbt] at hf2
        simp only [swM, if_true] at hf2 ⊢
        (repeat (first | ((with_reducible refine is_AL ?_); (first | ((with_reducible refine is_move ?_); (refine At_plain hF (by (exact (rfl : _ = some (Value.slice _ _ _)))) ?_)) | ((with_reducible refine is_bin ?_); (refine At_plain hF (by (exact (rfl : _ = some (Value.bool _)))) ?_)) | ((with_reducible refine is_field ?_); (refine At_field hF rfl ?_)) | ((with_reducible refine is_load ?_); (first | refine At_load hF 1 (by exact rfl) rfl (by (exact (rfl : _ = some (Value.int _ _)))) ?_ | refine At_loadB hF 1 rfl rfl rfl ?_)) | ((with_reducible refine is_store ?_); (refine At_store_1 hF rfl (by (exact (rfl : _ = (Value.int _ _)))) (by (exact of_decide_eq_true rfl)) (by exact rfl) (by exact rfl) (by (exact (rfl : _ = List.toArray (_ :: _)))) ?_)) | with_reducible refine At_nil ?_)) | ((with_reducible refine is_At ?_); (first | with_reducible refine At_region ?_ | with_reducible refine At_then_n ?_ | with_reducible refine At_go (by assumption) ?_ | ((with_reducible refine is_cond ?_); (refine At_cond_t rfl ?_))))))
        refine At_callM hF E18 rfl (Post := fun u Rs => ∃ A' c', u = rowV A' (insR (⟨f0, ng, nf⟩ : S37) G2).length c' ∧ Rs = [.row 37 3 enc37 A' c' (insR (⟨f0, ng, nf⟩ : S37) G2)]) (arg2 (by (first | exact (rfl : _ = (Value.int _ _)) | exact (rfl : _ = (Value.bool _)) | exact (rfl : _ = (Value.pointer _)) | exact (rfl : _ = (Value.slice _ _ _)) | exact (rfl : _ = (Value.map _)) | exact (rfl : _ = (Value.func _ _ _)) | exact (rfl : _ = (Value.tuple _)) | exact (rfl : _ = (Value.agg _)) | exact (rfl : _ = (Value.string _)) | exact (rfl : _ = (Value.nilFunc)) | exact (rfl : _ = (Value.nilIface)))) (by (first | exact (rfl : _ = (Value.int _ _)) | exact (rfl : _ = (Value.bool _)) | exact (rfl : _ = (Value.pointer _)) | exact (rfl : _ = (Value.slice _ _ _)) | exact (rfl : _ = (Value.map _)) | exact (rfl : _ = (Value.func _ _ _)) | exact (rfl : _ = (Value.tuple _)) | exact (rfl : _ = (Value.agg _)) | exact (rfl : _ = (Value.string _)) | exact (rfl : _ = (Value.nilFunc)) | exact (rfl : _ = (Value.nilIface))))) (fun w' hw' => put_rets w' _ c4 G2 ⟨f0, ng, nf⟩ (C_ownI hw' 5 rfl) (cap_ownI hw' 5 rfl) (by omega)) ?_
        rintro _ _ ⟨A6, c6, rfl, rfl⟩
        simp only [List.cons_append, List.nil_append]
        rw [← hf1, ← hf2]
        (repeat (first | ((with_reducible refine is_AL ?_); (first | ((with_reducible refine is_move ?_); (refine At_plain hF (by (exact (rfl : _ = some (Value.int _ _)))) ?_)) | ((with_reducible refine is_bin ?_); ((with_reducible refine is_badd ?_); (refine At_add hF rfl rfl (by omega) ?_))) | ((with_reducible refine is_assign ?_); (refine At_plain hF (by (exact (rfl : _ = some (Value.slice _ _ _)))) ?_)) | with_reducible refine At_nil ?_)) | ((with_reducible refine is_At ?_); (first | with_reducible refine At_region ?_ | with_reducible refine At_then_n ?_ | with_reducible refine At_inb_n ?_ | with_reducible refine At_go (by assumption) ?_))))
        (refine At.pick [3, 4, 1, 0] (by decide) (R' := [_, _, _, _]) rfl ?_)
        refine At.sub ?_ (hL (q + 1, (A5, c5), (A6, c6)) _ (by simp only; omega) (by simp only; omega) ?_)
        · (repeat (first | exact List.Sublist.refl _ | exact List.Sublist.slnil | refine List.Sublist.cons_cons _ ?_ | refine List.Sublist.cons _ ?_))
        · (repeat (first | exact True.intro | (refine And.intro ?_ ?_; focus (show _ = (_ : Value); first | exact rfl | (refine Eq.trans (b := Value.int IntKind.i64 _) rfl (congrArg (Value.int IntKind.i64) ?_); omega)))))
    | false =>
        rw [hbt] at hf2
        simp only [swM, Bool.false_eq_true, if_false] at hf2 ⊢
        (repeat (first | ((with_reducible refine is_AL ?_); (first | ((with_reducible refine is_move ?_); (refine At_plain hF (by (exact (rfl : _ = some (Value.slice _ _ _)))) ?_)) | ((with_reducible refine is_bin ?_); (refine At_plain hF (by (exact (rfl : _ = some (Value.bool _)))) ?_)) | ((with_reducible refine is_load ?_); (refine At_loadB hF 1 rfl rfl rfl ?_)) | with_reducible refine At_nil ?_)) | ((with_reducible refine is_At ?_); (first | with_reducible refine At_region ?_ | with_reducible refine At_skip ?_ | with_reducible refine At_then_n ?_ | with_reducible refine At_go (by assumption) ?_ | ((with_reducible refine is_cond ?_); (refine At_cond_f rfl ?_))))))
        refine At_callM hF E18 rfl (Post := fun u Rs => ∃ A' c', u = rowV A' (insR (⟨f0, nf, ng⟩ : S37) G2).length c' ∧ Rs = [.row 37 3 enc37 A' c' (insR (⟨f0, nf, ng⟩ : S37) G2)]) (arg2 (by (first | exact (rfl : _ = (Value.int _ _)) | exact (rfl : _ = (Value.bool _)) | exact (rfl : _ = (Value.pointer _)) | exact (rfl : _ = (Value.slice _ _ _)) | exact (rfl : _ = (Value.map _)) | exact (rfl : _ = (Value.func _ _ _)) | exact (rfl : _ = (Value.tuple _)) | exact (rfl : _ = (Value.agg _)) | exact (rfl : _ = (Value.string _)) | exact (rfl : _ = (Value.nilFunc)) | exact (rfl : _ = (Value.nilIface)))) (by (first | exact (rfl : _ = (Value.int _ _)) | exact (rfl : _ = (Value.bool _)) | exact (rfl : _ = (Value.pointer _)) | exact (rfl : _ = (Value.slice _ _ _)) | exact (rfl : _ = (Value.map _)) | exact (rfl : _ = (Value.func _ _ _)) | exact (rfl : _ = (Value.tuple _)) | exact (rfl : _ = (Value.agg _)) | exact (rfl : _ = (Value.string _)) | exact (rfl : _ = (Value.nilFunc)) | exact (rfl : _ = (Value.nilIface))))) (fun w' hw' => put_rets w' _ c4 G2 ⟨f0, nf, ng⟩ (C_ownI hw' 5 rfl) (cap_ownI hw' 5 rfl) (by omega)) ?_
        rintro _ _ ⟨A6, c6, rfl, rfl⟩
        simp only [List.cons_append, List.nil_append]
        rw [← hf1, ← hf2]
        (repeat (first | ((with_reducible refine is_AL ?_); (first | ((with_reducible refine is_move ?_); (refine At_plain hF (by (exact (rfl : _ = some (Value.int _ _)))) ?_)) | ((with_reducible refine is_bin ?_); ((with_reducible refine is_badd ?_); (refine At_add hF rfl rfl (by omega) ?_))) | ((with_reducible refine is_assign ?_); (refine At_plain hF (by (exact (rfl : _ = some (Value.slice _ _ _)))) ?_)) | with_reducible refine At_nil ?_)) | ((with_reducible refine is_At ?_); (first | with_reducible refine At_region ?_ | with_reducible refine At_then_n ?_ | with_reducible refine At_inb_n ?_ | with_reducible refine At_go (by assumption) ?_))))
        (refine At.pick [3, 4, 1, 0] (by decide) (R' := [_, _, _, _]) rfl ?_)
        refine At.sub ?_ (hL (q + 1, (A5, c5), (A6, c6)) _ (by simp only; omega) (by simp only; omega) ?_)
        · (repeat (first | exact List.Sublist.refl _ | exact List.Sublist.slnil | refine List.Sublist.cons_cons _ ?_ | refine List.Sublist.cons _ ?_))
        · (repeat (first | exact True.intro | (refine And.intro ?_ ?_; focus (show _ = (_ : Value); first | exact rfl | (refine Eq.trans (b := Value.int IntKind.i64 _) rfl (congrArg (Value.int IntKind.i64) ?_); omega)))))
  obtain rfl : q = m.length := by omega
  clear hL
  (repeat (first | ((with_reducible refine is_AL ?_); ((with_reducible refine is_move ?_); (refine At_plain hF (by (first | exact (rfl : _ = some (Value.int _ _)) | exact (rfl : _ = some (Value.slice _ _ _)))) ?_))) | ((with_reducible refine is_At ?_); (first | with_reducible refine At_seq ?_; intro K hK | with_reducible refine At_region ?_ | with_reducible refine At_exit ?_ | with_reducible refine At_then_n ?_ | with_reducible refine At_then_e ?_ | with_reducible refine At_inb_e rfl ?_ | with_reducible refine At_go (by assumption) ?_))))
  refine At_callB hF E15 rfl (u := .int .i64 0) (arg3 (by (first | exact (rfl : _ = (Value.int _ _)) | exact (rfl : _ = (Value.bool _)) | exact (rfl : _ = (Value.pointer _)) | exact (rfl : _ = (Value.slice _ _ _)) | exact (rfl : _ = (Value.map _)) | exact (rfl : _ = (Value.func _ _ _)) | exact (rfl : _ = (Value.tuple _)) | exact (rfl : _ = (Value.agg _)) | exact (rfl : _ = (Value.string _)) | exact (rfl : _ = (Value.nilFunc)) | exact (rfl : _ = (Value.nilIface)))) (by (first | exact (rfl : _ = (Value.int _ _)) | exact (rfl : _ = (Value.bool _)) | exact (rfl : _ = (Value.pointer _)) | exact (rfl : _ = (Value.slice _ _ _)) | exact (rfl : _ = (Value.map _)) | exact (rfl : _ = (Value.func _ _ _)) | exact (rfl : _ = (Value.tuple _)) | exact (rfl : _ = (Value.agg _)) | exact (rfl : _ = (Value.string _)) | exact (rfl : _ = (Value.nilFunc)) | exact (rfl : _ = (Value.nilIface)))) (by (first | exact (rfl : _ = (Value.int _ _)) | exact (rfl : _ = (Value.bool _)) | exact (rfl : _ = (Value.pointer _)) | exact (rfl : _ = (Value.slice _ _ _)) | exact (rfl : _ = (Value.map _)) | exact (rfl : _ = (Value.func _ _ _)) | exact (rfl : _ = (Value.tuple _)) | exact (rfl : _ = (Value.agg _)) | exact (rfl : _ = (Value.string _)) | exact (rfl : _ = (Value.nilFunc)) | exact (rfl : _ = (Value.nilIface))))) (fun w' hw' => hc1 w' _ c3 (C_ownI hw' 2 rfl)) ?_
  (repeat (first | ((with_reducible refine is_AL ?_); (first | ((with_reducible refine is_move ?_); (refine At_plain hF (by (first | exact (rfl : _ = some (Value.int _ _)) | exact (rfl : _ = some (Value.bool _)))) ?_)) | ((with_reducible refine is_bin ?_); (refine At_plain hF (by (exact (rfl : _ = some (Value.bool _)))) ?_)) | with_reducible refine At_nil ?_)) | ((with_reducible refine is_At ?_); (first | with_reducible refine At_seq ?_; intro K hK | with_reducible refine At_region ?_ | with_reducible refine At_skip ?_ | with_reducible refine At_then_n ?_ | with_reducible refine At_go (by assumption) ?_ | ((with_reducible refine is_cond ?_); (refine At_cond_f rfl ?_))))))
  by_cases hk1 : kind = 1
  · have e1 : (kind != 1) = false := by simp [hk1]
    rw [e1]
    (repeat ((with_reducible refine is_AL ?_); (first | ((with_reducible refine is_guarded ?_); (refine At_guard_t rfl (by decide) rfl ?_)) | ((with_reducible refine is_move ?_); (refine At_plain hF (by (first | exact (rfl : _ = some (Value.int _ _)) | exact (rfl : _ = some (Value.slice _ _ _)))) ?_)))))
    refine At_callB hF E15 rfl (u := .int .i64 0) (arg3 (by (first | exact (rfl : _ = (Value.int _ _)) | exact (rfl : _ = (Value.bool _)) | exact (rfl : _ = (Value.pointer _)) | exact (rfl : _ = (Value.slice _ _ _)) | exact (rfl : _ = (Value.map _)) | exact (rfl : _ = (Value.func _ _ _)) | exact (rfl : _ = (Value.tuple _)) | exact (rfl : _ = (Value.agg _)) | exact (rfl : _ = (Value.string _)) | exact (rfl : _ = (Value.nilFunc)) | exact (rfl : _ = (Value.nilIface)))) (by (first | exact (rfl : _ = (Value.int _ _)) | exact (rfl : _ = (Value.bool _)) | exact (rfl : _ = (Value.pointer _)) | exact (rfl : _ = (Value.slice _ _ _)) | exact (rfl : _ = (Value.map _)) | exact (rfl : _ = (Value.func _ _ _)) | exact (rfl : _ = (Value.tuple _)) | exact (rfl : _ = (Value.agg _)) | exact (rfl : _ = (Value.string _)) | exact (rfl : _ = (Value.nilFunc)) | exact (rfl : _ = (Value.nilIface)))) (by (first | exact (rfl : _ = (Value.int _ _)) | exact (rfl : _ = (Value.bool _)) | exact (rfl : _ = (Value.pointer _)) | exact (rfl : _ = (Value.slice _ _ _)) | exact (rfl : _ = (Value.map _)) | exact (rfl : _ = (Value.func _ _ _)) | exact (rfl : _ = (Value.tuple _)) | exact (rfl : _ = (Value.agg _)) | exact (rfl : _ = (Value.string _)) | exact (rfl : _ = (Value.nilFunc)) | exact (rfl : _ = (Value.nilIface))))) (fun w' hw' => hc2 hk1 w' _ c4 (C_ownI hw' 3 rfl)) ?_
    (repeat (first | ((with_reducible refine is_AL ?_); (first | ((with_reducible refine is_guarded ?_); (refine At_guard_t rfl (by decide) rfl ?_)) | ((with_reducible refine is_bin ?_); (refine At_plain hF (by (exact (rfl : _ = some (Value.bool _)))) ?_)) | ((with_reducible refine is_assign ?_); (refine At_plain hF (by (exact (rfl : _ = some (Value.bool _)))) ?_)) | ((with_reducible refine is_pick ?_); (refine At_plain hF (by (exact (rfl : _ = some (Value.bool _)))) ?_)) | with_reducible refine At_nil ?_)) | ((with_reducible refine is_At ?_); (first | with_reducible refine At_ret ?_ | with_reducible refine At_then_n ?_ | with_reducible refine At_go (by assumption) ?_))))
    exact At_ret1 rfl (rv_tmp (by decide)) (fun w' hw' => ⟨_, rfl, rfl, hw'.below⟩)
  · have e1 : (kind != 1) = true := by simp [hk1]
    rw [e1]
    (repeat (first | ((with_reducible refine is_AL ?_); (first | ((with_reducible refine is_guarded ?_); (refine At_guard_f hF rfl (by decide) rfl rfl ?_)) | ((with_reducible refine is_assign ?_); (refine At_plain hF (by (exact (rfl : _ = some (Value.bool _)))) ?_)) | ((with_reducible refine is_pick ?_); (refine At_plain hF (by (exact (rfl : _ = some (Value.bool _)))) ?_)) | with_reducible refine At_nil ?_)) | ((with_reducible refine is_At ?_); (first | with_reducible refine At_ret ?_ | with_reducible refine At_then_n ?_ | with_reducible refine At_go (by assumption) ?_))))
    exact At_ret1 rfl (rv_tmp (by decide)) (fun w' hw' => ⟨_, rfl, rfl, hw'.below⟩)
end Go.Proofs.Ythddaojdlfifeaa.P

/- RobinRenamed: the contract. -/
namespace Go.Proofs.Ythddaojdlfifeaa.P
open Go.RowKit Go.Proofs.YthddaojdlfifeaaW.PrintWords Go.Proofs.YthddaojdlfifeaaW.PrintLast Go.Proofs.YthddaojdlfifeaaW.PrintMore
open XW RegInv
attribute [local irreducible] Addr.add
set_option linter.unusedSimpArgs false
set_option linter.unusedVariables false

set_option maxHeartbeats 4000000 in
set_option maxRecDepth 100000 in
theorem ren_bad (w0 : World) (n kind : Int) (A2 : Option Addr) (k2 c2 : Nat) (tu : Int) (h : ¬ rightR n kind) : Rets Try.prog 7 #[.int .i64 n, .int .i64 kind, .slice A2 k2 c2, .int .u32 tu] w0 fun u w' => u = .bool true ∧ Below w0.heap.size w0 w' := by
  have hF := wide_wide
  have hrt := right_of n kind
  rw [decide_eq_false h] at hrt
  refine rets_at (n := 139) Try.func7 rfl Try.ntmps7 (by simp) ?_
  (repeat (first | ((with_reducible refine is_AL ?_); (first | ((with_reducible refine is_assign ?_); (refine At_plain hF (by (exact (rfl : _ = some (Value.bool _)))) ?_)) | with_reducible refine At_nil ?_)) | ((with_reducible refine is_At ?_); (first | with_reducible refine At_seq ?_; intro K hK | with_reducible refine At_region ?_ | with_reducible refine At_then_n ?_ | with_reducible refine At_go (by assumption) ?_))))
  refine At_callB hF E9 rfl (u := .bool true) (vs := #[]) (by simp) (fun w' hw' => sane_rets w') ?_
  (repeat (first | ((with_reducible refine is_AL ?_); (first | ((with_reducible refine is_move ?_); (refine At_plain hF (by (exact (rfl : _ = some (Value.int _ _)))) ?_)) | ((with_reducible refine is_un ?_); (refine At_plain hF (by (exact (rfl : _ = some (Value.bool _)))) ?_)) | with_reducible refine At_nil ?_)) | ((with_reducible refine is_At ?_); (first | with_reducible refine At_seq ?_; intro K hK | with_reducible refine At_region ?_ | with_reducible refine At_skip ?_ | with_reducible refine At_then_n ?_ | with_reducible refine At_go (by assumption) ?_ | ((with_reducible refine is_cond ?_); (refine At_cond_f rfl ?_))))))
  refine At_callB hF E17 rfl (u := .bool false) (arg2 (by (first | exact (rfl : _ = (Value.int _ _)) | exact (rfl : _ = (Value.bool _)) | exact (rfl : _ = (Value.pointer _)) | exact (rfl : _ = (Value.slice _ _ _)) | exact (rfl : _ = (Value.map _)) | exact (rfl : _ = (Value.func _ _ _)) | exact (rfl : _ = (Value.tuple _)) | exact (rfl : _ = (Value.agg _)) | exact (rfl : _ = (Value.string _)) | exact (rfl : _ = (Value.nilFunc)) | exact (rfl : _ = (Value.nilIface)))) (by (first | exact (rfl : _ = (Value.int _ _)) | exact (rfl : _ = (Value.bool _)) | exact (rfl : _ = (Value.pointer _)) | exact (rfl : _ = (Value.slice _ _ _)) | exact (rfl : _ = (Value.map _)) | exact (rfl : _ = (Value.func _ _ _)) | exact (rfl : _ = (Value.tuple _)) | exact (rfl : _ = (Value.agg _)) | exact (rfl : _ = (Value.string _)) | exact (rfl : _ = (Value.nilFunc)) | exact (rfl : _ = (Value.nilIface))))) (fun w' hw' => hrt w') ?_
  (repeat (first | ((with_reducible refine is_AL ?_); (first | ((with_reducible refine is_assign ?_); (refine At_plain hF (by (exact (rfl : _ = some (Value.bool _)))) ?_)) | ((with_reducible refine is_un ?_); (refine At_plain hF (by (exact (rfl : _ = some (Value.bool _)))) ?_)) | with_reducible refine At_nil ?_)) | ((with_reducible refine is_At ?_); (first | with_reducible refine At_seq ?_; intro K hK | with_reducible refine At_region ?_ | with_reducible refine At_ret ?_ | with_reducible refine At_then_n ?_ | with_reducible refine At_then_r ?_ | with_reducible refine At_go (by assumption) ?_ | ((with_reducible refine is_cond ?_); (refine At_cond_t rfl ?_))))))
  exact At_ret1 rfl (rv_tmp (by decide)) (fun w' hw' => ⟨_, rfl, rfl, hw'.below⟩)
theorem ren_good (w0 : World) (n : Nat) (kind : Int) (A2 : Option Addr) (c2 : Nat) (b : List Int) (tu : Nat) (hn : 2 ≤ n ∧ n ≤ 20) (hk : 1 ≤ kind ∧ kind ≤ 3) (hb : Kd.C (Kd.int .u8) w0 A2 b.length b) (hbw : ∀ x ∈ b, 0 ≤ x ∧ x ≤ 255) (htu : tu < 4294967296) :
    Rets Try.prog 7 #[.int .i64 n, .int .i64 kind, .slice A2 b.length c2, .int .u32 tu] w0 fun u w' => u = .bool true ∧ Below w0.heap.size w0 w' := by
  have hg := good_mk hn hk
  have hrt := right_of n kind
  rw [decide_eq_true (show rightR n kind from ⟨by omega, by omega, hk⟩)] at hrt
  have hR : 1 ≤ rndsN n ∧ rndsN n ≤ 20 := by unfold rndsN; omega
  have hQ : 1 ≤ rndsQ (rndsN n) kind ∧ rndsQ (rndsN n) kind ≤ 40 := by unfold rndsQ; split <;> omega
  have hl := hg.len
  refine ren_core w0 n kind A2 c2 b tu (mkM n kind) hn hk (mk_of n kind hn hk) hrt hl (fun i hi => ?_) hb hbw htu (chk_of n kind _ 0 hn hk (by rw [foldI_len]; omega) (chk_ren hn hk hg.chk b _ (fun i hi => ⟨rfl, .inl ⟨rfl, rfl⟩⟩))) (fun hk1 => chk_of n kind _ 0 hn hk (by rw [foldI_len]; omega) (chk_ren hn hk hg.chk b _ (fun i hi => ?_)))
  · obtain ⟨h1, h2, h3⟩ := hg.inX _ (getD_memN hi)
    exact ⟨h1, by omega, h3⟩
  · unfold swM renM
    cases bitT tu i
    · exact ⟨rfl, .inl ⟨rfl, rfl⟩⟩
    · exact ⟨rfl, .inr ⟨hk1, rfl, rfl⟩⟩
theorem law_RobinRenamed.calls (a0 : Int) (a1 : Int) (A2 : Option Addr) (c2 : Nat) (l2 : List Int) (a3 : Int) (r : Bool) (w : World) (hr2 : Kd.C (Kd.int .u8) w A2 l2.length l2) (hc2 : l2.length ≤ c2) (h : r = true ∧ (∀ x ∈ l2, (Lit.int .u8 x).wf = true) ∧ (Lit.int .u32 a3).wf = true) :
    Calls Try.prog 7 #[.int .i64 a0, .int .i64 a1, .slice A2 l2.length c2, .int .u32 a3] w fun e w' => e = .returned (.bool r) ∧ Below w.heap.size w w' := by
  obtain ⟨rfl, h1, h2⟩ := h
  have hb : ∀ x ∈ l2, 0 ≤ x ∧ x ≤ 255 := fun x hx => by
    have := h1 x hx
    simp only [Lit.wf, Bool.and_eq_true, decide_eq_true_eq] at this
    exact this
  have ht : 0 ≤ a3 ∧ a3 < 4294967296 := by
    simp only [Lit.wf, Bool.and_eq_true, decide_eq_true_eq] at h2
    have h3 : 0 ≤ a3 ∧ a3 ≤ 4294967295 := h2
    omega
  obtain ⟨tu, rfl⟩ : ∃ k : Nat, a3 = k := ⟨a3.toNat, by omega⟩
  by_cases hr : rightR a0 a1
  · obtain ⟨g1, g2, g3, g4⟩ := hr
    obtain ⟨n, rfl⟩ : ∃ n : Nat, a0 = n := ⟨a0.toNat, by omega⟩
    refine (ren_good w n a1 A2 c2 l2 tu (by omega) ⟨g3, g4⟩ hr2 hb (by omega)).mono ?_
    rintro e w' ⟨v, rfl, rfl, hb⟩
    exact ⟨rfl, hb⟩
  · refine (ren_bad w a0 a1 A2 _ c2 tu hr).mono ?_
    rintro e w' ⟨v, rfl, rfl, hb⟩
    exact ⟨rfl, hb⟩
end Go.Proofs.Ythddaojdlfifeaa.P
