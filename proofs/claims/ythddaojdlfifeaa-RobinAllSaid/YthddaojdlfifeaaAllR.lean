import Derived.Test.YthddaojdlfifeaaGSane
import Derived.Test.YthddaojdlfifeaaEqvP
import Derived.Test.YthddaojdlfifeaaP12
import Derived.Test.YthddaojdlfifeaaXMakeZ
import Derived.Test.YthddaojdlfifeaaXDrawN
/- RobinAll: what is counted. -/
namespace Go.Proofs.Ythddaojdlfifeaa.P
open Go.RowKit Go.Proofs.YthddaojdlfifeaaW.PrintWords Go.Proofs.YthddaojdlfifeaaW.PrintLast Go.Proofs.YthddaojdlfifeaaW.PrintMore
set_option linter.unusedSimpArgs false
set_option linter.unusedVariables false

def inc (l : List Int) (j : Nat) : List Int := l.set j (l.getD j 0 + 1)
theorem inc_len (l : List Int) (j : Nat) : (inc l j).length = l.length := by simp [inc]
theorem inc_get (l : List Int) (j i : Nat) (hj : j < l.length) : (inc l j).getD i 0 = l.getD i 0 + if j = i then 1 else 0 := by
  unfold inc
  rw [List.getD_eq_getElem?_getD, List.getElem?_set, List.getD_eq_getElem?_getD]
  by_cases h : j = i
  · subst h; rw [if_pos rfl, if_pos hj, if_pos rfl]; simp [List.getD_eq_getElem?_getD]
  · rw [if_neg h, if_neg h, List.getD_eq_getElem?_getD]; omega
def stM (a : List Int) (x : S37) : List Int := inc a (x.f1.toNat * 20 + x.f2.toNat)
def stG (a : List Int) (x : S37) : List Int := inc (inc a (x.f0.toNat * 20 + x.f1.toNat)) (x.f0.toNat * 20 + x.f2.toNat)
def metV (m : List S37) : List Int := m.foldl stM (List.replicate 400 0)
def gamV (Q : Nat) (m : List S37) : List Int := m.foldl stG (List.replicate (Q * 20) 0)
theorem metV_snoc (m : List S37) (x : S37) : metV (m ++ [x]) = stM (metV m) x := by rw [metV, metV, List.foldl_append]; rfl
theorem gamV_snoc (Q : Nat) (m : List S37) (x : S37) : gamV Q (m ++ [x]) = stG (gamV Q m) x := by rw [gamV, gamV, List.foldl_append]; rfl
def inR (Q : Nat) (x : S37) : Prop := (0 ≤ x.f0 ∧ x.f0 < Q) ∧ (0 ≤ x.f1 ∧ x.f1 < 20) ∧ (0 ≤ x.f2 ∧ x.f2 < 20)
theorem metV_len (m : List S37) : (metV m).length = 400 := by
  have : ∀ (m : List S37) (a : List Int), (m.foldl stM a).length = a.length := fun m => by
    induction m with
    | nil => intro a; rfl
    | cons x m ih => intro a; rw [List.foldl_cons, ih, stM, inc_len]
  rw [metV, this, List.length_replicate]
theorem gamV_len (Q : Nat) (m : List S37) : (gamV Q m).length = Q * 20 := by
  have : ∀ (m : List S37) (a : List Int), (m.foldl stG a).length = a.length := fun m => by
    induction m with
    | nil => intro a; rfl
    | cons x m ih => intro a; rw [List.foldl_cons, ih, stG, inc_len, inc_len]
  rw [gamV, this, List.length_replicate]
def cM (m : List S37) (a b : Nat) : Nat := m.countP fun x => x.f1 == (a : Int) && x.f2 == (b : Int)
def cG (m : List S37) (r t : Nat) : Nat := (m.countP fun x => x.f0 == (r : Int) && x.f1 == (t : Int)) + m.countP fun x => x.f0 == (r : Int) && x.f2 == (t : Int)
theorem metV_get {Q : Nat} {m : List S37} (h : ∀ x ∈ m, inR Q x) (a b : Nat) (hb : b < 20) : (metV m).getD (a * 20 + b) 0 = (cM m a b : Int) := by
  have key : ∀ (m : List S37) (acc : List Int), acc.length = 400 → (∀ x ∈ m, inR Q x) → (m.foldl stM acc).getD (a * 20 + b) 0 = acc.getD (a * 20 + b) 0 + (cM m a b : Int) := fun m => by
    induction m with
    | nil => intro acc _ _; simp [cM]
    | cons x m ih =>
      intro acc hl hm
      have hx := hm x (by simp)
      obtain ⟨_, ⟨h1, h2⟩, h3, h4⟩ := hx
      rw [List.foldl_cons, ih _ (by rw [stM, inc_len, hl]) (fun y hy => hm y (by simp [hy])), stM, inc_get _ _ _ (by omega)]
      have e : cM (x :: m) a b = cM m a b + if x.f1.toNat * 20 + x.f2.toNat = a * 20 + b then 1 else 0 := by
        unfold cM
        rw [List.countP_cons]
        congr 1
        by_cases e1 : x.f1.toNat * 20 + x.f2.toNat = a * 20 + b
        · rw [if_pos e1, if_pos]
          simp only [Bool.and_eq_true, beq_iff_eq]; omega
        · rw [if_neg e1, if_neg]
          simp only [Bool.and_eq_true, beq_iff_eq]; omega
      rw [e]
      split <;> omega
  have := key m (List.replicate 400 0) List.length_replicate h
  rw [metV, this, List.getD_eq_getElem?_getD, List.getElem?_replicate]
  split <;> simp
theorem gamV_get {Q : Nat} {m : List S37} (h : ∀ x ∈ m, inR Q x) (r t : Nat) (ht : t < 20) : (gamV Q m).getD (r * 20 + t) 0 = (cG m r t : Int) := by
  have key : ∀ (m : List S37) (acc : List Int), acc.length = Q * 20 → (∀ x ∈ m, inR Q x) → (m.foldl stG acc).getD (r * 20 + t) 0 = acc.getD (r * 20 + t) 0 + (cG m r t : Int) := fun m => by
    induction m with
    | nil => intro acc _ _; simp [cG]
    | cons x m ih =>
      intro acc hl hm
      have hx := hm x (by simp)
      obtain ⟨⟨h5, h6⟩, ⟨h1, h2⟩, h3, h4⟩ := hx
      have h7 : x.f0.toNat * 20 + 20 ≤ Q * 20 := by
        have : (x.f0.toNat + 1) * 20 ≤ Q * 20 := Nat.mul_le_mul_right _ (by omega)
        omega
      rw [List.foldl_cons, ih _ (by rw [stG, inc_len, inc_len, hl]) (fun y hy => hm y (by simp [hy])), stG, inc_get _ _ _ (by rw [inc_len]; omega), inc_get _ _ _ (by omega)]
      have e : cG (x :: m) r t = cG m r t + (if x.f0.toNat * 20 + x.f1.toNat = r * 20 + t then 1 else 0) + (if x.f0.toNat * 20 + x.f2.toNat = r * 20 + t then 1 else 0) := by
        unfold cG
        rw [List.countP_cons, List.countP_cons]
        have e1 : (if (x.f0 == (r : Int) && x.f1 == (t : Int)) = true then 1 else 0) = if x.f0.toNat * 20 + x.f1.toNat = r * 20 + t then 1 else 0 := by
          by_cases e1 : x.f0.toNat * 20 + x.f1.toNat = r * 20 + t
          · rw [if_pos e1, if_pos]
            simp only [Bool.and_eq_true, beq_iff_eq]; omega
          · rw [if_neg e1, if_neg]
            simp only [Bool.and_eq_true, beq_iff_eq]; omega
        have e2 : (if (x.f0 == (r : Int) && x.f2 == (t : Int)) = true then 1 else 0) = if x.f0.toNat * 20 + x.f2.toNat = r * 20 + t then 1 else 0 := by
          by_cases e1 : x.f0.toNat * 20 + x.f2.toNat = r * 20 + t
          · rw [if_pos e1, if_pos]
            simp only [Bool.and_eq_true, beq_iff_eq]; omega
          · rw [if_neg e1, if_neg]
            simp only [Bool.and_eq_true, beq_iff_eq]; omega
        rw [e1, e2]; omega
      rw [e]
      split <;> split <;> omega
  have := key m (List.replicate (Q * 20) 0) List.length_replicate h
  rw [gamV, this, List.getD_eq_getElem?_getD, List.getElem?_replicate]
  split <;> simp
theorem cM_le (m : List S37) (a b : Nat) : cM m a b ≤ m.length := List.countP_le_length
theorem cG_le (m : List S37) (r t : Nat) : cG m r t ≤ 2 * m.length := by
  have h1 := List.countP_le_length (p := fun x : S37 => x.f0 == (r : Int) && x.f1 == (t : Int)) (l := m)
  have h2 := List.countP_le_length (p := fun x : S37 => x.f0 == (r : Int) && x.f2 == (t : Int)) (l := m)
  unfold cG; omega
/-- the rests of team a, r rounds of them -/
def rst (m : List S37) (a : Nat) : Nat → Int
  | 0 => 0
  | r + 1 => rst m a r + (1 - (cG m r a : Int))
def wantR (n : Nat) (kind : Int) : Int := if kind = 1 then (n % 2 : Nat) else 2 * (n % 2 : Nat)
/-- what RobinAll asks of the meetings -/
def pairB (m : List S37) (kind : Int) (a b : Nat) : Prop := if kind = 1 then cM m a b + cM m b a = 1 else cM m a b = 1 ∧ cM m b a = 1
def allOk (n Q : Nat) (kind : Int) (m : List S37) : Prop := ∀ a, a < n → (∀ r, r < Q → cG m r a ≤ 1) ∧ rst m a Q = wantR n kind ∧ ∀ b, b < a → pairB m kind a b
end Go.Proofs.Ythddaojdlfifeaa.P

/- What Make returns is a round robin, and everybody meets everybody. -/
namespace Go.Proofs.Ythddaojdlfifeaa.P
open Go.RowKit Go.Proofs.YthddaojdlfifeaaW.PrintWords Go.Proofs.YthddaojdlfifeaaW.PrintLast Go.Proofs.YthddaojdlfifeaaW.PrintMore
set_option linter.unusedSimpArgs false
set_option linter.unusedVariables false

/-- no number twice, told by the bits of one number -/
def nodupB : List Nat → Nat → Bool
  | [], _ => true
  | c :: l, s => !(s.testBit c) && nodupB l (s ||| 1 <<< c)
def bitsOf (l : List Nat) : Nat := l.foldl (fun s c => s ||| 1 <<< c) 0
theorem bit_or (s c t : Nat) : (s ||| 1 <<< c).testBit t = (s.testBit t || decide (c = t)) := by
  rw [Nat.testBit_or, Nat.one_shiftLeft, Nat.testBit_two_pow]
theorem nodupB_spec : ∀ (l : List Nat) (s : Nat), nodupB l s = true → l.Nodup ∧ ∀ c ∈ l, s.testBit c = false
  | [], s, _ => ⟨List.nodup_nil, by simp⟩
  | c :: l, s, h => by
    rw [nodupB, Bool.and_eq_true, Bool.not_eq_true'] at h
    obtain ⟨h1, h2⟩ := nodupB_spec l _ h.2
    have h3 : ∀ d ∈ l, s.testBit d = false ∧ c ≠ d := fun d hd => by
      have := h2 d hd
      rw [bit_or, Bool.or_eq_false_iff, decide_eq_false_iff_not] at this
      exact this
    refine ⟨List.nodup_cons.2 ⟨fun hc => (h3 c hc).2 rfl, h1⟩, fun d hd => ?_⟩
    rcases List.mem_cons.1 hd with rfl | hd
    · exact h.1
    · exact (h3 d hd).1
theorem bits_mem (t : Nat) : ∀ (l : List Nat) (s : Nat), (l.foldl (fun s c => s ||| 1 <<< c) s).testBit t = true → s.testBit t = true ∨ t ∈ l
  | [], s, h => .inl h
  | c :: l, s, h => by
    rcases bits_mem t l _ h with h1 | h1
    · rw [bit_or, Bool.or_eq_true, decide_eq_true_eq] at h1
      rcases h1 with h1 | h1
      · exact .inl h1
      · exact .inr (by simp [h1])
    · exact .inr (by simp [h1])
def cd (p : Int × Int) : Nat := p.1.toNat * 20 + p.2.toNat
theorem cd_inj {p q : Int × Int} (hp : 0 ≤ p.1 ∧ 0 ≤ p.2 ∧ p.2 < 20) (hq : 0 ≤ q.1 ∧ 0 ≤ q.2 ∧ q.2 < 20) (h : cd p = cd q) : p = q := by
  unfold cd at h
  exact Prod.ext (by omega) (by omega)
theorem nodup_cd {l : List (Int × Int)} (h : nodupB (l.map cd) 0 = true) : l.Nodup := by
  have h1 := (nodupB_spec _ _ h).1
  exact (List.pairwise_map.1 h1).imp (fun {a b} h e => h (by rw [e]))
def homeAway (x : S37) : Int × Int := (x.f1, x.f2)
def goodB (n : Nat) (kind : Int) (m : List S37) : Bool :=
  m.all (fun x => decide (okX n (rndsQ (rndsN n) kind : Nat) x)) && nodupB ((slots m).map cd) 0 && nodupB ((metL m (rndsN n) kind (rndsN n)).map cd) 0 &&
  (List.range (rndsN n)).all (fun r => decide (mkB (rndsN n) kind r < 0) || decide (byR m (mkB (rndsN n) kind r) = sortM ((byR m (mkA (rndsN n) kind r)).map (trn (mkB (rndsN n) kind r))))) &&
  decide ((metL m (rndsN n) kind (rndsN n)).length = n * (n - 1) / 2) && decide (m.length ≤ 1000) &&
  (List.range n).all (fun a => decide (((m.countP fun x => x.f1 == (a : Int)) + (m.countP fun x => x.f2 == (a : Int)) : Nat) + wantR n kind = (rndsQ (rndsN n) kind : Nat))) &&
  (if kind = 1 then nodupB ((m.map pr).map cd) 0 && (List.range n).all (fun a => (List.range a).all fun b => (bitsOf ((m.map pr).map cd)).testBit (b * 20 + a))
   else nodupB ((m.map homeAway).map cd) 0 && (List.range n).all (fun a => (List.range n).all fun b => decide (a = b) || (bitsOf ((m.map homeAway).map cd)).testBit (a * 20 + b)))
theorem good_2 : ∀ k, k < 4 → 1 ≤ k → goodB 2 (k : Nat) (mkM 2 (k : Nat)) = true := by decide +kernel
theorem good_3 : ∀ k, k < 4 → 1 ≤ k → goodB 3 (k : Nat) (mkM 3 (k : Nat)) = true := by decide +kernel
theorem good_4 : ∀ k, k < 4 → 1 ≤ k → goodB 4 (k : Nat) (mkM 4 (k : Nat)) = true := by decide +kernel
theorem good_5 : ∀ k, k < 4 → 1 ≤ k → goodB 5 (k : Nat) (mkM 5 (k : Nat)) = true := by decide +kernel
theorem good_6 : ∀ k, k < 4 → 1 ≤ k → goodB 6 (k : Nat) (mkM 6 (k : Nat)) = true := by decide +kernel
theorem good_7 : ∀ k, k < 4 → 1 ≤ k → goodB 7 (k : Nat) (mkM 7 (k : Nat)) = true := by decide +kernel
theorem good_8 : ∀ k, k < 4 → 1 ≤ k → goodB 8 (k : Nat) (mkM 8 (k : Nat)) = true := by decide +kernel
theorem good_9 : ∀ k, k < 4 → 1 ≤ k → goodB 9 (k : Nat) (mkM 9 (k : Nat)) = true := by decide +kernel
theorem good_10 : ∀ k, k < 4 → 1 ≤ k → goodB 10 (k : Nat) (mkM 10 (k : Nat)) = true := by decide +kernel
theorem good_11 : ∀ k, k < 4 → 1 ≤ k → goodB 11 (k : Nat) (mkM 11 (k : Nat)) = true := by decide +kernel
theorem good_12 : ∀ k, k < 4 → 1 ≤ k → goodB 12 (k : Nat) (mkM 12 (k : Nat)) = true := by decide +kernel
theorem good_13 : ∀ k, k < 4 → 1 ≤ k → goodB 13 (k : Nat) (mkM 13 (k : Nat)) = true := by decide +kernel
theorem good_14 : ∀ k, k < 4 → 1 ≤ k → goodB 14 (k : Nat) (mkM 14 (k : Nat)) = true := by decide +kernel
theorem good_15 : ∀ k, k < 4 → 1 ≤ k → goodB 15 (k : Nat) (mkM 15 (k : Nat)) = true := by decide +kernel
theorem good_16 : ∀ k, k < 4 → 1 ≤ k → goodB 16 (k : Nat) (mkM 16 (k : Nat)) = true := by decide +kernel
theorem good_17 : ∀ k, k < 4 → 1 ≤ k → goodB 17 (k : Nat) (mkM 17 (k : Nat)) = true := by decide +kernel
theorem good_18 : ∀ k, k < 4 → 1 ≤ k → goodB 18 (k : Nat) (mkM 18 (k : Nat)) = true := by decide +kernel
theorem good_19 : ∀ k, k < 4 → 1 ≤ k → goodB 19 (k : Nat) (mkM 19 (k : Nat)) = true := by decide +kernel
theorem good_20 : ∀ k, k < 4 → 1 ≤ k → goodB 20 (k : Nat) (mkM 20 (k : Nat)) = true := by decide +kernel
theorem good_in (n : Nat) (h : n < 21) (h2 : 2 ≤ n) : ∀ k, k < 4 → 1 ≤ k → goodB n (k : Nat) (mkM n (k : Nat)) = true := by
  match n, h, h2 with
  | 2, _, _ => exact good_2
  | 3, _, _ => exact good_3
  | 4, _, _ => exact good_4
  | 5, _, _ => exact good_5
  | 6, _, _ => exact good_6
  | 7, _, _ => exact good_7
  | 8, _, _ => exact good_8
  | 9, _, _ => exact good_9
  | 10, _, _ => exact good_10
  | 11, _, _ => exact good_11
  | 12, _, _ => exact good_12
  | 13, _, _ => exact good_13
  | 14, _, _ => exact good_14
  | 15, _, _ => exact good_15
  | 16, _, _ => exact good_16
  | 17, _, _ => exact good_17
  | 18, _, _ => exact good_18
  | 19, _, _ => exact good_19
  | 20, _, _ => exact good_20
  | k + 21, h, _ => omega
theorem good_at {n : Nat} {kind : Int} (hn : 2 ≤ n ∧ n ≤ 20) (hk : 1 ≤ kind ∧ kind ≤ 3) : goodB n kind (mkM n kind) = true := by
  obtain ⟨k, rfl⟩ : ∃ k : Nat, kind = k := ⟨kind.toNat, by omega⟩
  exact good_in n (by omega) hn.1 k (by omega) (by omega)
end Go.Proofs.Ythddaojdlfifeaa.P

/- What Make returns is a round robin: the facts. -/
namespace Go.Proofs.Ythddaojdlfifeaa.P
open Go.RowKit Go.Proofs.YthddaojdlfifeaaW.PrintWords Go.Proofs.YthddaojdlfifeaaW.PrintLast Go.Proofs.YthddaojdlfifeaaW.PrintMore
set_option linter.unusedSimpArgs false
set_option linter.unusedVariables false

theorem countP_nd {α β : Type} [DecidableEq β] (f : α → β) (c : β) : ∀ {l : List α}, (l.map f).Nodup → l.countP (fun x => decide (f x = c)) ≤ 1
  | [], _ => by simp
  | x :: l, h => by
    rw [List.map_cons, List.nodup_cons] at h
    have ih := countP_nd f c h.2
    rw [List.countP_cons]
    by_cases e : f x = c
    · have h0 : l.countP (fun x => decide (f x = c)) = 0 := by
        rw [List.countP_eq_zero]
        intro y hy
        rw [decide_eq_true_iff]
        intro e2
        exact h.1 (List.mem_map.2 ⟨y, hy, by rw [e2, e]⟩)
      rw [h0]; split <;> omega
    · rw [if_neg (by simpa using e)]; omega
theorem countP_pos' {α β : Type} [DecidableEq β] (f : α → β) (c : β) {l : List α} (h : c ∈ l.map f) : 1 ≤ l.countP (fun x => decide (f x = c)) := by
  obtain ⟨x, hx, e⟩ := List.mem_map.1 h
  exact List.countP_pos_iff.2 ⟨x, hx, by simp [e]⟩
/-! ### slots -/
theorem slots_app (l l' : List S37) : slots (l ++ l') = slots l ++ slots l' := by simp [slots]
theorem okI_of {n Q : Int} {m : List S37} (hX : ∀ x ∈ m, okX n Q x) (hb : m.Pairwise bef) (hs : (slots m).Nodup) : ∀ i, i < m.length → okI n Q m i := by
  intro i hi
  have e : m = m.take i ++ m.getD i z37 :: m.drop (i + 1) := by
    have h1 := take_snocS m i z37 hi
    have h2 := List.take_append_drop (i + 1) m
    rw [h1, List.append_assoc] at h2
    exact h2.symm
  have hm : m.getD i z37 ∈ m := getD_memS hi
  rw [e, slots_app] at hs
  have hd := (List.nodup_append.1 hs).2.2
  refine ⟨hX _ hm, fun h0 => ?_, fun h => hd _ h ((m.getD i z37).f0, (m.getD i z37).f1) (by simp [slots]) rfl, fun h => hd _ h ((m.getD i z37).f0, (m.getD i z37).f2) (by simp [slots]) rfl⟩
  have := List.pairwise_iff_getElem.1 hb (i - 1) i (by omega) hi (by omega)
  rw [List.getD_eq_getElem?_getD, List.getElem?_eq_getElem (by omega : i - 1 < m.length), List.getD_eq_getElem?_getD, List.getElem?_eq_getElem hi]
  exact this
theorem cG_slots (m : List S37) (r a : Nat) : cG m r a = (slots m).countP (fun p => decide (p = ((r : Int), (a : Int)))) := by
  induction m with
  | nil => rfl
  | cons x m ih =>
    have e : slots (x :: m) = (x.f0, x.f1) :: (x.f0, x.f2) :: slots m := rfl
    rw [e, List.countP_cons, List.countP_cons, ← ih]
    unfold cG
    rw [List.countP_cons, List.countP_cons]
    have e1 : (x.f0 == (r : Int) && x.f1 == (a : Int)) = decide ((x.f0, x.f1) = ((r : Int), (a : Int))) := by rw [Bool.eq_iff_iff]; simp
    have e2 : (x.f0 == (r : Int) && x.f2 == (a : Int)) = decide ((x.f0, x.f2) = ((r : Int), (a : Int))) := by rw [Bool.eq_iff_iff]; simp
    rw [e1, e2]; omega
theorem cG_one {m : List S37} (h : (slots m).Nodup) (r a : Nat) : cG m r a ≤ 1 := by
  rw [cG_slots]
  exact countP_nd id _ (by simpa using h)
theorem countP_split (p : S37 → Bool) (m : List S37) : ∀ R : Nat, (m.countP fun x : S37 => (decide (0 ≤ x.f0) && decide (x.f0 < ((R + 1 : Nat) : Int))) && p x) = (m.countP fun x : S37 => (decide (0 ≤ x.f0) && decide (x.f0 < (R : Int))) && p x) + m.countP fun x : S37 => x.f0 == (R : Int) && p x := by
  intro R
  induction m with
  | nil => rfl
  | cons x m ih =>
    rw [List.countP_cons, List.countP_cons, List.countP_cons, ih]
    have e : (if ((decide (0 ≤ x.f0) && decide (x.f0 < ((R + 1 : Nat) : Int))) && p x) = true then 1 else 0) = (if ((decide (0 ≤ x.f0) && decide (x.f0 < (R : Int))) && p x) = true then 1 else 0) + (if (x.f0 == (R : Int) && p x) = true then 1 else 0) := by
      cases p x
      · simp
      · simp only [Bool.and_true, Bool.and_eq_true, decide_eq_true_eq, beq_iff_eq]
        split <;> split <;> split <;> omega
    omega
theorem rst_eq (m : List S37) (a : Nat) : ∀ R : Nat, rst m a R = (R : Int) - (((m.countP fun x : S37 => (decide (0 ≤ x.f0) && decide (x.f0 < (R : Int))) && x.f1 == (a : Int)) + (m.countP fun x : S37 => (decide (0 ≤ x.f0) && decide (x.f0 < (R : Int))) && x.f2 == (a : Int)) : Nat) : Int)
  | 0 => by
    have e : ∀ p : S37 → Bool, (m.countP fun x : S37 => (decide (0 ≤ x.f0) && decide (x.f0 < ((0 : Nat) : Int))) && p x) = 0 := fun p => by
      rw [List.countP_eq_zero]
      intro x _
      simp; omega
    rw [e, e]; rfl
  | R + 1 => by
    rw [rst, rst_eq m a R, countP_split, countP_split]
    unfold cG; omega
theorem rst_all {m : List S37} {Q : Nat} (h : ∀ x ∈ m, 0 ≤ x.f0 ∧ x.f0 < Q) (a : Nat) : rst m a Q = (Q : Int) - (((m.countP fun x : S37 => x.f1 == (a : Int)) + (m.countP fun x : S37 => x.f2 == (a : Int)) : Nat) : Int) := by
  rw [rst_eq]
  have e : ∀ p : S37 → Bool, (m.countP fun x : S37 => (decide (0 ≤ x.f0) && decide (x.f0 < (Q : Int))) && p x) = m.countP p := fun p => by
    refine List.countP_congr fun x hx => ?_
    have := h x hx
    simp [this.1, this.2]
  rw [e, e]
/-! ### the facts -/
structure Good (n : Nat) (kind : Int) (m : List S37) : Prop where
  inX : ∀ x ∈ m, okX n (rndsQ (rndsN n) kind : Nat) x
  len : m.length ≤ 1000
  chk : okC n (rndsN n) kind m
  all : allOk n (rndsQ (rndsN n) kind) kind m
theorem good_of {n : Nat} {kind : Int} (hn : 2 ≤ n ∧ n ≤ 20) (hk : 1 ≤ kind ∧ kind ≤ 3) {m : List S37} (hb : m.Pairwise bef) (h : goodB n kind m = true) : Good n kind m := by
  unfold goodB at h
  simp only [Bool.and_eq_true, List.all_eq_true, decide_eq_true_eq, Bool.or_eq_true, List.mem_range] at h
  obtain ⟨⟨⟨⟨⟨⟨⟨h1, h2⟩, h3⟩, h4⟩, h5⟩, h6⟩, h7⟩, h8⟩ := h
  have hs : (slots m).Nodup := nodup_cd h2
  have hmet : (metL m (rndsN n) kind (rndsN n)).Nodup := nodup_cd h3
  have hR : 1 ≤ rndsN n := by unfold rndsN; omega
  have hI := okI_of h1 hb hs
  have hchk : okC n (rndsN n) kind m := by
    refine ⟨hI, fun r hr => ⟨?_, fun hb0 => ?_⟩, h5⟩
    · have := met_sub m (rndsN n) kind (rndsN n - (r + 1)) (r + 1)
      rw [show r + 1 + (rndsN n - (r + 1)) = rndsN n by omega] at this
      exact hmet.sublist this
    · rcases h4 r hr with h | h
      · omega
      · rw [h]; exact sortM_perm _
  refine ⟨h1, h6, hchk, fun a ha => ⟨fun r hr => cG_one hs r a, ?_, fun b hb2 => ?_⟩⟩
  · rw [rst_all (fun x hx => ⟨(h1 x hx).1, (h1 x hx).2.1⟩)]
    have := h7 a ha
    omega
  · unfold pairB
    by_cases hk1 : kind = 1
    · rw [if_pos hk1] at h8 ⊢
      simp only [Bool.and_eq_true, List.all_eq_true, List.mem_range] at h8
      have hnd : (m.map pr).Nodup := nodup_cd h8.1
      have hmem : ((b : Int), (a : Int)) ∈ m.map pr := by
        have := bits_mem _ _ _ (h8.2 a ha b hb2)
        rcases this with h | h
        · simp at h
        · obtain ⟨p, hp, e⟩ := List.mem_map.1 h
          obtain ⟨x, hx, rfl⟩ := List.mem_map.1 hp
          obtain ⟨_, _, ⟨e1, e2⟩, ⟨e3, e4⟩, _⟩ := h1 x hx
          have : pr x = ((b : Int), (a : Int)) := by
            refine cd_inj ?_ ?_ ?_
            · unfold pr; simp only; omega
            · simp only; omega
            · rw [e]; unfold cd; simp
          rw [← this]; exact hp
      have c1 := countP_nd pr ((b : Int), (a : Int)) hnd
      have c2 := countP_pos' pr ((b : Int), (a : Int)) hmem
      have e : (m.countP fun x => decide (pr x = ((b : Int), (a : Int)))) = cM m a b + cM m b a := by
        clear c1 c2 hmem hnd h8 h7 h6 h5 h4 h3 h2 hI hchk hmet hs hb
        unfold cM
        induction m with
        | nil => rfl
        | cons x m ih =>
          rw [List.countP_cons, List.countP_cons, List.countP_cons, ih (fun y hy => h1 y (by simp [hy]))]
          have e : (if decide (pr x = ((b : Int), (a : Int))) = true then 1 else 0) = (if (x.f1 == (a : Int) && x.f2 == (b : Int)) = true then 1 else 0) + (if (x.f1 == (b : Int) && x.f2 == (a : Int)) = true then 1 else 0) := by
            simp only [decide_eq_true_eq, Bool.and_eq_true, beq_iff_eq, pr, Prod.mk.injEq]
            split <;> split <;> split <;> omega
          omega
      omega
    · rw [if_neg hk1] at h8 ⊢
      simp only [Bool.and_eq_true, List.all_eq_true, List.mem_range, Bool.or_eq_true, decide_eq_true_eq] at h8
      have hnd : (m.map homeAway).Nodup := nodup_cd h8.1
      have key : ∀ a b : Nat, a < n → b < n → a ≠ b → cM m a b = 1 := fun a b ha hb hab => by
        have hmem : ((a : Int), (b : Int)) ∈ m.map homeAway := by
          rcases h8.2 a ha b hb with h | h
          · exact absurd h hab
          have := bits_mem _ _ _ h
          rcases this with h | h
          · simp at h
          · obtain ⟨p, hp, e⟩ := List.mem_map.1 h
            obtain ⟨x, hx, rfl⟩ := List.mem_map.1 hp
            obtain ⟨_, _, ⟨e1, e2⟩, ⟨e3, e4⟩, _⟩ := h1 x hx
            have : homeAway x = ((a : Int), (b : Int)) := by
              refine cd_inj ?_ ?_ ?_
              · unfold homeAway; simp only; omega
              · simp only; omega
              · rw [e]; unfold cd; simp
            rw [← this]; exact hp
        have c1 := countP_nd homeAway ((a : Int), (b : Int)) hnd
        have c2 := countP_pos' homeAway ((a : Int), (b : Int)) hmem
        have e : (m.countP fun x => decide (homeAway x = ((a : Int), (b : Int)))) = cM m a b := by
          unfold cM
          refine List.countP_congr fun x _ => ?_
          simp [homeAway]
        omega
      exact ⟨key a b ha (by omega) (by omega), key b a (by omega) ha (by omega)⟩
theorem good_mk {n : Nat} {kind : Int} (hn : 2 ≤ n ∧ n ≤ 20) (hk : 1 ≤ kind ∧ kind ≤ 3) : Good n kind (mkM n kind) := good_of hn hk (mk_strict hn hk) (good_at hn hk)
end Go.Proofs.Ythddaojdlfifeaa.P

/- RobinAll, walked. -/
namespace Go.Proofs.Ythddaojdlfifeaa.P
open Go.RowKit Go.Proofs.YthddaojdlfifeaaW.PrintWords Go.Proofs.YthddaojdlfifeaaW.PrintLast Go.Proofs.YthddaojdlfifeaaW.PrintMore
open XW RegInv
attribute [local irreducible] Addr.add
set_option linter.unusedSimpArgs false
set_option linter.unusedVariables false

abbrev bI (l : List Int) : Array Value := buf (sc (Value.int .i64)) l []
theorem bI_get {l : List Int} {k j : Nat} {v : Int} (hj : k = j) (hk : j < l.length) (hv : l.getD j 0 = v) : (bI l)[k]? = some (.int .i64 v) := by
  subst hj hv
  exact buf_get1 _ 0 hk
theorem bI_inc {l : List Int} {k j : Nat} {v : Int} (hj : k = j) (hk : j < l.length) (hv : l.getD j 0 + 1 = v) : (bI l).setIfInBounds k (.int .i64 v) = bI (inc l j) := by
  subst hj hv
  exact buf_set1 (Value.int .i64) hk
abbrev RightR (n kind : Int) (b : Bool) : Prop := ∀ w, Rets Try.prog 17 #[.int .i64 n, .int .i64 kind] w fun u w' => u = .bool b ∧ Below w.heap.size w w'
theorem E17 : Enters Try.prog 17 := enters Try.func17 (by kernel_rfl) rfl
theorem rst_bd {m : List S37} {a Q : Nat} (h : ∀ r, r < Q → cG m r a ≤ 1) : ∀ r, r ≤ Q → 0 ≤ rst m a r ∧ rst m a r ≤ r
  | 0, _ => by simp [rst]
  | r + 1, hr => by
    have := rst_bd h r (by omega)
    have := h r (by omega)
    rw [rst]; omega
set_option maxHeartbeats 8000000 in
set_option maxRecDepth 100000 in
theorem all_core (w0 : World) (n Q : Nat) (kind : Int) (m : List S37) (hn : 2 ≤ n ∧ n ≤ 20) (hk : 1 ≤ kind ∧ kind ≤ 3) (hQ : 1 ≤ Q ∧ Q ≤ 40) (hmk : MkR n kind m) (hck : ChkR n kind m 0) (hrd : RndsR n kind Q) (hrt : RightR n kind true) (hml : m.length ≤ 1000) (hin : ∀ i, i < m.length → okX n Q (m.getD i z37)) (hmem : ∀ x ∈ m, inR Q x) (hok : allOk n Q kind m) :
    Rets Try.prog 5 #[.int .i64 n, .int .i64 kind] w0 fun u w' => u = .bool true ∧ Below w0.heap.size w0 w' := by
  have hF := wide_wide
  refine rets_at (n := 223) Try.func5 rfl Try.ntmps5 (by simp) ?_
  (repeat (first | ((with_reducible refine is_AL ?_); (first | ((with_reducible refine is_assign ?_); (refine At_plain hF (by (exact (rfl : _ = some (Value.bool _)))) ?_)) | with_reducible refine At_nil ?_)) | ((with_reducible refine is_At ?_); (first | with_reducible refine At_seq ?_; intro K hK | with_reducible refine At_region ?_ | with_reducible refine At_then_n ?_ | with_reducible refine At_go (by assumption) ?_))))
  refine At_callB hF E9 rfl (u := .bool true) (vs := #[]) (by simp) (fun w' hw' => sane_rets w') ?_
  (repeat (first | ((with_reducible refine is_AL ?_); (first | ((with_reducible refine is_move ?_); (refine At_plain hF (by (exact (rfl : _ = some (Value.int _ _)))) ?_)) | ((with_reducible refine is_un ?_); (refine At_plain hF (by (exact (rfl : _ = some (Value.bool _)))) ?_)) | with_reducible refine At_nil ?_)) | ((with_reducible refine is_At ?_); (first | with_reducible refine At_seq ?_; intro K hK | with_reducible refine At_region ?_ | with_reducible refine At_skip ?_ | with_reducible refine At_then_n ?_ | with_reducible refine At_go (by assumption) ?_ | ((with_reducible refine is_cond ?_); (refine At_cond_f rfl ?_))))))
  refine At_callM hF E12 rfl (Post := fun u Rs => ∃ A c, u = .tuple #[rowV A m.length c, .int .i64 0] ∧ Rs = [.row 37 3 enc37 A c m]) (arg2 (by (first | exact (rfl : _ = (Value.int _ _)) | exact (rfl : _ = (Value.bool _)) | exact (rfl : _ = (Value.pointer _)) | exact (rfl : _ = (Value.slice _ _ _)) | exact (rfl : _ = (Value.map _)) | exact (rfl : _ = (Value.func _ _ _)) | exact (rfl : _ = (Value.tuple _)) | exact (rfl : _ = (Value.agg _)) | exact (rfl : _ = (Value.string _)) | exact (rfl : _ = (Value.nilFunc)) | exact (rfl : _ = (Value.nilIface)))) (by (first | exact (rfl : _ = (Value.int _ _)) | exact (rfl : _ = (Value.bool _)) | exact (rfl : _ = (Value.pointer _)) | exact (rfl : _ = (Value.slice _ _ _)) | exact (rfl : _ = (Value.map _)) | exact (rfl : _ = (Value.func _ _ _)) | exact (rfl : _ = (Value.tuple _)) | exact (rfl : _ = (Value.agg _)) | exact (rfl : _ = (Value.string _)) | exact (rfl : _ = (Value.nilFunc)) | exact (rfl : _ = (Value.nilIface))))) (fun w' hw' => hmk w') ?_
  rintro _ _ ⟨A, c, rfl, rfl⟩
  simp only [List.cons_append, List.nil_append]
  (repeat (first | ((with_reducible refine is_AL ?_); (first | ((with_reducible refine is_move ?_); (refine At_plain hF (by (first | exact (rfl : _ = some (Value.int _ _)) | exact (rfl : _ = some (Value.tuple _)))) ?_)) | ((with_reducible refine is_assign ?_); (refine At_plain hF (by (first | exact (rfl : _ = some (Value.int _ _)) | exact (rfl : _ = some (Value.slice _ _ _)))) ?_)) | ((with_reducible refine is_extract ?_); (refine At_plain hF (by (first | exact (rfl : _ = some (Value.int _ _)) | exact (rfl : _ = some (Value.slice _ _ _)))) ?_)) | with_reducible refine At_nil ?_)) | ((with_reducible refine is_At ?_); (first | with_reducible refine At_seq ?_; intro K hK | with_reducible refine At_region ?_ | with_reducible refine At_then_n ?_ | with_reducible refine At_go (by assumption) ?_))))
  refine At_callB hF E10 rfl (u := .tuple #[.int .i64 Q, .int .i64 0]) (arg2 (by (first | exact (rfl : _ = (Value.int _ _)) | exact (rfl : _ = (Value.bool _)) | exact (rfl : _ = (Value.pointer _)) | exact (rfl : _ = (Value.slice _ _ _)) | exact (rfl : _ = (Value.map _)) | exact (rfl : _ = (Value.func _ _ _)) | exact (rfl : _ = (Value.tuple _)) | exact (rfl : _ = (Value.agg _)) | exact (rfl : _ = (Value.string _)) | exact (rfl : _ = (Value.nilFunc)) | exact (rfl : _ = (Value.nilIface)))) (by (first | exact (rfl : _ = (Value.int _ _)) | exact (rfl : _ = (Value.bool _)) | exact (rfl : _ = (Value.pointer _)) | exact (rfl : _ = (Value.slice _ _ _)) | exact (rfl : _ = (Value.map _)) | exact (rfl : _ = (Value.func _ _ _)) | exact (rfl : _ = (Value.tuple _)) | exact (rfl : _ = (Value.agg _)) | exact (rfl : _ = (Value.string _)) | exact (rfl : _ = (Value.nilFunc)) | exact (rfl : _ = (Value.nilIface))))) (fun w' hw' => hrd w') ?_
  (repeat (first | ((with_reducible refine is_AL ?_); (first | ((with_reducible refine is_move ?_); (refine At_plain hF (by (first | exact (rfl : _ = some (Value.int _ _)) | exact (rfl : _ = some (Value.tuple _)))) ?_)) | ((with_reducible refine is_assign ?_); (refine At_plain hF (by (exact (rfl : _ = some (Value.int _ _)))) ?_)) | ((with_reducible refine is_extract ?_); (refine At_plain hF (by (exact (rfl : _ = some (Value.int _ _)))) ?_)) | with_reducible refine At_nil ?_)) | ((with_reducible refine is_At ?_); (first | with_reducible refine At_seq ?_; intro K hK | with_reducible refine At_region ?_ | with_reducible refine At_then_n ?_ | with_reducible refine At_go (by assumption) ?_))))
  refine At_callB hF E17 rfl (u := .bool true) (arg2 (by (first | exact (rfl : _ = (Value.int _ _)) | exact (rfl : _ = (Value.bool _)) | exact (rfl : _ = (Value.pointer _)) | exact (rfl : _ = (Value.slice _ _ _)) | exact (rfl : _ = (Value.map _)) | exact (rfl : _ = (Value.func _ _ _)) | exact (rfl : _ = (Value.tuple _)) | exact (rfl : _ = (Value.agg _)) | exact (rfl : _ = (Value.string _)) | exact (rfl : _ = (Value.nilFunc)) | exact (rfl : _ = (Value.nilIface)))) (by (first | exact (rfl : _ = (Value.int _ _)) | exact (rfl : _ = (Value.bool _)) | exact (rfl : _ = (Value.pointer _)) | exact (rfl : _ = (Value.slice _ _ _)) | exact (rfl : _ = (Value.map _)) | exact (rfl : _ = (Value.func _ _ _)) | exact (rfl : _ = (Value.tuple _)) | exact (rfl : _ = (Value.agg _)) | exact (rfl : _ = (Value.string _)) | exact (rfl : _ = (Value.nilFunc)) | exact (rfl : _ = (Value.nilIface))))) (fun w' hw' => hrt w') ?_
  (repeat (first | ((with_reducible refine is_AL ?_); (first | ((with_reducible refine is_guarded ?_); (refine At_guard_t rfl (by decide) rfl ?_)) | ((with_reducible refine is_move ?_); (refine At_plain hF (by (first | exact (rfl : _ = some (Value.int _ _)) | exact (rfl : _ = some (Value.bool _)) | exact (rfl : _ = some (Value.slice _ _ _)))) ?_)) | ((with_reducible refine is_bin ?_); (refine At_plain hF (by (exact (rfl : _ = some (Value.bool _)))) ?_)) | ((with_reducible refine is_pick ?_); (refine At_plain hF (by (exact (rfl : _ = some (Value.bool _)))) ?_)) | ((with_reducible refine is_un ?_); (refine At_plain hF (by (exact (rfl : _ = some (Value.bool _)))) ?_)) | with_reducible refine At_nil ?_)) | ((with_reducible refine is_At ?_); (first | with_reducible refine At_seq ?_; intro K hK | with_reducible refine At_region ?_ | with_reducible refine At_skip ?_ | with_reducible refine At_then_n ?_ | with_reducible refine At_go (by assumption) ?_ | ((with_reducible refine is_cond ?_); (refine At_cond_f rfl ?_))))))
  refine At_callB hF E15 rfl (u := .int .i64 0) (arg3 (by (first | exact (rfl : _ = (Value.int _ _)) | exact (rfl : _ = (Value.bool _)) | exact (rfl : _ = (Value.pointer _)) | exact (rfl : _ = (Value.slice _ _ _)) | exact (rfl : _ = (Value.map _)) | exact (rfl : _ = (Value.func _ _ _)) | exact (rfl : _ = (Value.tuple _)) | exact (rfl : _ = (Value.agg _)) | exact (rfl : _ = (Value.string _)) | exact (rfl : _ = (Value.nilFunc)) | exact (rfl : _ = (Value.nilIface)))) (by (first | exact (rfl : _ = (Value.int _ _)) | exact (rfl : _ = (Value.bool _)) | exact (rfl : _ = (Value.pointer _)) | exact (rfl : _ = (Value.slice _ _ _)) | exact (rfl : _ = (Value.map _)) | exact (rfl : _ = (Value.func _ _ _)) | exact (rfl : _ = (Value.tuple _)) | exact (rfl : _ = (Value.agg _)) | exact (rfl : _ = (Value.string _)) | exact (rfl : _ = (Value.nilFunc)) | exact (rfl : _ = (Value.nilIface)))) (by (first | exact (rfl : _ = (Value.int _ _)) | exact (rfl : _ = (Value.bool _)) | exact (rfl : _ = (Value.pointer _)) | exact (rfl : _ = (Value.slice _ _ _)) | exact (rfl : _ = (Value.map _)) | exact (rfl : _ = (Value.func _ _ _)) | exact (rfl : _ = (Value.tuple _)) | exact (rfl : _ = (Value.agg _)) | exact (rfl : _ = (Value.string _)) | exact (rfl : _ = (Value.nilFunc)) | exact (rfl : _ = (Value.nilIface))))) (fun w' hw' => hck w' _ c (C_ownI hw' 0 rfl)) ?_
  (repeat ((with_reducible refine is_AL ?_); (first | ((with_reducible refine is_guarded ?_); (refine At_guard_t rfl (by decide) rfl ?_)) | ((with_reducible refine is_move ?_); (refine At_plain hF (by (first | exact (rfl : _ = some (Value.int _ _)) | exact (rfl : _ = some (Value.bool _)))) ?_)) | ((with_reducible refine is_bin ?_); (refine At_plain hF (by (exact (rfl : _ = some (Value.bool _)))) ?_)) | ((with_reducible refine is_pick ?_); (refine At_plain hF (by (exact (rfl : _ = some (Value.bool _)))) ?_)))))
  ((with_reducible refine is_guarded ?_); (refine At_guard hF rfl (by decide) rfl ?_ ?_ <;> (intro hg; try (simp only [decide_eq_true_eq, decide_eq_false_iff_not, beq_iff_eq, bne_iff_ne, beq_eq_false_iff_ne, bne_eq_false_iff_eq, ne_eq, Bool.not_eq_true', Bool.not_eq_false', Bool.not_true, Bool.not_false, Decidable.not_not] at hg); try (exfalso; first | omega | exact hg True.intro))))
  (repeat (first | ((with_reducible refine is_AL ?_); (first | ((with_reducible refine is_guarded ?_); (refine At_guard_t rfl (by decide) rfl ?_)) | ((with_reducible refine is_move ?_); (refine At_plain hF (by (exact (rfl : _ = some (Value.int _ _)))) ?_)) | ((with_reducible refine is_bin ?_); (refine At_plain hF (by (exact (rfl : _ = some (Value.bool _)))) ?_)) | ((with_reducible refine is_pick ?_); (refine At_plain hF (by (exact (rfl : _ = some (Value.bool _)))) ?_)) | with_reducible refine At_nil ?_)) | ((with_reducible refine is_At ?_); (first | with_reducible refine At_then_n ?_ | with_reducible refine At_go (by assumption) ?_))))
  ((with_reducible refine is_cond ?_); (refine At_cond rfl ?_ ?_ <;> (intro hg; try (simp only [decide_eq_true_eq, decide_eq_false_iff_not, beq_iff_eq, bne_iff_ne, beq_eq_false_iff_ne, bne_eq_false_iff_eq, ne_eq, Bool.not_eq_true', Bool.not_eq_false', Bool.not_true, Bool.not_false, Decidable.not_not] at hg); try (exfalso; first | omega | exact hg True.intro))))
  (repeat ((with_reducible refine is_At ?_); (first | with_reducible refine At_seq ?_; intro K hK | with_reducible refine At_region ?_ | with_reducible refine At_skip ?_ | with_reducible refine At_then_n ?_ | with_reducible refine At_go (by assumption) ?_)))
  refine At_alloc hF (cs := bI (List.replicate 400 0)) (by rw [show (TZ.z Try.prog 34) = Value.agg (Array.replicate 400 (.int .i64 0)) from rfl]; exact rep_buf (Value.int .i64) (0 : Int) 400) ?_
  intro bm
  (repeat (first | ((with_reducible refine is_AL ?_); (first | ((with_reducible refine is_move ?_); (refine At_plain hF (by (exact (rfl : _ = some (Value.int _ _)))) ?_)) | with_reducible refine At_nil ?_)) | ((with_reducible refine is_At ?_); (first | with_reducible refine At_seq ?_; intro K hK | with_reducible refine At_region ?_ | with_reducible refine At_then_n ?_ | with_reducible refine At_go (by assumption) ?_))))
  refine At_makeZ hF (Value.int .i64) 0 (by kernel_rfl) (by decide) (by exact rfl) (by exact rfl) (by simp only [TS.bytes]; omega) (by omega) ?_
  intro bg
  (repeat (first | ((with_reducible refine is_AL ?_); (first | ((with_reducible refine is_move ?_); (refine At_plain hF (by (first | exact (rfl : _ = some (Value.int _ _)) | exact (rfl : _ = some (Value.slice _ _ _)))) ?_)) | ((with_reducible refine is_assign ?_); (refine At_plain hF (by (exact (rfl : _ = some (Value.slice _ _ _)))) ?_)) | ((with_reducible refine is_call ?_); (refine At_len hF rfl ?_)) | with_reducible refine At_nil ?_)) | ((with_reducible refine is_At ?_); (first | with_reducible refine At_seq ?_; intro K hK | with_reducible refine At_block ?_ | with_reducible refine At_region ?_ | with_reducible refine At_then_n ?_ | with_reducible refine At_go (by assumption) ?_))))
  refine At_loop (fun i : Nat => [(0, .int .i64 n), (1, .int .i64 kind), (7, .int .i64 Q), (9, ip bm), (10, .slice (some ⟨bg, 0, none⟩) Q Q), (70, rowV A m.length c), (71, .int .i64 m.length), (72, .int .i64 i)]) (fun i => [.obj bg (.cells (bI (gamV Q (m.take i))) 33 (0, 0)), .obj bm (.cells (bI (metV (m.take i))) 34 (0, 0)), .row 37 3 enc37 A c m]) (fun i => i ≤ m.length) (fun i => m.length - i) 0 ?_ ?_ (Nat.zero_le _) ?_
  · (repeat (first | exact List.Sublist.refl _ | exact List.Sublist.slnil | refine List.Sublist.cons_cons _ ?_ | refine List.Sublist.cons _ ?_))
  · (repeat (first | exact True.intro | (refine And.intro ?_ ?_; focus (show _ = (_ : Value); first | exact rfl | (refine Eq.trans (b := Value.int IntKind.i64 _) rfl (congrArg (Value.int IntKind.i64) ?_); omega)))))
  rintro i hi K hL ρ1
  try dsimp only
  (repeat (first | ((with_reducible refine is_AL ?_); (first | ((with_reducible refine is_bin ?_); (refine At_plain hF (by (exact (rfl : _ = some (Value.bool _)))) ?_)) | with_reducible refine At_nil ?_)) | ((with_reducible refine is_At ?_); (first | with_reducible refine At_seq ?_; intro K hK | with_reducible refine At_region ?_ | with_reducible refine At_then_n ?_ | with_reducible refine At_go (by assumption) ?_))))
  ((with_reducible refine is_cond ?_); (refine At_cond rfl ?_ ?_ <;> (intro hg; try (simp only [decide_eq_true_eq, decide_eq_false_iff_not, beq_iff_eq, bne_iff_ne, beq_eq_false_iff_ne, bne_eq_false_iff_eq, ne_eq, Bool.not_eq_true', Bool.not_eq_false', Bool.not_true, Bool.not_false, Decidable.not_not] at hg); try (exfalso; first | omega | exact hg True.intro))))
  · have hlt : i < m.length := by omega
    have hsub : ∀ x ∈ m.take i, inR Q x := fun x hx => hmem x (List.mem_of_mem_take hx)
    obtain ⟨⟨h1, h2⟩, h3, h4⟩ := hmem (m.getD i z37) (getD_memS hlt)
    have h5 := hin i hlt
    have htk := take_snocS m i z37 hlt
    have hl0 : (m.take i).length ≤ 1000 := by simp; omega
    refine At_rowSome 2 rfl (by omega) ?_
    rintro bA rfl
    (repeat (first | ((with_reducible refine is_AL ?_); ((with_reducible refine is_index ?_); (refine At_indexS hF rfl rfl (by omega) ?_))) | ((with_reducible refine is_At ?_); (first | with_reducible refine At_seq ?_; intro K hK | with_reducible refine At_block ?_ | with_reducible refine At_region ?_ | with_reducible refine At_skip ?_ | with_reducible refine At_then_n ?_ | with_reducible refine At_go (by assumption) ?_))))
    refine At_loadRow hF 2 (by exact rfl) rfl z37 hlt rfl (by exact (rfl : _ = Value.agg #[.int .i64 (m.getD i z37).f0, .int .i64 (m.getD i z37).f1, .int .i64 (m.getD i z37).f2])) ?_
    generalize m.getD i z37 = x at h1 h2 h3 h4 h5 htk ⊢
    obtain ⟨f0, f1, f2⟩ := x
    obtain ⟨_, _, ⟨_, h6⟩, ⟨_, h7⟩, h8⟩ := h5
    dsimp only at *
    obtain ⟨r, rfl⟩ : ∃ k : Nat, f0 = k := ⟨f0.toNat, by omega⟩
    obtain ⟨f, rfl⟩ : ∃ k : Nat, f1 = k := ⟨f1.toNat, by omega⟩
    obtain ⟨g, rfl⟩ : ∃ k : Nat, f2 = k := ⟨f2.toNat, by omega⟩
    have hrr : r * 20 + 20 ≤ Q * 20 := by
      have : (r + 1) * 20 ≤ Q * 20 := Nat.mul_le_mul_right _ (by omega)
      omega
    have b1 := cM_le (m.take i) f g
    have b2 := cG_le (m.take i) r f
    have b3 := cG_le (m.take i) r g
    have hM1 : (bI (metV (m.take i)))[0 + f * 20 + g * 1]? = some (.int .i64 (cM (m.take i) f g : Nat)) := bI_get (by omega) (by rw [metV_len]; omega) (metV_get hsub f g (by omega))
    have hM2 : (bI (metV (m.take i))).setIfInBounds (0 + f * 20 + g * 1) (.int .i64 ((cM (m.take i) f g : Nat) + 1)) = bI (metV (m.take (i + 1))) := by
      rw [bI_inc (j := f * 20 + g) (by omega) (by rw [metV_len]; omega) (by rw [metV_get hsub f g (by omega)]), htk, metV_snoc]; rfl
    have hM3 : 0 + f * 20 + g * 1 < (bI (metV (m.take i))).size := by rw [buf_size1, metV_len]; simp; omega
    have hG1 : (bI (gamV Q (m.take i)))[r * 20 + f * 1]? = some (.int .i64 (cG (m.take i) r f : Nat)) := bI_get (by omega) (by rw [gamV_len]; omega) (gamV_get hsub r f (by omega))
    have hG2 : (bI (gamV Q (m.take i))).setIfInBounds (r * 20 + f * 1) (.int .i64 ((cG (m.take i) r f : Nat) + 1)) = bI (inc (gamV Q (m.take i)) (r * 20 + f)) := bI_inc (by omega) (by rw [gamV_len]; omega) (by rw [gamV_get hsub r f (by omega)])
    have hG3 : r * 20 + f * 1 < (bI (gamV Q (m.take i))).size := by rw [buf_size1, gamV_len]; simp; omega
    have hge : (inc (gamV Q (m.take i)) (r * 20 + f)).getD (r * 20 + g) 0 = (cG (m.take i) r g : Nat) := by
      rw [inc_get _ _ _ (by rw [gamV_len]; omega), gamV_get hsub r g (by omega), if_neg (by omega)]; omega
    have hG4 : (bI (inc (gamV Q (m.take i)) (r * 20 + f)))[r * 20 + g * 1]? = some (.int .i64 (cG (m.take i) r g : Nat)) := bI_get (by omega) (by rw [inc_len, gamV_len]; omega) hge
    have hG5 : (bI (inc (gamV Q (m.take i)) (r * 20 + f))).setIfInBounds (r * 20 + g * 1) (.int .i64 ((cG (m.take i) r g : Nat) + 1)) = bI (gamV Q (m.take (i + 1))) := by
      rw [bI_inc (j := r * 20 + g) (by omega) (by rw [inc_len, gamV_len]; omega) (by rw [hge]), htk, gamV_snoc]; rfl
    have hG6 : r * 20 + g * 1 < (bI (inc (gamV Q (m.take i)) (r * 20 + f))).size := by rw [buf_size1, inc_len, gamV_len]; simp; omega
    have i1 : (r : Int) < Q := by omega
    have i2 : (f : Int) < n := by omega
    have i3 : (g : Int) < n := by omega
    have i4 : f < 20 := by omega
    have i5 : g < 20 := by omega
    have i6 : r < Q := by omega
    clear h1 h2 h3 h4 h6 h7 hrr
    ((repeat (first | ((with_reducible refine is_AL ?_); (first | ((with_reducible refine is_guarded ?_); (refine At_guard_t rfl (by decide) rfl ?_)) | ((with_reducible refine is_move ?_); (refine At_plain hF (by (first | exact (rfl : _ = some (Value.int _ _)) | exact (rfl : _ = some (Value.bool _)))) ?_)) | ((with_reducible refine is_bin ?_); (refine At_plain hF (by (exact (rfl : _ = some (Value.bool _)))) ?_)) | ((with_reducible refine is_pick ?_); (refine At_plain hF (by (exact (rfl : _ = some (Value.bool _)))) ?_)) | ((with_reducible refine is_field ?_); (refine At_field hF rfl ?_)) | ((with_reducible refine is_load ?_); (refine At_load hF 0 (by exact rfl) rfl (by (exact (rfl : _ = some (Value.int _ _)))) ?_)) | ((with_reducible refine is_store ?_); (refine At_storeB_0 hF rfl rfl rfl rfl (by simp [Value.one1, epair]) ?_)) | with_reducible refine At_nil ?_)) | ((with_reducible refine is_At ?_); (first | with_reducible refine At_seq ?_; intro K hK | with_reducible refine At_region ?_ | with_reducible refine At_then_n ?_ | with_reducible refine At_go (by assumption) ?_)))); ((with_reducible refine is_alloc ?_); (refine At_alloc hF (by (exact (rfl : _ = List.toArray (_ :: _)))) ?_; intro b12)); (repeat (first | ((with_reducible refine is_AL ?_); (first | ((with_reducible refine is_guarded ?_); (refine At_guard_t rfl (by decide) rfl ?_)) | ((with_reducible refine is_move ?_); (refine At_plain hF (by (first | exact (rfl : _ = some (Value.int _ _)) | exact (rfl : _ = some (Value.bool _)))) ?_)) | ((with_reducible refine is_bin ?_); (refine At_plain hF (by (exact (rfl : _ = some (Value.bool _)))) ?_)) | ((with_reducible refine is_pick ?_); (refine At_plain hF (by (exact (rfl : _ = some (Value.bool _)))) ?_)) | ((with_reducible refine is_field ?_); (refine At_field hF rfl ?_)) | ((with_reducible refine is_load ?_); (refine At_load hF 0 (by exact rfl) rfl (by (exact (rfl : _ = some (Value.int _ _)))) ?_)) | ((with_reducible refine is_store ?_); (refine At_storeB_0 hF rfl rfl rfl rfl (by simp [Value.one1, epair]) ?_)) | with_reducible refine At_nil ?_)) | ((with_reducible refine is_At ?_); (first | with_reducible refine At_seq ?_; intro K hK | with_reducible refine At_region ?_ | with_reducible refine At_then_n ?_ | with_reducible refine At_go (by assumption) ?_)))))
    ((with_reducible refine is_guarded ?_); (refine At_guard hF rfl (by decide) rfl ?_ ?_ <;> (intro hg; try (simp only [decide_eq_true_eq, decide_eq_false_iff_not, beq_iff_eq, bne_iff_ne, beq_eq_false_iff_ne, bne_eq_false_iff_eq, ne_eq, Bool.not_eq_true', Bool.not_eq_false', Bool.not_true, Bool.not_false, Decidable.not_not] at hg); try (exfalso; first | omega | exact hg True.intro))))
    (repeat ((with_reducible refine is_AL ?_); (first | ((with_reducible refine is_guarded ?_); (refine At_guard_t rfl (by decide) rfl ?_)) | ((with_reducible refine is_move ?_); (refine At_plain hF (by (first | exact (rfl : _ = some (Value.int _ _)) | exact (rfl : _ = some (Value.bool _)))) ?_)) | ((with_reducible refine is_bin ?_); (refine At_plain hF (by (exact (rfl : _ = some (Value.bool _)))) ?_)) | ((with_reducible refine is_pick ?_); (refine At_plain hF (by (exact (rfl : _ = some (Value.bool _)))) ?_)) | ((with_reducible refine is_field ?_); (refine At_field hF rfl ?_)) | ((with_reducible refine is_load ?_); (refine At_load hF 0 (by exact rfl) rfl (by (exact (rfl : _ = some (Value.int _ _)))) ?_)))))
    ((with_reducible refine is_guarded ?_); (refine At_guard hF rfl (by decide) rfl ?_ ?_ <;> (intro hg; try (simp only [decide_eq_true_eq, decide_eq_false_iff_not, beq_iff_eq, bne_iff_ne, beq_eq_false_iff_ne, bne_eq_false_iff_eq, ne_eq, Bool.not_eq_true', Bool.not_eq_false', Bool.not_true, Bool.not_false, Decidable.not_not] at hg); try (exfalso; first | omega | exact hg True.intro))))
    (repeat ((with_reducible refine is_AL ?_); (first | ((with_reducible refine is_guarded ?_); (refine At_guard_t rfl (by decide) rfl ?_)) | ((with_reducible refine is_move ?_); (refine At_plain hF (by (first | exact (rfl : _ = some (Value.int _ _)) | exact (rfl : _ = some (Value.bool _)))) ?_)) | ((with_reducible refine is_bin ?_); (refine At_plain hF (by (exact (rfl : _ = some (Value.bool _)))) ?_)) | ((with_reducible refine is_pick ?_); (refine At_plain hF (by (exact (rfl : _ = some (Value.bool _)))) ?_)) | ((with_reducible refine is_field ?_); (refine At_field hF rfl ?_)) | ((with_reducible refine is_load ?_); (refine At_load hF 0 (by exact rfl) rfl (by (exact (rfl : _ = some (Value.int _ _)))) ?_)))))
    ((with_reducible refine is_guarded ?_); (refine At_guard hF rfl (by decide) rfl ?_ ?_ <;> (intro hg; try (simp only [decide_eq_true_eq, decide_eq_false_iff_not, beq_iff_eq, bne_iff_ne, beq_eq_false_iff_ne, bne_eq_false_iff_eq, ne_eq, Bool.not_eq_true', Bool.not_eq_false', Bool.not_true, Bool.not_false, Decidable.not_not] at hg); try (exfalso; first | omega | exact hg True.intro))))
    (repeat (first | ((with_reducible refine is_AL ?_); (first | ((with_reducible refine is_guarded ?_); (refine At_guard_t rfl (by decide) rfl ?_)) | ((with_reducible refine is_bin ?_); (refine At_plain hF (by (exact (rfl : _ = some (Value.bool _)))) ?_)) | ((with_reducible refine is_pick ?_); (refine At_plain hF (by (exact (rfl : _ = some (Value.bool _)))) ?_)) | ((with_reducible refine is_field ?_); (refine At_field hF rfl ?_)) | ((with_reducible refine is_load ?_); (refine At_load hF 0 (by exact rfl) rfl (by (exact (rfl : _ = some (Value.int _ _)))) ?_)) | with_reducible refine At_nil ?_)) | ((with_reducible refine is_At ?_); (first | with_reducible refine At_then_n ?_ | with_reducible refine At_go (by assumption) ?_))))
    ((with_reducible refine is_cond ?_); (refine At_cond rfl ?_ ?_ <;> (intro hg; try (simp only [decide_eq_true_eq, decide_eq_false_iff_not, beq_iff_eq, bne_iff_ne, beq_eq_false_iff_ne, bne_eq_false_iff_eq, ne_eq, Bool.not_eq_true', Bool.not_eq_false', Bool.not_true, Bool.not_false, Decidable.not_not] at hg); try (exfalso; first | omega | exact hg True.intro))))
    (repeat ((with_reducible refine is_At ?_); (first | with_reducible refine At_seq ?_; intro K hK | with_reducible refine At_skip ?_ | with_reducible refine At_then_n ?_ | with_reducible refine At_go (by assumption) ?_)))
    refine At_draw hF 10 (by kernel_rfl) (by decide +kernel) ?_; simp only [List.take_succ_cons, List.take_zero, List.drop_succ_cons, List.drop_zero]; (repeat ((with_reducible refine is_AQc ?_); refine AQ_cons (by intro K Q hK; (repeat (first | ((with_reducible refine is_field ?_); (refine At_field hF rfl ?_)) | ((with_reducible refine is_load ?_); (refine At_load hF 0 (by exact rfl) rfl (by (exact (rfl : _ = some (Value.int _ _)))) ?_)) | ((with_reducible refine is_index ?_); (refine At_indexA hF rfl rfl rfl (by first | decide | (simp only [TArr.m]; omega)) ?_)))); exact At_nilK hK) ?_))
    refine AQ_cons (by intro K Q' hK; refine At_load hF 2 (by exact rfl) rfl hM1 ?_; exact At_nilK hK) ?_
    (repeat ((with_reducible refine is_AQc ?_); refine AQ_cons (by intro K Q hK; (repeat (first | ((with_reducible refine is_bin ?_); ((with_reducible refine is_badd ?_); (refine At_add hF rfl rfl (by omega) ?_))) | ((with_reducible refine is_index ?_); (refine At_indexA hF rfl rfl rfl (by first | decide | (simp only [TArr.m]; omega)) ?_)))); exact At_nilK hK) ?_))
    (repeat ((with_reducible refine is_AQc ?_); refine AQ_cons (by intro K Q hK; skip; exact At_nilK hK) ?_)); refine AQ_done ?_
    skip
    refine At_store_2 hF (by exact rfl) (by exact rfl) hM3 rfl rfl hM2 ?_
    (repeat (first | ((with_reducible refine is_AL ?_); (with_reducible refine At_nil ?_)) | ((with_reducible refine is_At ?_); (first | with_reducible refine At_seq ?_; intro K hK | with_reducible refine At_then_n ?_ | with_reducible refine At_go (by assumption) ?_))))
    refine At_draw hF 11 (by kernel_rfl) (by decide +kernel) ?_; simp only [List.take_succ_cons, List.take_zero, List.drop_succ_cons, List.drop_zero]; (repeat ((with_reducible refine is_AQc ?_); refine AQ_cons (by intro K Q hK; (repeat (first | ((with_reducible refine is_move ?_); (refine At_plain hF (by (exact (rfl : _ = some (Value.slice _ _ _)))) ?_)) | ((with_reducible refine is_field ?_); (refine At_field hF rfl ?_)) | ((with_reducible refine is_load ?_); (refine At_load hF 0 (by exact rfl) rfl (by (exact (rfl : _ = some (Value.int _ _)))) ?_)) | ((with_reducible refine is_index ?_); (first | refine At_indexS hF rfl rfl (by omega) ?_ | refine At_indexA hF rfl rfl rfl (by first | decide | (simp only [TArr.m]; omega)) ?_)))); exact At_nilK hK) ?_))
    refine AQ_cons (by intro K Q' hK; refine At_load hF 1 (by exact rfl) rfl hG1 ?_; exact At_nilK hK) ?_
    (repeat ((with_reducible refine is_AQc ?_); refine AQ_cons (by intro K Q hK; (repeat (first | ((with_reducible refine is_bin ?_); ((with_reducible refine is_badd ?_); (refine At_add hF rfl rfl (by omega) ?_))) | ((with_reducible refine is_index ?_); (first | refine At_indexS hF rfl rfl (by omega) ?_ | refine At_indexA hF rfl rfl rfl (by first | decide | (simp only [TArr.m]; omega)) ?_)))); exact At_nilK hK) ?_))
    (repeat ((with_reducible refine is_AQc ?_); refine AQ_cons (by intro K Q hK; skip; exact At_nilK hK) ?_)); refine AQ_done ?_
    skip
    refine At_store_1 hF (by exact rfl) (by exact rfl) hG3 rfl rfl hG2 ?_
    (repeat (first | ((with_reducible refine is_AL ?_); (with_reducible refine At_nil ?_)) | ((with_reducible refine is_At ?_); (first | with_reducible refine At_then_n ?_ | with_reducible refine At_go (by assumption) ?_))))
    refine At_draw hF 11 (by kernel_rfl) (by decide +kernel) ?_; simp only [List.take_succ_cons, List.take_zero, List.drop_succ_cons, List.drop_zero]; (repeat ((with_reducible refine is_AQc ?_); refine AQ_cons (by intro K Q hK; (repeat (first | ((with_reducible refine is_move ?_); (refine At_plain hF (by (exact (rfl : _ = some (Value.slice _ _ _)))) ?_)) | ((with_reducible refine is_field ?_); (refine At_field hF rfl ?_)) | ((with_reducible refine is_load ?_); (refine At_load hF 0 (by exact rfl) rfl (by (exact (rfl : _ = some (Value.int _ _)))) ?_)) | ((with_reducible refine is_index ?_); (first | refine At_indexS hF rfl rfl (by omega) ?_ | refine At_indexA hF rfl rfl rfl (by first | decide | (simp only [TArr.m]; omega)) ?_)))); exact At_nilK hK) ?_))
    refine AQ_cons (by intro K Q' hK; refine At_load hF 1 (by exact rfl) rfl hG4 ?_; exact At_nilK hK) ?_
    (repeat ((with_reducible refine is_AQc ?_); refine AQ_cons (by intro K Q hK; (repeat (first | ((with_reducible refine is_bin ?_); ((with_reducible refine is_badd ?_); (refine At_add hF rfl rfl (by omega) ?_))) | ((with_reducible refine is_index ?_); (first | refine At_indexS hF rfl rfl (by omega) ?_ | refine At_indexA hF rfl rfl rfl (by first | decide | (simp only [TArr.m]; omega)) ?_)))); exact At_nilK hK) ?_))
    (repeat ((with_reducible refine is_AQc ?_); refine AQ_cons (by intro K Q hK; skip; exact At_nilK hK) ?_)); refine AQ_done ?_
    skip
    refine At_store_1 hF (by exact rfl) (by exact rfl) hG6 rfl rfl hG5 ?_
    (repeat (first | ((with_reducible refine is_AL ?_); (first | ((with_reducible refine is_move ?_); (refine At_plain hF (by (exact (rfl : _ = some (Value.int _ _)))) ?_)) | ((with_reducible refine is_bin ?_); ((with_reducible refine is_badd ?_); (refine At_add hF rfl rfl (by omega) ?_))) | with_reducible refine At_nil ?_)) | ((with_reducible refine is_At ?_); (first | with_reducible refine At_region ?_ | with_reducible refine At_then_n ?_ | with_reducible refine At_inb_n ?_ | with_reducible refine At_go (by assumption) ?_))))
    refine At.sub ?_ (hL (i + 1) _ (by omega) (by omega) ?_)
    · (repeat (first | exact List.Sublist.refl _ | exact List.Sublist.slnil | refine List.Sublist.cons_cons _ ?_ | refine List.Sublist.cons _ ?_))
    · (repeat (first | exact True.intro | (refine And.intro ?_ ?_; focus (show _ = (_ : Value); first | exact rfl | (refine Eq.trans (b := Value.int IntKind.i64 _) rfl (congrArg (Value.int IntKind.i64) ?_); omega)))))
  obtain rfl : i = m.length := by omega
  rw [List.take_length]
  clear hL
  have hgg : ∀ r a, r < Q → a < n → (bI (gamV Q m))[r * 20 + a * 1]? = some (.int .i64 (cG m r a : Nat)) := fun r a hr ha => by
    have : (r + 1) * 20 ≤ Q * 20 := Nat.mul_le_mul_right _ (by omega)
    exact bI_get (by omega) (by rw [gamV_len]; omega) (gamV_get hmem r a (by omega))
  have hmm : ∀ a b, a < n → b < n → (bI (metV m))[0 + a * 20 + b * 1]? = some (.int .i64 (cM m a b : Nat)) := fun a b ha hb => bI_get (by omega) (by rw [metV_len]; omega) (metV_get hmem a b (by omega))
  (repeat (first | ((with_reducible refine is_AL ?_); (first | ((with_reducible refine is_move ?_); (refine At_plain hF (by (exact (rfl : _ = some (Value.int _ _)))) ?_)) | with_reducible refine At_nil ?_)) | ((with_reducible refine is_At ?_); (first | with_reducible refine At_seq ?_; intro K hK | with_reducible refine At_block ?_ | with_reducible refine At_region ?_ | with_reducible refine At_exit ?_ | with_reducible refine At_then_n ?_ | with_reducible refine At_then_e ?_ | with_reducible refine At_inb_e rfl ?_ | with_reducible refine At_go (by assumption) ?_))))
  refine At_loop (fun a : Nat => [(0, .int .i64 n), (1, .int .i64 kind), (7, .int .i64 Q), (9, ip bm), (10, .slice (some ⟨bg, 0, none⟩) Q Q), (147, .int .i64 n), (148, .int .i64 a)]) (fun _ => [.obj bg (.cells (bI (gamV Q m)) 33 (0, 0)), .obj bm (.cells (bI (metV m)) 34 (0, 0))]) (fun a => a ≤ n) (fun a => n - a) 0 ?_ ?_ (Nat.zero_le _) ?_
  · (repeat (first | exact List.Sublist.refl _ | exact List.Sublist.slnil | refine List.Sublist.cons_cons _ ?_ | refine List.Sublist.cons _ ?_))
  · (repeat (first | exact True.intro | (refine And.intro ?_ ?_; focus (show _ = (_ : Value); first | exact rfl | (refine Eq.trans (b := Value.int IntKind.i64 _) rfl (congrArg (Value.int IntKind.i64) ?_); omega)))))
  rintro a ha K hL ρ1
  try dsimp only
  (repeat (first | ((with_reducible refine is_AL ?_); (first | ((with_reducible refine is_bin ?_); (refine At_plain hF (by (exact (rfl : _ = some (Value.bool _)))) ?_)) | with_reducible refine At_nil ?_)) | ((with_reducible refine is_At ?_); (first | with_reducible refine At_seq ?_; intro K hK | with_reducible refine At_region ?_ | with_reducible refine At_then_n ?_ | with_reducible refine At_go (by assumption) ?_))))
  ((with_reducible refine is_cond ?_); (refine At_cond rfl ?_ ?_ <;> (intro hg; try (simp only [decide_eq_true_eq, decide_eq_false_iff_not, beq_iff_eq, bne_iff_ne, beq_eq_false_iff_ne, bne_eq_false_iff_eq, ne_eq, Bool.not_eq_true', Bool.not_eq_false', Bool.not_true, Bool.not_false, Decidable.not_not] at hg); try (exfalso; first | omega | exact hg True.intro))))
  · have hlt : a < n := by omega
    obtain ⟨hg1, hg2, hg3⟩ := hok a hlt
    have hrb := rst_bd hg1
    (repeat (first | ((with_reducible refine is_AL ?_); (first | ((with_reducible refine is_move ?_); (refine At_plain hF (by (exact (rfl : _ = some (Value.int _ _)))) ?_)) | ((with_reducible refine is_assign ?_); (refine At_plain hF (by (exact (rfl : _ = some (Value.int _ _)))) ?_)) | with_reducible refine At_nil ?_)) | ((with_reducible refine is_At ?_); (first | with_reducible refine At_seq ?_; intro K hK | with_reducible refine At_block ?_ | with_reducible refine At_region ?_ | with_reducible refine At_skip ?_ | with_reducible refine At_then_n ?_ | with_reducible refine At_go (by assumption) ?_))))
    refine At_loop (fun r : Nat => [(0, .int .i64 n), (1, .int .i64 kind), (7, .int .i64 Q), (9, ip bm), (10, .slice (some ⟨bg, 0, none⟩) Q Q), (13, .int .i64 a), (14, .int .i64 (rst m a r)), (147, .int .i64 n), (148, .int .i64 a), (151, .int .i64 Q), (152, .int .i64 r)]) (fun _ => [.obj bg (.cells (bI (gamV Q m)) 33 (0, 0)), .obj bm (.cells (bI (metV m)) 34 (0, 0))]) (fun r => r ≤ Q) (fun r => Q - r) 0 ?_ ?_ (Nat.zero_le _) ?_
    · (repeat (first | exact List.Sublist.refl _ | exact List.Sublist.slnil | refine List.Sublist.cons_cons _ ?_ | refine List.Sublist.cons _ ?_))
    · (repeat (first | exact True.intro | (refine And.intro ?_ ?_; focus (show _ = (_ : Value); first | exact rfl | (refine Eq.trans (b := Value.int IntKind.i64 _) rfl (congrArg (Value.int IntKind.i64) ?_); omega)))))
    rintro r hr K2 hL2 ρ2
    try dsimp only
    (repeat (first | ((with_reducible refine is_AL ?_); (first | ((with_reducible refine is_bin ?_); (refine At_plain hF (by (exact (rfl : _ = some (Value.bool _)))) ?_)) | with_reducible refine At_nil ?_)) | ((with_reducible refine is_At ?_); (first | with_reducible refine At_seq ?_; intro K hK | with_reducible refine At_region ?_ | with_reducible refine At_then_n ?_ | with_reducible refine At_go (by assumption) ?_))))
    ((with_reducible refine is_cond ?_); (refine At_cond rfl ?_ ?_ <;> (intro hg; try (simp only [decide_eq_true_eq, decide_eq_false_iff_not, beq_iff_eq, bne_iff_ne, beq_eq_false_iff_ne, bne_eq_false_iff_eq, ne_eq, Bool.not_eq_true', Bool.not_eq_false', Bool.not_true, Bool.not_false, Decidable.not_not] at hg); try (exfalso; first | omega | exact hg True.intro))))
    · have hlr : r < Q := by omega
      have hG := hgg r a hlr hlt
      have hle := hg1 r hlr
      have hrb2 := hrb r (by omega)
      have ha20 : a < 20 := by omega
      (repeat (first | ((with_reducible refine is_AL ?_); (first | ((with_reducible refine is_move ?_); (refine At_plain hF (by (first | exact (rfl : _ = some (Value.int _ _)) | exact (rfl : _ = some (Value.slice _ _ _)))) ?_)) | ((with_reducible refine is_assign ?_); (refine At_plain hF (by (exact (rfl : _ = some (Value.int _ _)))) ?_)) | ((with_reducible refine is_index ?_); (first | refine At_indexS hF rfl rfl (by omega) ?_ | refine At_indexA hF rfl rfl rfl (by first | decide | (simp only [TArr.m]; omega)) ?_)) | with_reducible refine At_nil ?_)) | ((with_reducible refine is_At ?_); (first | with_reducible refine At_seq ?_; intro K hK | with_reducible refine At_block ?_ | with_reducible refine At_region ?_ | with_reducible refine At_skip ?_ | with_reducible refine At_then_n ?_ | with_reducible refine At_go (by assumption) ?_))))
      refine At_load hF 0 (by exact rfl) rfl hG ?_
      (repeat (first | ((with_reducible refine is_AL ?_); (first | ((with_reducible refine is_bin ?_); (refine At_plain hF (by (exact (rfl : _ = some (Value.bool _)))) ?_)) | with_reducible refine At_nil ?_)) | ((with_reducible refine is_At ?_); (first | with_reducible refine At_then_n ?_ | with_reducible refine At_go (by assumption) ?_))))
      ((with_reducible refine is_cond ?_); (refine At_cond rfl ?_ ?_ <;> (intro hg; try (simp only [decide_eq_true_eq, decide_eq_false_iff_not, beq_iff_eq, bne_iff_ne, beq_eq_false_iff_ne, bne_eq_false_iff_eq, ne_eq, Bool.not_eq_true', Bool.not_eq_false', Bool.not_true, Bool.not_false, Decidable.not_not] at hg); try (exfalso; first | omega | exact hg True.intro))))
      (repeat (first | ((with_reducible refine is_AL ?_); (first | ((with_reducible refine is_move ?_); (refine At_plain hF (by (first | exact (rfl : _ = some (Value.int _ _)) | exact (rfl : _ = some (Value.slice _ _ _)))) ?_)) | ((with_reducible refine is_index ?_); (first | refine At_indexS hF rfl rfl (by omega) ?_ | refine At_indexA hF rfl rfl rfl (by first | decide | (simp only [TArr.m]; omega)) ?_)))) | ((with_reducible refine is_At ?_); (first | with_reducible refine At_region ?_ | with_reducible refine At_skip ?_ | with_reducible refine At_then_n ?_ | with_reducible refine At_go (by assumption) ?_))))
      refine At_load hF 0 (by exact rfl) rfl hG ?_
      (repeat (first | ((with_reducible refine is_AL ?_); (first | ((with_reducible refine is_move ?_); (refine At_plain hF (by (exact (rfl : _ = some (Value.int _ _)))) ?_)) | ((with_reducible refine is_bin ?_); (first | ((with_reducible refine is_badd ?_); (refine At_add hF rfl rfl (by omega) ?_)) | ((with_reducible refine is_bsub ?_); (refine At_sub hF rfl rfl (by omega) ?_)))) | ((with_reducible refine is_assign ?_); (refine At_plain hF (by (exact (rfl : _ = some (Value.int _ _)))) ?_)) | with_reducible refine At_nil ?_)) | ((with_reducible refine is_At ?_); (first | with_reducible refine At_region ?_ | with_reducible refine At_then_n ?_ | with_reducible refine At_inb_n ?_ | with_reducible refine At_go (by assumption) ?_))))
      refine At.sub ?_ (hL2 (r + 1) _ (by omega) (by omega) ?_)
      · (repeat (first | exact List.Sublist.refl _ | exact List.Sublist.slnil | refine List.Sublist.cons_cons _ ?_ | refine List.Sublist.cons _ ?_))
      · (repeat (first | exact True.intro | (refine And.intro ?_ ?_; focus (show _ = (_ : Value); first | exact rfl | (refine Eq.trans (b := Value.int IntKind.i64 _) rfl (congrArg (Value.int IntKind.i64) ?_); omega)))))
    obtain rfl : r = Q := by omega
    clear hL2
    (repeat (first | ((with_reducible refine is_AL ?_); (first | ((with_reducible refine is_move ?_); (refine At_plain hF (by (exact (rfl : _ = some (Value.int _ _)))) ?_)) | ((with_reducible refine is_bin ?_); (first | ((with_reducible refine is_brem ?_); (refine At_rem hF rfl rfl (by omega) ?_)) | refine At_plain hF (by (exact (rfl : _ = some (Value.bool _)))) ?_)) | ((with_reducible refine is_assign ?_); (refine At_plain hF (by (exact (rfl : _ = some (Value.int _ _)))) ?_)) | with_reducible refine At_nil ?_)) | ((with_reducible refine is_At ?_); (first | with_reducible refine At_seq ?_; intro K hK | with_reducible refine At_region ?_ | with_reducible refine At_exit ?_ | with_reducible refine At_then_n ?_ | with_reducible refine At_then_e ?_ | with_reducible refine At_inb_e rfl ?_ | with_reducible refine At_go (by assumption) ?_))))
    refine At_merge [(0, .int .i64 n), (1, .int .i64 kind), (7, .int .i64 r), (9, ip bm), (10, .slice (some ⟨bg, 0, none⟩) r r), (13, .int .i64 a), (14, .int .i64 (rst m a r)), (16, .int .i64 (wantR n kind)), (147, .int .i64 n), (148, .int .i64 a)] [.obj bg (.cells (bI (gamV r m)) 33 (0, 0)), .obj bm (.cells (bI (metV m)) 34 (0, 0))] ?_ ?_
    · intro K' hK'
      by_cases hk1 : kind = 1
      · have e : (kind != 1) = false := by simp [hk1]
        have ew : wantR n kind = ((n : Int) % 2) := by unfold wantR; rw [if_pos hk1]; omega
        rw [e]
        (repeat ((with_reducible refine is_At ?_); (first | with_reducible refine At_skip ?_ | with_reducible refine At_then_n ?_ | ((with_reducible refine is_cond ?_); (refine At_cond_f rfl ?_)))))
        refine At.sub ?_ (hK' _ ?_)
        · (repeat (first | exact List.Sublist.refl _ | exact List.Sublist.slnil | refine List.Sublist.cons_cons _ ?_ | refine List.Sublist.cons _ ?_))
        · rw [ew]
          (repeat (first | exact True.intro | (refine And.intro ?_ ?_; focus (show _ = (_ : Value); first | exact rfl | (refine Eq.trans (b := Value.int IntKind.i64 _) rfl (congrArg (Value.int IntKind.i64) ?_); omega)))))
      · have e : (kind != 1) = true := by simp [hk1]
        have ew : wantR n kind = ((n : Int) % 2) * 2 := by unfold wantR; rw [if_neg hk1]; omega
        rw [e]
        (repeat (first | ((with_reducible refine is_AL ?_); (first | ((with_reducible refine is_move ?_); (refine At_plain hF (by (exact (rfl : _ = some (Value.int _ _)))) ?_)) | ((with_reducible refine is_bin ?_); ((with_reducible refine is_bmul ?_); (refine At_mul hF rfl rfl (by omega) ?_))) | ((with_reducible refine is_assign ?_); (refine At_plain hF (by (exact (rfl : _ = some (Value.int _ _)))) ?_)) | with_reducible refine At_nil ?_)) | ((with_reducible refine is_At ?_); (first | with_reducible refine At_region ?_ | with_reducible refine At_then_n ?_ | ((with_reducible refine is_cond ?_); (refine At_cond_t rfl ?_))))))
        refine At.sub ?_ (hK' _ ?_)
        · (repeat (first | exact List.Sublist.refl _ | exact List.Sublist.slnil | refine List.Sublist.cons_cons _ ?_ | refine List.Sublist.cons _ ?_))
        · rw [ew]
          (repeat (first | exact True.intro | (refine And.intro ?_ ?_; focus (show _ = (_ : Value); first | exact rfl | (refine Eq.trans (b := Value.int IntKind.i64 _) rfl (congrArg (Value.int IntKind.i64) ?_); omega)))))
    intro ρ3
    try dsimp only
    (repeat (first | ((with_reducible refine is_AL ?_); (first | ((with_reducible refine is_move ?_); (refine At_plain hF (by (exact (rfl : _ = some (Value.int _ _)))) ?_)) | ((with_reducible refine is_bin ?_); (refine At_plain hF (by (exact (rfl : _ = some (Value.bool _)))) ?_)) | with_reducible refine At_nil ?_)) | ((with_reducible refine is_At ?_); (first | with_reducible refine At_seq ?_; intro K hK | with_reducible refine At_region ?_ | with_reducible refine At_then_n ?_ | with_reducible refine At_go (by assumption) ?_))))
    ((with_reducible refine is_cond ?_); (refine At_cond rfl ?_ ?_ <;> (intro hg; try (simp only [decide_eq_true_eq, decide_eq_false_iff_not, beq_iff_eq, bne_iff_ne, beq_eq_false_iff_ne, bne_eq_false_iff_eq, ne_eq, Bool.not_eq_true', Bool.not_eq_false', Bool.not_true, Bool.not_false, Decidable.not_not] at hg); try (exfalso; first | omega | exact hg True.intro))))
    (repeat (first | ((with_reducible refine is_AL ?_); (first | ((with_reducible refine is_move ?_); (refine At_plain hF (by (exact (rfl : _ = some (Value.int _ _)))) ?_)) | with_reducible refine At_nil ?_)) | ((with_reducible refine is_At ?_); (first | with_reducible refine At_seq ?_; intro K hK | with_reducible refine At_block ?_ | with_reducible refine At_region ?_ | with_reducible refine At_skip ?_ | with_reducible refine At_then_n ?_ | with_reducible refine At_go (by assumption) ?_))))
    refine At_loop (fun b : Nat => [(0, .int .i64 n), (1, .int .i64 kind), (7, .int .i64 r), (9, ip bm), (10, .slice (some ⟨bg, 0, none⟩) r r), (13, .int .i64 a), (147, .int .i64 n), (148, .int .i64 a), (181, .int .i64 a), (182, .int .i64 b)]) (fun _ => [.obj bg (.cells (bI (gamV r m)) 33 (0, 0)), .obj bm (.cells (bI (metV m)) 34 (0, 0))]) (fun b => b ≤ a) (fun b => a - b) 0 ?_ ?_ (Nat.zero_le _) ?_
    · (repeat (first | exact List.Sublist.refl _ | exact List.Sublist.slnil | refine List.Sublist.cons_cons _ ?_ | refine List.Sublist.cons _ ?_))
    · (repeat (first | exact True.intro | (refine And.intro ?_ ?_; focus (show _ = (_ : Value); first | exact rfl | (refine Eq.trans (b := Value.int IntKind.i64 _) rfl (congrArg (Value.int IntKind.i64) ?_); omega)))))
    rintro b hb K3 hL3 ρ4
    try dsimp only
    (repeat (first | ((with_reducible refine is_AL ?_); (first | ((with_reducible refine is_bin ?_); (refine At_plain hF (by (exact (rfl : _ = some (Value.bool _)))) ?_)) | with_reducible refine At_nil ?_)) | ((with_reducible refine is_At ?_); (first | with_reducible refine At_seq ?_; intro K hK | with_reducible refine At_region ?_ | with_reducible refine At_then_n ?_ | with_reducible refine At_go (by assumption) ?_))))
    ((with_reducible refine is_cond ?_); (refine At_cond rfl ?_ ?_ <;> (intro hg; try (simp only [decide_eq_true_eq, decide_eq_false_iff_not, beq_iff_eq, bne_iff_ne, beq_eq_false_iff_ne, bne_eq_false_iff_eq, ne_eq, Bool.not_eq_true', Bool.not_eq_false', Bool.not_true, Bool.not_false, Decidable.not_not] at hg); try (exfalso; first | omega | exact hg True.intro))))
    · have hlb : b < a := by omega
      have hp := hg3 b hlb
      have ha20 : a < 20 := by omega
      have hb20 : b < 20 := by omega
      have hm1 := hmm a b hlt (by omega)
      have hm2 := hmm b a (by omega) hlt
      have c1 := cM_le m a b
      have c2 := cM_le m b a
      (repeat (first | ((with_reducible refine is_AL ?_); (first | ((with_reducible refine is_move ?_); (refine At_plain hF (by (exact (rfl : _ = some (Value.int _ _)))) ?_)) | ((with_reducible refine is_assign ?_); (refine At_plain hF (by (exact (rfl : _ = some (Value.int _ _)))) ?_)) | with_reducible refine At_nil ?_)) | ((with_reducible refine is_At ?_); (first | with_reducible refine At_seq ?_; intro K hK | with_reducible refine At_block ?_ | with_reducible refine At_region ?_ | with_reducible refine At_skip ?_ | with_reducible refine At_then_n ?_ | with_reducible refine At_go (by assumption) ?_))))
      by_cases hk1 : kind = 1
      · unfold pairB at hp
        rw [if_pos hk1] at hp
        have e1 : (kind == 1) = true := by simp [hk1]
        have e2 : (kind != 1) = false := by simp [hk1]
        have e3 : ((cM m a b : Int) + (cM m b a : Int) != 1) = false := by rw [show (cM m a b : Int) + (cM m b a : Int) = 1 by omega]; rfl
        refine At_drawM hF 36 (by kernel_rfl) (by decide +kernel) ?_; simp only [List.take_succ_cons, List.take_zero, List.drop_succ_cons, List.drop_zero]; (repeat ((with_reducible refine is_AQc ?_); refine AQ_cons (by intro K Q hK; (repeat (first | ((with_reducible refine is_move ?_); (refine At_plain hF (by (first | exact (rfl : _ = some (Value.int _ _)) | exact (rfl : _ = some (Value.bool _)))) ?_)) | ((with_reducible refine is_bin ?_); (refine At_plain hF (by (exact (rfl : _ = some (Value.bool _)))) ?_)))); exact At_nilK hK) ?_))
        rw [e1]
        (repeat ((with_reducible refine is_AQc ?_); refine AQ_cons (by intro K Q hK; (repeat (first | ((with_reducible refine is_guarded ?_); (refine At_guard_t rfl (by decide) rfl ?_)) | ((with_reducible refine is_move ?_); (refine At_plain hF (by (exact (rfl : _ = some (Value.int _ _)))) ?_)) | ((with_reducible refine is_index ?_); (refine At_indexA hF rfl rfl rfl (by first | decide | (simp only [TArr.m]; omega)) ?_)))); exact At_nilK hK) ?_))
        refine AQ_cons (by intro K Q' hK; refine At_guard_t rfl (by decide) rfl ?_; refine At_load hF 1 (by exact rfl) rfl hm1 ?_; exact At_nilK hK) ?_
        (repeat ((with_reducible refine is_AQc ?_); refine AQ_cons (by intro K Q hK; (repeat (first | ((with_reducible refine is_guarded ?_); (refine At_guard_t rfl (by decide) rfl ?_)) | ((with_reducible refine is_move ?_); (refine At_plain hF (by (exact (rfl : _ = some (Value.int _ _)))) ?_)) | ((with_reducible refine is_index ?_); (refine At_indexA hF rfl rfl rfl (by first | decide | (simp only [TArr.m]; omega)) ?_)))); exact At_nilK hK) ?_))
        refine AQ_cons (by intro K Q' hK; refine At_guard_t rfl (by decide) rfl ?_; refine At_load hF 1 (by exact rfl) rfl hm2 ?_; exact At_nilK hK) ?_
        (repeat ((with_reducible refine is_AQc ?_); refine AQ_cons (by intro K Q hK; (repeat (first | ((with_reducible refine is_guarded ?_); (refine At_guard_t rfl (by decide) rfl ?_)) | ((with_reducible refine is_move ?_); (refine At_plain hF (by (exact (rfl : _ = some (Value.bool _)))) ?_)) | ((with_reducible refine is_bin ?_); (first | ((with_reducible refine is_badd ?_); (refine At_add hF rfl rfl (by omega) ?_)) | refine At_plain hF (by (exact (rfl : _ = some (Value.bool _)))) ?_)) | ((with_reducible refine is_pick ?_); (refine At_plain hF (by (exact (rfl : _ = some (Value.bool _)))) ?_)))); exact At_nilK hK) ?_))
        rw [e3]
        (repeat ((with_reducible refine is_AQc ?_); refine AQ_cons (by intro K Q hK; (repeat (first | ((with_reducible refine is_guarded ?_); (refine At_guard_t rfl (by decide) rfl ?_)) | ((with_reducible refine is_move ?_); (refine At_plain hF (by (first | exact (rfl : _ = some (Value.int _ _)) | exact (rfl : _ = some (Value.bool _)))) ?_)) | ((with_reducible refine is_bin ?_); (refine At_plain hF (by (exact (rfl : _ = some (Value.bool _)))) ?_)))); exact At_nilK hK) ?_))
        rw [e2]
        (repeat ((with_reducible refine is_AQc ?_); refine AQ_cons (by intro K Q hK; (repeat (first | ((with_reducible refine is_guarded ?_); (first | refine At_guard_t rfl (by decide) rfl ?_ | refine At_guard_f hF rfl (by decide) rfl rfl ?_ | refine At_guard_u hF rfl (by decide) rfl ?_)) | ((with_reducible refine is_pick ?_); (refine At_plain hF (by (exact (rfl : _ = some (Value.bool _)))) ?_)))); exact At_nilK hK) ?_)); refine AQ_done ?_
        (repeat (first | ((with_reducible refine is_AL ?_); (first | ((with_reducible refine is_move ?_); (refine At_plain hF (by (exact (rfl : _ = some (Value.int _ _)))) ?_)) | ((with_reducible refine is_bin ?_); ((with_reducible refine is_badd ?_); (refine At_add hF rfl rfl (by omega) ?_))) | with_reducible refine At_nil ?_)) | ((with_reducible refine is_At ?_); (first | with_reducible refine At_region ?_ | with_reducible refine At_skip ?_ | with_reducible refine At_then_n ?_ | with_reducible refine At_inb_n ?_ | with_reducible refine At_go (by assumption) ?_ | ((with_reducible refine is_cond ?_); (refine At_cond_f rfl ?_))))))
        refine At.sub ?_ (hL3 (b + 1) _ (by omega) (by omega) ?_)
        · (repeat (first | exact List.Sublist.refl _ | exact List.Sublist.slnil | refine List.Sublist.cons_cons _ ?_ | refine List.Sublist.cons _ ?_))
        · (repeat (first | exact True.intro | (refine And.intro ?_ ?_; focus (show _ = (_ : Value); first | exact rfl | (refine Eq.trans (b := Value.int IntKind.i64 _) rfl (congrArg (Value.int IntKind.i64) ?_); omega)))))
      · unfold pairB at hp
        rw [if_neg hk1] at hp
        have e1 : (kind == 1) = false := by simp [hk1]
        have e2 : (kind != 1) = true := by simp [hk1]
        have e3 : ((cM m a b : Int) != 1) = false := by rw [hp.1]; rfl
        have e4 : ((cM m b a : Int) != 1) = false := by rw [hp.2]; rfl
        refine At_drawM hF 36 (by kernel_rfl) (by decide +kernel) ?_; simp only [List.take_succ_cons, List.take_zero, List.drop_succ_cons, List.drop_zero]; (repeat ((with_reducible refine is_AQc ?_); refine AQ_cons (by intro K Q hK; (repeat (first | ((with_reducible refine is_move ?_); (refine At_plain hF (by (first | exact (rfl : _ = some (Value.int _ _)) | exact (rfl : _ = some (Value.bool _)))) ?_)) | ((with_reducible refine is_bin ?_); (refine At_plain hF (by (exact (rfl : _ = some (Value.bool _)))) ?_)))); exact At_nilK hK) ?_))
        rw [e1]
        (repeat ((with_reducible refine is_AQc ?_); refine AQ_cons (by intro K Q hK; (repeat (first | ((with_reducible refine is_guarded ?_); (first | refine At_guard_t rfl (by decide) rfl ?_ | refine At_guard_f hF rfl (by decide) rfl rfl ?_)) | ((with_reducible refine is_move ?_); (refine At_plain hF (by (first | exact (rfl : _ = some (Value.int _ _)) | exact (rfl : _ = some (Value.bool _)))) ?_)) | ((with_reducible refine is_bin ?_); (refine At_plain hF (by (exact (rfl : _ = some (Value.bool _)))) ?_)) | ((with_reducible refine is_pick ?_); (refine At_plain hF (by (exact (rfl : _ = some (Value.bool _)))) ?_)))); exact At_nilK hK) ?_))
        rw [e2]
        (repeat ((with_reducible refine is_AQc ?_); refine AQ_cons (by intro K Q hK; (repeat (first | ((with_reducible refine is_guarded ?_); (refine At_guard_t rfl (by decide) rfl ?_)) | ((with_reducible refine is_move ?_); (refine At_plain hF (by (exact (rfl : _ = some (Value.int _ _)))) ?_)) | ((with_reducible refine is_index ?_); (refine At_indexA hF rfl rfl rfl (by first | decide | (simp only [TArr.m]; omega)) ?_)))); exact At_nilK hK) ?_))
        refine AQ_cons (by intro K Q' hK; refine At_guard_t rfl (by decide) rfl ?_; refine At_load hF 1 (by exact rfl) rfl hm1 ?_; exact At_nilK hK) ?_
        (repeat ((with_reducible refine is_AQc ?_); refine AQ_cons (by intro K Q hK; (repeat (first | ((with_reducible refine is_guarded ?_); (refine At_guard_t rfl (by decide) rfl ?_)) | ((with_reducible refine is_move ?_); (refine At_plain hF (by (exact (rfl : _ = some (Value.bool _)))) ?_)) | ((with_reducible refine is_bin ?_); (refine At_plain hF (by (exact (rfl : _ = some (Value.bool _)))) ?_)))); exact At_nilK hK) ?_))
        rw [e3]
        (repeat ((with_reducible refine is_AQc ?_); refine AQ_cons (by intro K Q hK; (repeat (first | ((with_reducible refine is_guarded ?_); (refine At_guard_t rfl (by decide) rfl ?_)) | ((with_reducible refine is_move ?_); (refine At_plain hF (by (exact (rfl : _ = some (Value.int _ _)))) ?_)) | ((with_reducible refine is_index ?_); (refine At_indexA hF rfl rfl rfl (by first | decide | (simp only [TArr.m]; omega)) ?_)))); exact At_nilK hK) ?_))
        refine AQ_cons (by intro K Q' hK; refine At_guard_t rfl (by decide) rfl ?_; refine At_load hF 1 (by exact rfl) rfl hm2 ?_; exact At_nilK hK) ?_
        (repeat ((with_reducible refine is_AQc ?_); refine AQ_cons (by intro K Q hK; (repeat (first | ((with_reducible refine is_guarded ?_); (refine At_guard_t rfl (by decide) rfl ?_)) | ((with_reducible refine is_bin ?_); (refine At_plain hF (by (exact (rfl : _ = some (Value.bool _)))) ?_)) | ((with_reducible refine is_pick ?_); (refine At_plain hF (by (exact (rfl : _ = some (Value.bool _)))) ?_)))); exact At_nilK hK) ?_))
        rw [e4]
        (repeat ((with_reducible refine is_AQc ?_); refine AQ_cons (by intro K Q hK; skip; exact At_nilK hK) ?_)); refine AQ_done ?_
        (repeat (first | ((with_reducible refine is_AL ?_); (first | ((with_reducible refine is_move ?_); (refine At_plain hF (by (exact (rfl : _ = some (Value.int _ _)))) ?_)) | ((with_reducible refine is_bin ?_); ((with_reducible refine is_badd ?_); (refine At_add hF rfl rfl (by omega) ?_))) | with_reducible refine At_nil ?_)) | ((with_reducible refine is_At ?_); (first | with_reducible refine At_region ?_ | with_reducible refine At_skip ?_ | with_reducible refine At_then_n ?_ | with_reducible refine At_inb_n ?_ | with_reducible refine At_go (by assumption) ?_ | ((with_reducible refine is_cond ?_); (refine At_cond_f rfl ?_))))))
        refine At.sub ?_ (hL3 (b + 1) _ (by omega) (by omega) ?_)
        · (repeat (first | exact List.Sublist.refl _ | exact List.Sublist.slnil | refine List.Sublist.cons_cons _ ?_ | refine List.Sublist.cons _ ?_))
        · (repeat (first | exact True.intro | (refine And.intro ?_ ?_; focus (show _ = (_ : Value); first | exact rfl | (refine Eq.trans (b := Value.int IntKind.i64 _) rfl (congrArg (Value.int IntKind.i64) ?_); omega)))))
    obtain rfl : b = a := by omega
    (repeat (first | ((with_reducible refine is_AL ?_); (first | ((with_reducible refine is_move ?_); (refine At_plain hF (by (exact (rfl : _ = some (Value.int _ _)))) ?_)) | ((with_reducible refine is_bin ?_); ((with_reducible refine is_badd ?_); (refine At_add hF rfl rfl (by omega) ?_))) | with_reducible refine At_nil ?_)) | ((with_reducible refine is_At ?_); (first | with_reducible refine At_region ?_ | with_reducible refine At_exit ?_ | with_reducible refine At_then_n ?_ | with_reducible refine At_then_e ?_ | with_reducible refine At_inb_n ?_ | with_reducible refine At_inb_e rfl ?_ | with_reducible refine At_go (by assumption) ?_))))
    refine At.sub ?_ (hL (b + 1) _ (by omega) (by omega) ?_)
    · (repeat (first | exact List.Sublist.refl _ | exact List.Sublist.slnil | refine List.Sublist.cons_cons _ ?_ | refine List.Sublist.cons _ ?_))
    · (repeat (first | exact True.intro | (refine And.intro ?_ ?_; focus (show _ = (_ : Value); first | exact rfl | (refine Eq.trans (b := Value.int IntKind.i64 _) rfl (congrArg (Value.int IntKind.i64) ?_); omega)))))
  obtain rfl : a = n := by omega
  (repeat (first | ((with_reducible refine is_AL ?_); (first | ((with_reducible refine is_assign ?_); (refine At_plain hF (by (exact (rfl : _ = some (Value.bool _)))) ?_)) | with_reducible refine At_nil ?_)) | ((with_reducible refine is_At ?_); (first | with_reducible refine At_seq ?_; intro K hK | with_reducible refine At_region ?_ | with_reducible refine At_ret ?_ | with_reducible refine At_exit ?_ | with_reducible refine At_then_n ?_ | with_reducible refine At_then_e ?_ | with_reducible refine At_inb_e rfl ?_ | with_reducible refine At_go (by assumption) ?_))))
  exact At_ret1 rfl (rv_tmp (by decide)) (fun w' hw' => ⟨_, rfl, rfl, hw'.below⟩)
end Go.Proofs.Ythddaojdlfifeaa.P

/- RobinAll: the contract. -/
namespace Go.Proofs.Ythddaojdlfifeaa.P
open Go.RowKit Go.Proofs.YthddaojdlfifeaaW.PrintWords Go.Proofs.YthddaojdlfifeaaW.PrintLast Go.Proofs.YthddaojdlfifeaaW.PrintMore
open XW RegInv
attribute [local irreducible] Addr.add
set_option linter.unusedSimpArgs false
set_option linter.unusedVariables false

theorem right_of (n kind : Int) : RightR n kind (decide (rightR n kind)) := fun w => by
  refine (fastilaw20_right.calls n kind (decide (rightR n kind)) w ?_).mono (by rintro e w' ⟨rfl, hb⟩; exact ⟨_, rfl, rfl, hb.below⟩)
  unfold fastilaw20_right.f
  by_cases hr : rightR n kind
  · rw [decide_eq_true hr]
    obtain ⟨h1, h2, h3, h4⟩ := hr
    rw [if_pos h1, if_pos h2]
    by_cases h3 : kind = 1
    · rw [if_pos h3]
    · by_cases h4 : kind = 2
      · rw [if_neg h3, if_pos h4]
      · rw [if_neg h3, if_neg h4]
        congr 1
        rw [beq_iff_eq]; omega
  · rw [decide_eq_false hr]
    unfold rightR at hr
    by_cases h1 : n ≥ 2
    · by_cases h2 : n ≤ 20
      · rw [if_pos h1, if_pos h2, if_neg (by omega), if_neg (by omega)]
        congr 1
        rw [beq_eq_false_iff_ne]; omega
      · rw [if_pos h1, if_neg h2]
    · rw [if_neg h1]
theorem rounds_bad (n kind : Int) (h : ¬ rightR n kind) (w : World) : Rets Try.prog 10 #[.int .i64 n, .int .i64 kind] w fun u w' => u = .tuple #[.int .i64 0, .int .i64 1] ∧ Below w.heap.size w w' := by
  refine (robin_Rounds.calls n kind 0 1 w ?_).mono (by rintro e w' ⟨rfl, hb⟩; exact ⟨_, rfl, rfl, hb⟩)
  have hof : ∃ x, robin_of.f n kind = some (n, x, false) := by
    unfold robin_of.f
    unfold rightR at h
    by_cases h1 : n ≥ 2
    · by_cases h2 : n ≤ 20
      · by_cases h3 : kind ≥ 1
        · rw [if_pos h1, if_pos h2, if_pos h3, decide_eq_false (by omega)]; exact ⟨_, rfl⟩
        · rw [if_pos h1, if_pos h2, if_neg h3]; exact ⟨_, rfl⟩
      · rw [if_pos h1, if_neg h2]; exact ⟨_, rfl⟩
    · rw [if_neg h1]; exact ⟨_, rfl⟩
  obtain ⟨x, hx⟩ := hof
  unfold robin_Rounds.f
  rw [hx]; rfl
set_option maxHeartbeats 4000000 in
set_option maxRecDepth 100000 in
theorem all_bad (w0 : World) (n kind : Int) (h : ¬ rightR n kind) : Rets Try.prog 5 #[.int .i64 n, .int .i64 kind] w0 fun u w' => u = .bool true ∧ Below w0.heap.size w0 w' := by
  have hF := wide_wide
  have hrt := right_of n kind
  rw [decide_eq_false h] at hrt
  refine rets_at (n := 223) Try.func5 rfl Try.ntmps5 (by simp) ?_
  (repeat (first | ((with_reducible refine is_AL ?_); (first | ((with_reducible refine is_assign ?_); (refine At_plain hF (by (exact (rfl : _ = some (Value.bool _)))) ?_)) | with_reducible refine At_nil ?_)) | ((with_reducible refine is_At ?_); (first | with_reducible refine At_seq ?_; intro K hK | with_reducible refine At_region ?_ | with_reducible refine At_then_n ?_ | with_reducible refine At_go (by assumption) ?_))))
  refine At_callB hF E9 rfl (u := .bool true) (vs := #[]) (by simp) (fun w' hw' => sane_rets w') ?_
  (repeat (first | ((with_reducible refine is_AL ?_); (first | ((with_reducible refine is_move ?_); (refine At_plain hF (by (exact (rfl : _ = some (Value.int _ _)))) ?_)) | ((with_reducible refine is_un ?_); (refine At_plain hF (by (exact (rfl : _ = some (Value.bool _)))) ?_)) | with_reducible refine At_nil ?_)) | ((with_reducible refine is_At ?_); (first | with_reducible refine At_seq ?_; intro K hK | with_reducible refine At_region ?_ | with_reducible refine At_skip ?_ | with_reducible refine At_then_n ?_ | with_reducible refine At_go (by assumption) ?_ | ((with_reducible refine is_cond ?_); (refine At_cond_f rfl ?_))))))
  refine At_callB hF E12 rfl (u := .tuple #[.slice none 0 0, .int .i64 1]) (arg2 (by (first | exact (rfl : _ = (Value.int _ _)) | exact (rfl : _ = (Value.bool _)) | exact (rfl : _ = (Value.pointer _)) | exact (rfl : _ = (Value.slice _ _ _)) | exact (rfl : _ = (Value.map _)) | exact (rfl : _ = (Value.func _ _ _)) | exact (rfl : _ = (Value.tuple _)) | exact (rfl : _ = (Value.agg _)) | exact (rfl : _ = (Value.string _)) | exact (rfl : _ = (Value.nilFunc)) | exact (rfl : _ = (Value.nilIface)))) (by (first | exact (rfl : _ = (Value.int _ _)) | exact (rfl : _ = (Value.bool _)) | exact (rfl : _ = (Value.pointer _)) | exact (rfl : _ = (Value.slice _ _ _)) | exact (rfl : _ = (Value.map _)) | exact (rfl : _ = (Value.func _ _ _)) | exact (rfl : _ = (Value.tuple _)) | exact (rfl : _ = (Value.agg _)) | exact (rfl : _ = (Value.string _)) | exact (rfl : _ = (Value.nilFunc)) | exact (rfl : _ = (Value.nilIface))))) (fun w' hw' => make_bad w' n kind h) ?_
  (repeat (first | ((with_reducible refine is_AL ?_); (first | ((with_reducible refine is_move ?_); (refine At_plain hF (by (first | exact (rfl : _ = some (Value.int _ _)) | exact (rfl : _ = some (Value.tuple _)))) ?_)) | ((with_reducible refine is_assign ?_); (refine At_plain hF (by (first | exact (rfl : _ = some (Value.int _ _)) | exact (rfl : _ = some (Value.slice _ _ _)))) ?_)) | ((with_reducible refine is_extract ?_); (refine At_plain hF (by (first | exact (rfl : _ = some (Value.int _ _)) | exact (rfl : _ = some (Value.slice _ _ _)))) ?_)) | with_reducible refine At_nil ?_)) | ((with_reducible refine is_At ?_); (first | with_reducible refine At_seq ?_; intro K hK | with_reducible refine At_region ?_ | with_reducible refine At_then_n ?_ | with_reducible refine At_go (by assumption) ?_))))
  refine At_callB hF E10 rfl (u := .tuple #[.int .i64 0, .int .i64 1]) (arg2 (by (first | exact (rfl : _ = (Value.int _ _)) | exact (rfl : _ = (Value.bool _)) | exact (rfl : _ = (Value.pointer _)) | exact (rfl : _ = (Value.slice _ _ _)) | exact (rfl : _ = (Value.map _)) | exact (rfl : _ = (Value.func _ _ _)) | exact (rfl : _ = (Value.tuple _)) | exact (rfl : _ = (Value.agg _)) | exact (rfl : _ = (Value.string _)) | exact (rfl : _ = (Value.nilFunc)) | exact (rfl : _ = (Value.nilIface)))) (by (first | exact (rfl : _ = (Value.int _ _)) | exact (rfl : _ = (Value.bool _)) | exact (rfl : _ = (Value.pointer _)) | exact (rfl : _ = (Value.slice _ _ _)) | exact (rfl : _ = (Value.map _)) | exact (rfl : _ = (Value.func _ _ _)) | exact (rfl : _ = (Value.tuple _)) | exact (rfl : _ = (Value.agg _)) | exact (rfl : _ = (Value.string _)) | exact (rfl : _ = (Value.nilFunc)) | exact (rfl : _ = (Value.nilIface))))) (fun w' hw' => rounds_bad n kind h w') ?_
  (repeat (first | ((with_reducible refine is_AL ?_); (first | ((with_reducible refine is_move ?_); (refine At_plain hF (by (first | exact (rfl : _ = some (Value.int _ _)) | exact (rfl : _ = some (Value.tuple _)))) ?_)) | ((with_reducible refine is_assign ?_); (refine At_plain hF (by (exact (rfl : _ = some (Value.int _ _)))) ?_)) | ((with_reducible refine is_extract ?_); (refine At_plain hF (by (exact (rfl : _ = some (Value.int _ _)))) ?_)) | with_reducible refine At_nil ?_)) | ((with_reducible refine is_At ?_); (first | with_reducible refine At_seq ?_; intro K hK | with_reducible refine At_region ?_ | with_reducible refine At_then_n ?_ | with_reducible refine At_go (by assumption) ?_))))
  refine At_callB hF E17 rfl (u := .bool false) (arg2 (by (first | exact (rfl : _ = (Value.int _ _)) | exact (rfl : _ = (Value.bool _)) | exact (rfl : _ = (Value.pointer _)) | exact (rfl : _ = (Value.slice _ _ _)) | exact (rfl : _ = (Value.map _)) | exact (rfl : _ = (Value.func _ _ _)) | exact (rfl : _ = (Value.tuple _)) | exact (rfl : _ = (Value.agg _)) | exact (rfl : _ = (Value.string _)) | exact (rfl : _ = (Value.nilFunc)) | exact (rfl : _ = (Value.nilIface)))) (by (first | exact (rfl : _ = (Value.int _ _)) | exact (rfl : _ = (Value.bool _)) | exact (rfl : _ = (Value.pointer _)) | exact (rfl : _ = (Value.slice _ _ _)) | exact (rfl : _ = (Value.map _)) | exact (rfl : _ = (Value.func _ _ _)) | exact (rfl : _ = (Value.tuple _)) | exact (rfl : _ = (Value.agg _)) | exact (rfl : _ = (Value.string _)) | exact (rfl : _ = (Value.nilFunc)) | exact (rfl : _ = (Value.nilIface))))) (fun w' hw' => hrt w') ?_
  (repeat (first | ((with_reducible refine is_AL ?_); (first | ((with_reducible refine is_guarded ?_); (refine At_guard_t rfl (by decide) rfl ?_)) | ((with_reducible refine is_move ?_); (refine At_plain hF (by (first | exact (rfl : _ = some (Value.int _ _)) | exact (rfl : _ = some (Value.bool _)) | exact (rfl : _ = some (Value.slice _ _ _)))) ?_)) | ((with_reducible refine is_bin ?_); (refine At_plain hF (by (exact (rfl : _ = some (Value.bool _)))) ?_)) | ((with_reducible refine is_assign ?_); (refine At_plain hF (by (exact (rfl : _ = some (Value.bool _)))) ?_)) | ((with_reducible refine is_pick ?_); (refine At_plain hF (by (exact (rfl : _ = some (Value.bool _)))) ?_)) | ((with_reducible refine is_un ?_); (refine At_plain hF (by (exact (rfl : _ = some (Value.bool _)))) ?_)) | ((with_reducible refine is_call ?_); (refine At_len hF rfl ?_)) | with_reducible refine At_nil ?_)) | ((with_reducible refine is_At ?_); (first | with_reducible refine At_seq ?_; intro K hK | with_reducible refine At_region ?_ | with_reducible refine At_ret ?_ | with_reducible refine At_then_n ?_ | with_reducible refine At_then_r ?_ | with_reducible refine At_go (by assumption) ?_ | ((with_reducible refine is_cond ?_); (refine At_cond_t rfl ?_))))))
  exact At_ret1 rfl (rv_tmp (by decide)) (fun w' hw' => ⟨_, rfl, rfl, hw'.below⟩)
theorem good_in0 {n : Nat} {kind : Int} {m : List S37} (h : Good n kind m) (hn : n ≤ 20) : ∀ x ∈ m, inR (rndsQ (rndsN n) kind) x := fun x hx => by
  obtain ⟨a, b, c, d, _⟩ := h.inX x hx
  exact ⟨⟨a, b⟩, ⟨c.1, by omega⟩, ⟨d.1, by omega⟩⟩
theorem getD_memN {m : List S37} {i : Nat} (h : i < m.length) : m.getD i z37 ∈ m := getD_memS h
theorem all_good (w0 : World) (n : Nat) (kind : Int) (hn : 2 ≤ n ∧ n ≤ 20) (hk : 1 ≤ kind ∧ kind ≤ 3) : Rets Try.prog 5 #[.int .i64 n, .int .i64 kind] w0 fun u w' => u = .bool true ∧ Below w0.heap.size w0 w' := by
  have hg := good_mk hn hk
  have hrt := right_of n kind
  rw [decide_eq_true (show rightR n kind from ⟨by omega, by omega, hk⟩)] at hrt
  have hR : 1 ≤ rndsN n ∧ rndsN n ≤ 20 := by unfold rndsN; omega
  have hQ : 1 ≤ rndsQ (rndsN n) kind ∧ rndsQ (rndsN n) kind ≤ 40 := by unfold rndsQ; split <;> omega
  have hl := hg.len
  refine all_core w0 n (rndsQ (rndsN n) kind) kind (mkM n kind) hn hk hQ (mk_of n kind hn hk) (chk_of n kind _ 0 hn hk (by omega) ?_) (fun w => rounds_rets n (rndsN n) kind hn hk rfl w) hrt hl (fun i hi => hg.inX _ (getD_memN hi)) (good_in0 hg hn.2) hg.all
  unfold chkM
  rw [if_pos hg.chk]
theorem law_RobinAll.calls (a0 : Int) (a1 : Int) (r : Bool) (w : World) (h : r = true) : Calls Try.prog 5 #[.int .i64 a0, .int .i64 a1] w fun e w' => e = .returned (.bool r) ∧ Below w.heap.size w w' := by
  subst h
  by_cases hr : rightR a0 a1
  · obtain ⟨h1, h2, h3, h4⟩ := hr
    obtain ⟨n, rfl⟩ : ∃ n : Nat, a0 = n := ⟨a0.toNat, by omega⟩
    refine (all_good w n a1 (by omega) ⟨h3, h4⟩).mono ?_
    rintro e w' ⟨v, rfl, rfl, hb⟩
    exact ⟨rfl, hb⟩
  · refine (all_bad w a0 a1 hr).mono ?_
    rintro e w' ⟨v, rfl, rfl, hb⟩
    exact ⟨rfl, hb⟩
end Go.Proofs.Ythddaojdlfifeaa.P
