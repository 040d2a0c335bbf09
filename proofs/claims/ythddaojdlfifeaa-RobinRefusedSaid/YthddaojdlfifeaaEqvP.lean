import Derived.Test.YthddaojdlfifeaaP12
/- The reference's functions, in plain Lean. -/
namespace Go.Proofs.Ythddaojdlfifeaa.P
open Go.RowKit Go.Proofs.YthddaojdlfifeaaW.PrintWords Go.Proofs.YthddaojdlfifeaaW.PrintLast Go.Proofs.YthddaojdlfifeaaW.PrintMore
set_option linter.unusedSimpArgs false
set_option linter.unusedVariables false

/-- with rounds enough, g tells v -/
def Ev {α : Type} (g : Nat → Option α) (v : α) : Prop := ∃ K, ∀ k, K ≤ k → g k = some v
theorem Ev.succ {α : Type} {g : Nat → Option α} {v : α} (h : Ev (fun k => g (k + 1)) v) : Ev g v := by
  obtain ⟨K, h⟩ := h
  exact ⟨K + 1, fun k hk => by obtain ⟨k', rfl⟩ : ∃ k', k = k' + 1 := ⟨k - 1, by omega⟩; exact h k' (by omega)⟩
theorem Ev.bind {α β : Type} {g : Nat → Option α} {h : Nat → α → Option β} {a : α} {v : β} (h1 : Ev g a) (h2 : Ev (fun k => h k a) v) : Ev (fun k => (g k).bind (h k)) v := by
  obtain ⟨K, h1⟩ := h1
  obtain ⟨L, h2⟩ := h2
  exact ⟨max K L, fun k hk => by
    show (g k).bind (h k) = some v
    rw [h1 k (by omega)]
    exact h2 k (by omega)⟩
theorem Ev.const {α : Type} (v : α) : Ev (fun _ => some v) v := ⟨0, fun _ _ => rfl⟩
theorem Ev.congr {α : Type} {g g' : Nat → Option α} {v : α} (h : Ev g' v) (e : ∀ k, g k = g' k) : Ev g v := by
  obtain ⟨K, h⟩ := h
  exact ⟨K, fun k hk => by rw [e, h k hk]⟩
theorem Ev.at1 {α : Type} {g : Nat → Option α} {v : α} (h : Ev g v) : ∃ k, g k = some v := by
  obtain ⟨K, h⟩ := h
  exact ⟨K, h K (Nat.le_refl _)⟩
theorem Ev.ite_t {α : Type} {c : Prop} [Decidable c] {t e : Nat → Option α} {v : α} (h : c) (h1 : Ev t v) : Ev (fun k => if c then t k else e k) v := h1.congr fun k => if_pos h
theorem w1 (i : Nat) (h : i ≤ 1000000000) : wrap64 ((i : Int) + 1) = ((i + 1 : Nat) : Int) := by unfold wrap64; omega
theorem rdN (m : List S37) (i : Nat) : rd_T37 m (i : Int) = m.getD i z37 := rfl
theorem less_eq (x y : S37) : fastiref20_Less.f x.f0 x.f1 x.f2 y.f0 y.f1 y.f2 = some (decide (bef x y)) := by
  unfold fastiref20_Less.f
  by_cases h1 : x.f0 < y.f0
  · rw [if_pos h1, decide_eq_true (.inl h1)]
  · by_cases h2 : x.f0 = y.f0
    · rw [if_neg h1, if_pos h2]
      congr 1
      rw [decide_eq_decide]; unfold bef; omega
    · rw [if_neg h1, if_neg h2]
      congr 1; symm
      rw [decide_eq_false_iff_not]; unfold bef; omega
/-! ### Put, moved -/
def insR (x : S37) : List S37 → List S37
  | [] => [x]
  | y :: l => if bef x y then x :: y :: l else y :: insR x l
theorem insR_perm (x : S37) : ∀ l : List S37, (insR x l).Perm (x :: l)
  | [] => List.Perm.refl _
  | y :: l => by
    rw [insR]
    split
    · exact List.Perm.refl _
    · exact ((insR_perm x l).cons y).trans (List.Perm.swap x y l)
theorem drop_cons {m : List S37} {i : Nat} (h : i < m.length) : m.drop i = m.getD i z37 :: m.drop (i + 1) := by
  rw [List.drop_eq_getElem_cons h, List.getD_eq_getElem?_getD, List.getElem?_eq_getElem h]; rfl
theorem put_ev (x : S37) (l : List S37) (hl : l.length ≤ 1000000) : ∀ d i, l.length - i = d → i ≤ l.length → Ev (fun k => fastiref20_Put.l0 k l (l.take i) (i : Nat) x.f0 x.f1 x.f2) (l.take i ++ insR x (l.drop i)) := by
  intro d
  induction d with
  | zero =>
    intro i hd hi
    obtain rfl : i = l.length := by omega
    refine Ev.succ ?_
    simp only [fastiref20_Put.l0, Int.lt_irrefl, if_false, List.take_length, List.drop_length, insR]
    refine Ev.ite_t (by omega) ?_
    simp only [Option.bind_some, Int.toNat_natCast, List.drop_length, Int.le_refl, if_true]
    refine Ev.ite_t (by omega) ?_
    refine Ev.ite_t (by simp only [List.length_append, List.length_cons, List.length_nil]; omega) ?_
    rw [List.append_nil]
    exact Ev.const _
  | succ d ih =>
    intro i hd hi
    refine Ev.succ ?_
    simp only [fastiref20_Put.l0]
    refine Ev.ite_t (by omega) ?_
    refine Ev.ite_t (by omega) ?_
    simp only [rdN, less_eq, Option.bind_some]
    have hdr : l.drop i = l.getD i z37 :: l.drop (i + 1) := drop_cons (by omega)
    rw [hdr, insR]
    have ht : (l.take i).length ≤ 1000000 := by simp; omega
    by_cases hb : bef x (l.getD i z37)
    · simp only [hb, decide_true, if_true]
      refine Ev.ite_t (by omega) ?_
      refine Ev.ite_t (by omega) ?_
      refine Ev.ite_t (by simp only [List.length_append, List.length_cons, List.length_nil, Int.toNat_natCast, List.length_drop]; omega) ?_
      rw [Int.toNat_natCast, hdr, List.append_assoc]
      exact Ev.const _
    · simp only [hb, decide_false, if_false, Bool.false_eq_true]
      refine Ev.ite_t (by omega) ?_
      rw [w1 i (by omega)]
      have := ih (i + 1) (by omega) (by omega)
      rw [take_snocS l i z37 (by omega), List.append_assoc] at this
      exact this
theorem putf_ev (x : S37) (l : List S37) (hl : l.length ≤ 1000000) : Ev (fun k => fastiref20_Put.f k l x.f0 x.f1 x.f2) (insR x l) := by
  have := put_ev x l hl l.length 0 (by omega) (by omega)
  exact this
def mvd (r : Int) (turn : Bool) (x : S37) : S37 := if turn then trn r x else setR r x
def movM (l : List S37) (r : Int) (turn : Bool) : List S37 := l.foldl (fun acc y => insR (mvd r turn y) acc) []
/-! ### Of, Same, plays -/
end Go.Proofs.Ythddaojdlfifeaa.P

/- The reference's Check, in plain Lean. -/
namespace Go.Proofs.Ythddaojdlfifeaa.P
open Go.RowKit Go.Proofs.YthddaojdlfifeaaW.PrintWords Go.Proofs.YthddaojdlfifeaaW.PrintLast Go.Proofs.YthddaojdlfifeaaW.PrintMore
set_option linter.unusedSimpArgs false
set_option linter.unusedVariables false

theorem pr_same (x y : S37) : pr x = pr y ↔ (x.f1 = y.f1 ∧ x.f2 = y.f2) ∨ (x.f1 = y.f2 ∧ x.f2 = y.f1) := by
  unfold pr
  rw [Prod.mk.injEq]; omega
def onceP (n : Nat) (l : List S37) : Prop := (l.map pr).Nodup ∧ l.length = n * (n - 1) / 2
instance (n : Nat) (l : List S37) : Decidable (onceP n l) := inferInstanceAs (Decidable (_ ∧ _))
end Go.Proofs.Ythddaojdlfifeaa.P

/- The reference's Check answers as the program's does. -/
namespace Go.Proofs.Ythddaojdlfifeaa.P
open Go.RowKit Go.Proofs.YthddaojdlfifeaaW.PrintWords Go.Proofs.YthddaojdlfifeaaW.PrintLast Go.Proofs.YthddaojdlfifeaaW.PrintMore
set_option linter.unusedSimpArgs false
set_option linter.unusedVariables false

/-- the single round robin that the reference gathers -/
def sglL (m : List S37) (R : Nat) (kind : Int) : Nat → List S37
  | 0 => []
  | r + 1 => sglL m R kind r ++ movM (byR m (mkA R kind r)) r false
def turnOk (m : List S37) (R : Nat) (kind : Int) (r : Nat) : Prop := byR m (mkB R kind r) = movM (byR m (mkA R kind r)) (mkB R kind r) true
instance (m : List S37) (R : Nat) (kind : Int) (r : Nat) : Decidable (turnOk m R kind r) := inferInstanceAs (Decidable (_ = _))
def refOk (n R : Nat) (kind : Int) (m : List S37) : Prop := m.length ≤ n * (n - 1) ∧ (∀ i, i < m.length → okI n (rndsQ R kind) m i) ∧ (if kind = 1 then onceP n m else (∀ r, r < R → turnOk m R kind r) ∧ onceP n (sglL m R kind R))
instance (n R : Nat) (kind : Int) (m : List S37) : Decidable (refOk n R kind m) := inferInstanceAs (Decidable (_ ∧ _ ∧ ite _ _ _))
end Go.Proofs.Ythddaojdlfifeaa.P

/- The two Checks decide alike; RobinCheckSpec, the plain law. -/
namespace Go.Proofs.Ythddaojdlfifeaa.P
open Go.RowKit Go.Proofs.YthddaojdlfifeaaW.PrintWords Go.Proofs.YthddaojdlfifeaaW.PrintLast Go.Proofs.YthddaojdlfifeaaW.PrintMore
set_option linter.unusedSimpArgs false
set_option linter.unusedVariables false

def catR (m : List S37) (F : Nat → Int) : Nat → List S37
  | 0 => []
  | r + 1 => catR m F r ++ byR m (F r)
theorem met_cat (m : List S37) (R : Nat) (kind : Int) : ∀ r, metL m R kind r = (catR m (mkA R kind) r).map pr
  | 0 => rfl
  | r + 1 => by rw [metL, catR, met_cat m R kind r, List.map_append]
theorem filter_or {p q r : S37 → Bool} (h : ∀ x, p x = (q x || r x)) (h2 : ∀ x, (q x && r x) = false) : ∀ l : List S37, (l.filter p).Perm (l.filter q ++ l.filter r)
  | [] => List.Perm.refl _
  | x :: l => by
    have ih := filter_or h h2 l
    have hx := h x
    have hx2 := h2 x
    simp only [List.filter_cons]
    cases hq : q x <;> cases hr : r x <;> simp [hq, hr] at hx hx2 <;> rw [hx]
    · simpa using ih
    · simp only [if_true]
      exact (ih.cons x).trans List.perm_middle.symm
    · simp only [if_true]
      exact ih.cons x
theorem cat_filter (m : List S37) : ∀ Q : Nat, (catR m (fun r => (r : Int)) Q).Perm (m.filter fun x => decide (x.f0 < Q) && decide (0 ≤ x.f0))
  | 0 => by
    rw [catR, List.filter_eq_nil_iff.2]
    intro x _
    simp
  | Q + 1 => by
    rw [catR]
    refine ((cat_filter m Q).append_right _).trans (List.Perm.symm ?_)
    refine filter_or (fun x => ?_) (fun x => ?_) m
    · rw [Bool.eq_iff_iff]; simp; omega
    · rw [Bool.eq_false_iff]; simp; omega
theorem cat_all (m : List S37) (Q : Nat) (h : ∀ x ∈ m, 0 ≤ x.f0 ∧ x.f0 < Q) : (catR m (fun r => (r : Int)) Q).Perm m := by
  have := cat_filter m Q
  rwa [List.filter_eq_self.2] at this
  intro x hx
  have := h x hx
  simp [this.1, this.2]
theorem okI_mem {n Q : Int} {m : List S37} (h : ∀ i, i < m.length → okI n Q m i) : ∀ x ∈ m, okX n Q x := by
  intro x hx
  obtain ⟨i, hi, rfl⟩ := List.getElem_of_mem hx
  have := (h i hi).1
  rwa [List.getD_eq_getElem?_getD, List.getElem?_eq_getElem hi] at this
theorem cat_congr (m : List S37) {F G : Nat → Int} : ∀ r, (∀ q, q < r → F q = G q) → catR m F r = catR m G r
  | 0, _ => rfl
  | r + 1, h => by rw [catR, catR, cat_congr m r (fun q hq => h q (by omega)), h r (by omega)]
theorem met_sub (m : List S37) (R : Nat) (kind : Int) : ∀ d r, (metL m R kind r).Sublist (metL m R kind (r + d))
  | 0, r => List.Sublist.refl _
  | d + 1, r => (met_sub m R kind d r).trans (by rw [show r + (d + 1) = (r + d) + 1 from rfl, metL]; exact List.sublist_append_left _ _)
theorem cat_len2 (m : List S37) : ∀ r, (catR m (fun q => (q : Int)) (2 * r)).length = (catR m (fun q => 2 * (q : Int)) r).length + (catR m (fun q => 2 * (q : Int) + 1) r).length
  | 0 => rfl
  | r + 1 => by
    have ih := cat_len2 m r
    rw [show 2 * (r + 1) = (2 * r + 1) + 1 by omega]
    simp only [catR, List.length_append]
    rw [show ((2 * r : Nat) : Int) = 2 * (r : Int) by omega, show ((2 * r + 1 : Nat) : Int) = 2 * (r : Int) + 1 by omega]
    omega
theorem cat_len3 (m : List S37) (R : Nat) : ∀ r, (catR m (fun q => (q : Int)) (R + r)).length = (catR m (fun q => (q : Int)) R).length + (catR m (fun q => (R : Int) + (q : Int)) r).length
  | 0 => rfl
  | r + 1 => by
    have ih := cat_len3 m R r
    rw [show R + (r + 1) = (R + r) + 1 by omega]
    simp only [catR, List.length_append]
    rw [show ((R + r : Nat) : Int) = (R : Int) + (r : Int) by omega]
    omega
end Go.Proofs.Ythddaojdlfifeaa.P
