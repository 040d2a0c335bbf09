import Derived.Test.YthddaojdlfifeaaP12
/- The reference's functions, in plain Lean. -/
namespace Go.Proofs.Ythddaojdlfifeaa.P
open Go.RowKit Go.Proofs.YthddaojdlfifeaaW.PrintWords Go.Proofs.YthddaojdlfifeaaW.PrintLast Go.Proofs.YthddaojdlfifeaaW.PrintMore
set_option linter.unusedSimpArgs false
set_option linter.unusedVariables false

/-- with rounds enough, g tells v -/
def Ev {α : Type} (g : Nat → Option α) (v : α) : Prop := ∃ K, ∀ k, K ≤ k → g k = some v
theorem Ev.succ {α : Type} {g : Nat → Option α} {v : α} (h : Ev (fun k => g (k + 1)) v) : Ev g v := by
  obtain ⟨K, h⟩ := h
  exact ⟨K + 1, fun k hk => by obtain ⟨k', rfl⟩ : ∃ k', k = k' + 1 := ⟨k - 1, by omega⟩; exact h k' (by omega)⟩
theorem Ev.bind {α β : Type} {g : Nat → Option α} {h : Nat → α → Option β} {a : α} {v : β} (h1 : Ev g a) (h2 : Ev (fun k => h k a) v) : Ev (fun k => (g k).bind (h k)) v := by
  obtain ⟨K, h1⟩ := h1
  obtain ⟨L, h2⟩ := h2
  exact ⟨max K L, fun k hk => by
    show (g k).bind (h k) = some v
    rw [h1 k (by omega)]
    exact h2 k (by omega)⟩
theorem Ev.const {α : Type} (v : α) : Ev (fun _ => some v) v := ⟨0, fun _ _ => rfl⟩
theorem Ev.congr {α : Type} {g g' : Nat → Option α} {v : α} (h : Ev g' v) (e : ∀ k, g k = g' k) : Ev g v := by
  obtain ⟨K, h⟩ := h
  exact ⟨K, fun k hk => by rw [e, h k hk]⟩
theorem Ev.at1 {α : Type} {g : Nat → Option α} {v : α} (h : Ev g v) : ∃ k, g k = some v := by
  obtain ⟨K, h⟩ := h
  exact ⟨K, h K (Nat.le_refl _)⟩
theorem Ev.ite_t {α : Type} {c : Prop} [Decidable c] {t e : Nat → Option α} {v : α} (h : c) (h1 : Ev t v) : Ev (fun k => if c then t k else e k) v := h1.congr fun k => if_pos h
theorem Ev.ite_f {α : Type} {c : Prop} [Decidable c] {t e : Nat → Option α} {v : α} (h : ¬ c) (h1 : Ev e v) : Ev (fun k => if c then t k else e k) v := h1.congr fun k => if_neg h
theorem w1 (i : Nat) (h : i ≤ 1000000000) : wrap64 ((i : Int) + 1) = ((i + 1 : Nat) : Int) := by unfold wrap64; omega
theorem rdN (m : List S37) (i : Nat) : rd_T37 m (i : Int) = m.getD i z37 := rfl
theorem less_eq (x y : S37) : fastiref20_Less.f x.f0 x.f1 x.f2 y.f0 y.f1 y.f2 = some (decide (bef x y)) := by
  unfold fastiref20_Less.f
  by_cases h1 : x.f0 < y.f0
  · rw [if_pos h1, decide_eq_true (.inl h1)]
  · by_cases h2 : x.f0 = y.f0
    · rw [if_neg h1, if_pos h2]
      congr 1
      rw [decide_eq_decide]; unfold bef; omega
    · rw [if_neg h1, if_neg h2]
      congr 1; symm
      rw [decide_eq_false_iff_not]; unfold bef; omega
/-! ### Put, moved -/
def insR (x : S37) : List S37 → List S37
  | [] => [x]
  | y :: l => if bef x y then x :: y :: l else y :: insR x l
theorem insR_perm (x : S37) : ∀ l : List S37, (insR x l).Perm (x :: l)
  | [] => List.Perm.refl _
  | y :: l => by
    rw [insR]
    split
    · exact List.Perm.refl _
    · exact ((insR_perm x l).cons y).trans (List.Perm.swap x y l)
theorem insR_srt (x : S37) : ∀ l : List S37, SrtL l → SrtL (insR x l)
  | [], _ => List.pairwise_singleton _ _
  | y :: l, h => by
    rw [insR]
    have h2 := List.pairwise_cons.1 h
    split
    · rename_i hb
      refine List.pairwise_cons.2 ⟨fun z hz => ?_, h⟩
      rcases List.mem_cons.1 hz with rfl | hz
      · unfold bef at hb; omega
      · have := h2.1 z hz; unfold bef at hb; omega
    · rename_i hb
      refine List.pairwise_cons.2 ⟨fun z hz => ?_, insR_srt x l h2.2⟩
      rcases List.mem_cons.1 ((insR_perm x l).subset hz) with rfl | hz
      · unfold bef at hb; omega
      · exact h2.1 z hz
theorem drop_cons {m : List S37} {i : Nat} (h : i < m.length) : m.drop i = m.getD i z37 :: m.drop (i + 1) := by
  rw [List.drop_eq_getElem_cons h, List.getD_eq_getElem?_getD, List.getElem?_eq_getElem h]; rfl
theorem put_ev (x : S37) (l : List S37) (hl : l.length ≤ 1000000) : ∀ d i, l.length - i = d → i ≤ l.length → Ev (fun k => fastiref20_Put.l0 k l (l.take i) (i : Nat) x.f0 x.f1 x.f2) (l.take i ++ insR x (l.drop i)) := by
  intro d
  induction d with
  | zero =>
    intro i hd hi
    obtain rfl : i = l.length := by omega
    refine Ev.succ ?_
    simp only [fastiref20_Put.l0, Int.lt_irrefl, if_false, List.take_length, List.drop_length, insR]
    refine Ev.ite_t (by omega) ?_
    simp only [Option.bind_some, Int.toNat_natCast, List.drop_length, Int.le_refl, if_true]
    refine Ev.ite_t (by omega) ?_
    refine Ev.ite_t (by simp only [List.length_append, List.length_cons, List.length_nil]; omega) ?_
    rw [List.append_nil]
    exact Ev.const _
  | succ d ih =>
    intro i hd hi
    refine Ev.succ ?_
    simp only [fastiref20_Put.l0]
    refine Ev.ite_t (by omega) ?_
    refine Ev.ite_t (by omega) ?_
    simp only [rdN, less_eq, Option.bind_some]
    have hdr : l.drop i = l.getD i z37 :: l.drop (i + 1) := drop_cons (by omega)
    rw [hdr, insR]
    have ht : (l.take i).length ≤ 1000000 := by simp; omega
    by_cases hb : bef x (l.getD i z37)
    · simp only [hb, decide_true, if_true]
      refine Ev.ite_t (by omega) ?_
      refine Ev.ite_t (by omega) ?_
      refine Ev.ite_t (by simp only [List.length_append, List.length_cons, List.length_nil, Int.toNat_natCast, List.length_drop]; omega) ?_
      rw [Int.toNat_natCast, hdr, List.append_assoc]
      exact Ev.const _
    · simp only [hb, decide_false, if_false, Bool.false_eq_true]
      refine Ev.ite_t (by omega) ?_
      rw [w1 i (by omega)]
      have := ih (i + 1) (by omega) (by omega)
      rw [take_snocS l i z37 (by omega), List.append_assoc] at this
      exact this
theorem putf_ev (x : S37) (l : List S37) (hl : l.length ≤ 1000000) : Ev (fun k => fastiref20_Put.f k l x.f0 x.f1 x.f2) (insR x l) := by
  have := put_ev x l hl l.length 0 (by omega) (by omega)
  exact this
def mvd (r : Int) (turn : Bool) (x : S37) : S37 := if turn then trn r x else setR r x
def movM (l : List S37) (r : Int) (turn : Bool) : List S37 := l.foldl (fun acc y => insR (mvd r turn y) acc) []
theorem mov_fold (r : Int) (turn : Bool) : ∀ (l acc : List S37), (l.foldl (fun acc y => insR (mvd r turn y) acc) acc).Perm (l.map (mvd r turn) ++ acc) ∧ (SrtL acc → SrtL (l.foldl (fun acc y => insR (mvd r turn y) acc) acc))
  | [], acc => ⟨List.Perm.refl _, id⟩
  | x :: l, acc => by
    obtain ⟨h1, h2⟩ := mov_fold r turn l (insR (mvd r turn x) acc)
    refine ⟨h1.trans ?_, fun h => h2 (insR_srt _ _ h)⟩
    exact ((insR_perm _ _).append_left _).trans List.perm_middle
theorem mov_perm (l : List S37) (r : Int) (turn : Bool) : (movM l r turn).Perm (l.map (mvd r turn)) := by
  have := (mov_fold r turn l []).1
  rwa [List.append_nil] at this
theorem mov_srt (l : List S37) (r : Int) (turn : Bool) : SrtL (movM l r turn) := (mov_fold r turn l []).2 List.Pairwise.nil
theorem moved_ev (l : List S37) (r : Int) (turn : Bool) (hl : l.length ≤ 1000000) : Ev (fun k => fastiref20_moved.f k l r turn) (movM l r turn) := by
  have key : ∀ d i, l.length - i = d → i ≤ l.length → Ev (fun k => fastiref20_moved.l0 k l r turn ((l.take i).foldl (fun acc y => insR (mvd r turn y) acc) []) (i : Nat)) (movM l r turn) := by
    intro d
    induction d with
    | zero =>
      intro i hd hi
      obtain rfl : i = l.length := by omega
      refine Ev.succ ?_
      simp only [fastiref20_moved.l0, Int.lt_irrefl, if_false, List.take_length]
      exact Ev.const _
    | succ d ih =>
      intro i hd hi
      refine Ev.succ ?_
      simp only [fastiref20_moved.l0]
      refine Ev.ite_t (by omega) ?_
      refine Ev.ite_t (by omega) ?_
      have h2 := ih (i + 1) (by omega) (by omega)
      rw [take_snocS l i z37 (by omega), List.foldl_append] at h2
      have hlen : ((l.take i).foldl (fun acc y => insR (mvd r turn y) acc) []).length ≤ 1000000 := by
        have := (mov_fold r turn (l.take i) []).1.length_eq
        simp only [List.length_append, List.length_map, List.length_nil, List.length_take] at this
        omega
      cases turn with
      | true =>
        simp only [if_true, rdN]
        refine Ev.bind (putf_ev (trn r (l.getD i z37)) _ hlen) ?_
        rw [w1 i (by omega)]
        exact h2
      | false =>
        simp only [Bool.false_eq_true, if_false, rdN]
        refine Ev.bind (putf_ev (setR r (l.getD i z37)) _ hlen) ?_
        rw [w1 i (by omega)]
        exact h2
  exact key l.length 0 (by omega) (by omega)
/-! ### Of, Same, plays -/
theorem of_ev (m : List S37) (r : Int) (hl : m.length ≤ 1000000) : Ev (fun k => fastiref20_Of.f k m r) (byR m r) := by
  have key : ∀ d i, m.length - i = d → i ≤ m.length → Ev (fun k => fastiref20_Of.l0 k m r (byR (m.take i) r) (i : Nat)) (byR m r) := by
    intro d
    induction d with
    | zero =>
      intro i hd hi
      obtain rfl : i = m.length := by omega
      refine Ev.succ ?_
      simp only [fastiref20_Of.l0, Int.lt_irrefl, if_false, List.take_length]
      exact Ev.const _
    | succ d ih =>
      intro i hd hi
      refine Ev.succ ?_
      simp only [fastiref20_Of.l0]
      refine Ev.ite_t (by omega) ?_
      refine Ev.ite_t (by omega) ?_
      have h2 := ih (i + 1) (by omega) (by omega)
      rw [take_snocS m i z37 (by omega), byR_snoc] at h2
      have hlen : (byR (m.take i) r).length ≤ 1000000 := Nat.le_trans (List.length_filter_le _ _) (by simp; omega)
      simp only [rdN]
      rw [w1 i (by omega)]
      by_cases h : (m.getD i z37).f0 = r
      · refine Ev.ite_t h ?_
        refine Ev.ite_t (by omega) ?_
        rw [if_pos h] at h2
        exact h2
      · refine Ev.ite_f h ?_
        rw [if_neg h] at h2
        exact h2
  exact key m.length 0 (by omega) (by omega)
theorem same_ev (l l' : List S37) (hl : l.length ≤ 1000000) : Ev (fun k => fastiref20_Same.f k l l') (decide (l = l')) := by
  unfold fastiref20_Same.f
  by_cases hll : l.length = l'.length
  · refine Ev.ite_t (by omega) ?_
    have key : ∀ d i, l.length - i = d → i ≤ l.length → l.take i = l'.take i → Ev (fun k => fastiref20_Same.l0 k l l' (i : Nat)) (decide (l = l')) := by
      intro d
      induction d with
      | zero =>
        intro i hd hi ht
        obtain rfl : i = l.length := by omega
        have e : l = l' := by rw [List.take_length, hll, List.take_length] at ht; exact ht
        rw [decide_eq_true e]
        refine Ev.succ ?_
        simp only [fastiref20_Same.l0, Int.lt_irrefl, if_false]
        exact Ev.const _
      | succ d ih =>
        intro i hd hi ht
        refine Ev.succ ?_
        simp only [fastiref20_Same.l0]
        refine Ev.ite_t (by omega) ?_
        refine Ev.ite_t (by omega) ?_
        refine Ev.ite_t (by omega) ?_
        simp only [rdN]
        have h1 := take_snocS l i z37 (by omega)
        have h2 := take_snocS l' i z37 (by omega)
        by_cases he : l.getD i z37 = l'.getD i z37
        · have e : (!((l.getD i z37).f0 == (l'.getD i z37).f0) || (!((l.getD i z37).f1 == (l'.getD i z37).f1) || !((l.getD i z37).f2 == (l'.getD i z37).f2))) = false := by rw [he]; simp
          refine Ev.ite_f (by rw [e]; exact Bool.false_ne_true) ?_
          rw [w1 i (by omega)]
          exact ih (i + 1) (by omega) (by omega) (by rw [h1, h2, ht, he])
        · have e : (!((l.getD i z37).f0 == (l'.getD i z37).f0) || (!((l.getD i z37).f1 == (l'.getD i z37).f1) || !((l.getD i z37).f2 == (l'.getD i z37).f2))) = true := by
            generalize l.getD i z37 = a at he
            generalize l'.getD i z37 = b at he
            cases a; cases b
            simp only [S37.mk.injEq] at he
            simp only [Bool.or_eq_true, Bool.not_eq_true', beq_eq_false_iff_ne]
            omega
          refine Ev.ite_t e ?_
          rw [decide_eq_false (fun h => he (by rw [h]))]
          exact Ev.const _
    exact key l.length 0 (by omega) (by omega) rfl
  · refine Ev.ite_f (by omega) ?_
    rw [decide_eq_false (fun h => hll (by rw [h]))]
    exact Ev.const _
theorem plays_ev (y : S37) (t : Int) : Ev (fun k => fastiref20_plays.f k [y] t) (decide (y.f1 = t ∨ y.f2 = t)) := by
  unfold fastiref20_plays.f
  refine Ev.succ ?_
  simp only [fastiref20_plays.l0]
  refine Ev.ite_t (by simp) ?_
  refine Ev.ite_t (by omega) ?_
  rw [show rd_T37 [y] 0 = y from rfl]
  by_cases h1 : y.f1 = t
  · refine Ev.ite_t h1 ?_
    rw [decide_eq_true (.inl h1)]
    exact Ev.const _
  · by_cases h2 : y.f2 = t
    · refine Ev.ite_f h1 ?_
      refine Ev.ite_t h2 ?_
      rw [decide_eq_true (.inr h2)]
      exact Ev.const _
    · refine Ev.ite_f h1 ?_
      refine Ev.ite_f h2 ?_
      rw [decide_eq_false (by omega)]
      refine Ev.succ ?_
      simp only [fastiref20_plays.l0]
      refine Ev.ite_f (by unfold wrap64; simp) ?_
      exact Ev.const _
end Go.Proofs.Ythddaojdlfifeaa.P

/- The reference's Check, in plain Lean. -/
namespace Go.Proofs.Ythddaojdlfifeaa.P
open Go.RowKit Go.Proofs.YthddaojdlfifeaaW.PrintWords Go.Proofs.YthddaojdlfifeaaW.PrintLast Go.Proofs.YthddaojdlfifeaaW.PrintMore
set_option linter.unusedSimpArgs false
set_option linter.unusedVariables false

theorem slots_mem (m : List S37) (r t : Int) : ∀ i, i ≤ m.length → ((r, t) ∈ slots (m.take i) ↔ ∃ j, j < i ∧ (m.getD j z37).f0 = r ∧ ((m.getD j z37).f1 = t ∨ (m.getD j z37).f2 = t))
  | 0, _ => by simp [slots]
  | i + 1, hi => by
    rw [take_snocS m i z37 (by omega), slots_snoc, List.mem_append, slots_mem m r t i (by omega)]
    constructor
    · rintro (⟨j, h1, h2⟩ | h)
      · exact ⟨j, by omega, h2⟩
      · refine ⟨i, by omega, ?_⟩
        simp only [List.mem_cons, Prod.mk.injEq, List.not_mem_nil, or_false] at h
        rcases h with ⟨h1, h2⟩ | ⟨h1, h2⟩
        · exact ⟨h1.symm, .inl h2.symm⟩
        · exact ⟨h1.symm, .inr h2.symm⟩
    · rintro ⟨j, h1, h2, h3⟩
      rcases Nat.lt_or_ge j i with h | h
      · exact .inl ⟨j, h, h2, h3⟩
      · obtain rfl : j = i := by omega
        refine .inr ?_
        simp only [List.mem_cons, Prod.mk.injEq, List.not_mem_nil, or_false]
        rcases h3 with h3 | h3
        · exact .inl ⟨h2.symm, h3.symm⟩
        · exact .inr ⟨h2.symm, h3.symm⟩
def clash (y x : S37) : Prop := y.f0 = x.f0 ∧ ((y.f1 = x.f1 ∨ y.f2 = x.f1) ∨ (y.f1 = x.f2 ∨ y.f2 = x.f2))
theorem okI_clash (n Q : Int) (m : List S37) (i : Nat) (hi : i ≤ m.length) : okI n Q m i ↔ okX n Q (m.getD i z37) ∧ (0 < i → bef (m.getD (i - 1) z37) (m.getD i z37)) ∧ ∀ j, j < i → ¬ clash (m.getD j z37) (m.getD i z37) := by
  unfold okI
  rw [slots_mem m _ _ i hi, slots_mem m _ _ i hi]
  constructor
  · rintro ⟨h1, h2, h3, h4⟩
    refine ⟨h1, h2, fun j hj hc => ?_⟩
    rcases hc.2 with h | h
    · exact h3 ⟨j, hj, hc.1, h⟩
    · exact h4 ⟨j, hj, hc.1, h⟩
  · rintro ⟨h1, h2, h3⟩
    exact ⟨h1, h2, fun ⟨j, hj, h4, h5⟩ => h3 j hj ⟨h4, .inl h5⟩, fun ⟨j, hj, h4, h5⟩ => h3 j hj ⟨h4, .inr h5⟩⟩
theorem cut1 (m : List S37) (j : Nat) (hj : j < m.length) (hm : m.length ≤ 1000000) : (m.take (wrap64 ((j : Int) + 1) : Int).toNat).drop (j : Int).toNat = [m.getD j z37] := by
  rw [w1 j (by omega), Int.toNat_natCast, Int.toNat_natCast, take_snocS m j z37 hj]
  have hl : (m.take j).length = j := by simp; omega
  exact List.drop_left' hl
theorem formed_ev (n Q : Int) (m : List S37) (hl : m.length ≤ 1000000) : Ev (fun k => fastiref20_formed.f k n Q m) (decide (∀ i, i < m.length → okI n Q m i)) := by
  have key : ∀ d i, m.length - i = d → i ≤ m.length → (∀ j, j < i → okI n Q m j) → Ev (fun k => fastiref20_formed.l0 k n Q m (i : Nat)) (decide (∀ i, i < m.length → okI n Q m i)) := by
    intro d
    induction d with
    | zero =>
      intro i hd hi hok
      obtain rfl : i = m.length := by omega
      rw [decide_eq_true hok]
      refine Ev.succ ?_
      simp only [fastiref20_formed.l0, Int.lt_irrefl, if_false]
      exact Ev.const _
    | succ d ih =>
      intro i hd hi hok
      have hbad : ¬ okI n Q m i → Ev (fun _ => some false) (decide (∀ i, i < m.length → okI n Q m i)) := fun h => by
        rw [decide_eq_false (fun h2 => h (h2 i (by omega)))]
        exact Ev.const _
      have hic := okI_clash n Q m i hi
      have ih' := ih (i + 1) (by omega) (by omega)
      have hnext : okI n Q m i → Ev (fun k => fastiref20_formed.l0 k n Q m ((i + 1 : Nat) : Int)) (decide (∀ i, i < m.length → okI n Q m i)) := fun h => ih' (fun j hj => by
        rcases Nat.lt_or_ge j i with h2 | h2
        · exact hok j h2
        · obtain rfl : j = i := by omega
          exact h)
      have j1t : ¬ okX n Q (m.getD i z37) → ∀ a b c, Ev (fun k => fastiref20_formed.j1 k n Q m (i : Nat) true a b c) (decide (∀ i, i < m.length → okI n Q m i)) := fun h a b c => by
        refine Ev.succ ?_
        simp only [fastiref20_formed.j1, if_true]
        exact hbad (fun h2 => h (hic.1 h2).1)
      refine Ev.succ ?_
      simp only [fastiref20_formed.l0]
      refine Ev.ite_t (by omega) ?_
      refine Ev.ite_t (by omega) ?_
      rw [show m.getD i z37 = rd_T37 m (i : Int) from rfl] at hic j1t
      generalize rd_T37 m (i : Int) = x at hic j1t ⊢
      by_cases c1 : x.f0 < 0
      · exact Ev.ite_t c1 (j1t (by unfold okX; omega) _ _ _)
      refine Ev.ite_f c1 ?_
      by_cases c2 : x.f0 ≥ Q
      · exact Ev.ite_t c2 (j1t (by unfold okX; omega) _ _ _)
      refine Ev.ite_f c2 ?_
      by_cases c3 : x.f1 < 0
      · exact Ev.ite_t c3 (j1t (by unfold okX; omega) _ _ _)
      refine Ev.ite_f c3 ?_
      by_cases c4 : x.f1 ≥ n
      · exact Ev.ite_t c4 (j1t (by unfold okX; omega) _ _ _)
      refine Ev.ite_f c4 ?_
      by_cases c5 : x.f2 < 0
      · exact Ev.ite_t c5 (j1t (by unfold okX; omega) _ _ _)
      refine Ev.ite_f c5 ?_
      by_cases c6 : x.f2 ≥ n
      · exact Ev.ite_t c6 (j1t (by unfold okX; omega) _ _ _)
      refine Ev.ite_f c6 ?_
      by_cases c7 : x.f1 = x.f2
      · rw [show (x.f1 == x.f2) = true by simp [c7]]
        exact j1t (by unfold okX; omega) _ _ _
      rw [show (x.f1 == x.f2) = false by simp [c7]]
      have hokx : okX n Q x := ⟨by omega, by omega, ⟨by omega, by omega⟩, ⟨by omega, by omega⟩, c7⟩
      have hj2t : ¬ (0 < i → bef (m.getD (i - 1) z37) x) → Ev (fun k => fastiref20_formed.j2 k n Q m (i : Nat) true x.f0 x.f1 x.f2) (decide (∀ i, i < m.length → okI n Q m i)) := fun h => by
        refine Ev.succ ?_
        simp only [fastiref20_formed.j2, if_true]
        exact hbad (fun h2 => h (hic.1 h2).2.1)
      have hj2f : (0 < i → bef (m.getD (i - 1) z37) x) → Ev (fun k => fastiref20_formed.j2 k n Q m (i : Nat) false x.f0 x.f1 x.f2) (decide (∀ i, i < m.length → okI n Q m i)) := fun hb => by
        have inner : ∀ d j, i - j = d → j ≤ i → (∀ q, q < j → ¬ clash (m.getD q z37) x) → Ev (fun k => fastiref20_formed.l1 k n Q m (i : Nat) (j : Nat) x.f0 x.f1 x.f2) (decide (∀ i, i < m.length → okI n Q m i)) := by
          intro d
          induction d with
          | zero =>
            intro j hd hj hno
            obtain rfl : j = i := by omega
            refine Ev.succ ?_
            simp only [fastiref20_formed.l1]
            refine Ev.ite_f (by omega) ?_
            rw [w1 j (by omega)]
            exact hnext (hic.2 ⟨hokx, hb, hno⟩)
          | succ d ih2 =>
            intro j hd hj hno
            have hcl : clash (m.getD j z37) x → Ev (fun _ => some false) (decide (∀ i, i < m.length → okI n Q m i)) := fun h => hbad (fun h2 => (hic.1 h2).2.2 j (by omega) h)
            have hgo : ¬ clash (m.getD j z37) x → Ev (fun k => fastiref20_formed.l1 k n Q m (i : Nat) ((j + 1 : Nat) : Int) x.f0 x.f1 x.f2) (decide (∀ i, i < m.length → okI n Q m i)) := fun h => ih2 (j + 1) (by omega) (by omega) (fun q hq => by
              rcases Nat.lt_or_ge q j with h2 | h2
              · exact hno q h2
              · obtain rfl : q = j := by omega
                exact h)
            refine Ev.succ ?_
            simp only [fastiref20_formed.l1]
            refine Ev.ite_t (by omega) ?_
            refine Ev.ite_t (by omega) ?_
            refine Ev.ite_t (by omega) ?_
            rw [cut1 m j (by omega) hl, w1 j (by omega)]
            rw [show m.getD j z37 = rd_T37 m (j : Int) from rfl] at hcl hgo ⊢
            generalize rd_T37 m (j : Int) = y at hcl hgo ⊢
            by_cases e0 : y.f0 = x.f0
            · refine Ev.ite_t e0 ?_
              refine Ev.ite_t (by omega) ?_
              refine Ev.ite_t (by omega) ?_
              refine Ev.bind (plays_ev y x.f1) ?_
              by_cases e1 : y.f1 = x.f1 ∨ y.f2 = x.f1
              · simp only [decide_eq_true e1, if_true]
                exact hcl ⟨e0, .inl e1⟩
              · simp only [decide_eq_false e1, Bool.false_eq_true, if_false]
                refine Ev.bind (plays_ev y x.f2) ?_
                by_cases e2 : y.f1 = x.f2 ∨ y.f2 = x.f2
                · simp only [decide_eq_true e2, if_true]
                  exact hcl ⟨e0, .inr e2⟩
                · simp only [decide_eq_false e2, Bool.false_eq_true, if_false]
                  exact hgo (fun h => h.2.elim e1 e2)
            · refine Ev.ite_f e0 ?_
              exact hgo (fun h => e0 h.1)
        refine Ev.succ ?_
        simp only [fastiref20_formed.j2, Bool.false_eq_true, if_false]
        exact inner i 0 (by omega) (by omega) (fun q hq => absurd hq (Nat.not_lt_zero _))
      refine Ev.succ ?_
      simp only [fastiref20_formed.j1, Bool.false_eq_true, if_false]
      by_cases c8 : (i : Int) > 0
      · refine Ev.ite_t c8 ?_
        have e8 : wrap64 ((i : Int) - 1) = ((i - 1 : Nat) : Int) := by unfold wrap64; omega
        rw [e8]
        refine Ev.ite_t (by omega) ?_
        refine Ev.ite_t (by omega) ?_
        simp only [rdN, less_eq, Option.bind_some]
        by_cases hb : bef (m.getD (i - 1) z37) x
        · rw [decide_eq_true hb]
          exact hj2f (fun _ => hb)
        · rw [decide_eq_false hb]
          exact hj2t (fun h => hb (h (by omega)))
      · refine Ev.ite_f c8 ?_
        exact hj2f (fun h => absurd h (by omega))
  exact key m.length 0 (by omega) (by omega) (fun j hj => absurd hj (Nat.not_lt_zero _))
theorem pr_same (x y : S37) : pr x = pr y ↔ (x.f1 = y.f1 ∧ x.f2 = y.f2) ∨ (x.f1 = y.f2 ∧ x.f2 = y.f1) := by
  unfold pr
  rw [Prod.mk.injEq]; omega
def onceP (n : Nat) (l : List S37) : Prop := (l.map pr).Nodup ∧ l.length = n * (n - 1) / 2
instance (n : Nat) (l : List S37) : Decidable (onceP n l) := inferInstanceAs (Decidable (_ ∧ _))
theorem once_ev (n : Nat) (hn : 2 ≤ n ∧ n ≤ 20) (l : List S37) (hl : l.length ≤ 1000000) : Ev (fun k => fastiref20_once.f k n l) (decide (onceP n l)) := by
  have hnd : ∀ i j, j < i → i < l.length → pr (l.getD i z37) = pr (l.getD j z37) → ¬ (l.map pr).Nodup := fun i j hj hi he h => by
    have h2 := List.pairwise_iff_getElem.1 h j i (by simp; omega) (by simp; omega) hj
    simp only [List.getElem_map] at h2
    rw [List.getD_eq_getElem?_getD, List.getElem?_eq_getElem hi, List.getD_eq_getElem?_getD, List.getElem?_eq_getElem (by omega)] at he
    exact h2 he.symm
  have key : ∀ d i, l.length - i = d → i ≤ l.length → ((l.take i).map pr).Nodup → Ev (fun k => fastiref20_once.l0 k n l (i : Nat)) (decide (onceP n l)) := by
    intro d
    induction d with
    | zero =>
      intro i hd hi hok
      obtain rfl : i = l.length := by omega
      rw [List.take_length] at hok
      refine Ev.succ ?_
      simp only [fastiref20_once.l0, Int.lt_irrefl, if_false]
      have hN : n * (n - 1) ≤ 20 * 19 := Nat.mul_le_mul (by omega) (by omega)
      have e1 : wrap64 ((n : Int) - 1) = ((n - 1 : Nat) : Int) := by unfold wrap64; omega
      have e2 : wrap64 ((n : Int) * ((n - 1 : Nat) : Int)) = ((n * (n - 1) : Nat) : Int) := by rw [← Int.natCast_mul]; unfold wrap64; omega
      have e3 : wrap64 (Int.tdiv ((n * (n - 1) : Nat) : Int) 2) = ((n * (n - 1) / 2 : Nat) : Int) := by
        rw [Int.tdiv_eq_ediv_of_nonneg (by omega)]
        generalize n * (n - 1) = N at *
        unfold wrap64; omega
      rw [e1, e2, e3]
      have e4 : (((l.length : Nat) : Int) == ((n * (n - 1) / 2 : Nat) : Int)) = decide (onceP n l) := by
        rw [Bool.eq_iff_iff, beq_iff_eq, decide_eq_true_iff]
        unfold onceP
        constructor
        · intro h; exact ⟨hok, by omega⟩
        · intro h; rw [h.2]
      rw [e4]
      exact Ev.const _
    | succ d ih =>
      intro i hd hi hok
      have inner : ∀ d j, i - j = d → j ≤ i → (∀ q, q < j → pr (l.getD i z37) ≠ pr (l.getD q z37)) → Ev (fun k => fastiref20_once.l1 k n l (i : Nat) (j : Nat)) (decide (onceP n l)) := by
        intro d
        induction d with
        | zero =>
          intro j hd hj hno
          obtain rfl : j = i := by omega
          refine Ev.succ ?_
          simp only [fastiref20_once.l1, Int.lt_irrefl, if_false]
          rw [w1 j (by omega)]
          refine ih (j + 1) (by omega) (by omega) ?_
          rw [take_snocS l j z37 (by omega), List.map_append, List.nodup_append]
          refine ⟨hok, by simp, ?_⟩
          rintro p hp q hq rfl
          simp only [List.map_cons, List.map_nil, List.mem_singleton] at hq
          obtain ⟨y, hy, rfl⟩ := List.mem_map.1 hp
          obtain ⟨q, hq2, rfl⟩ := List.getElem_of_mem hy
          simp only [List.length_take] at hq2
          refine hno q (by omega) ?_
          rw [← hq, List.getElem_take, List.getD_eq_getElem?_getD, List.getElem?_eq_getElem (by omega)]; rfl
        | succ d ih2 =>
          intro j hd hj hno
          have hgo : pr (l.getD i z37) ≠ pr (l.getD j z37) → Ev (fun k => fastiref20_once.l1 k n l (i : Nat) ((j + 1 : Nat) : Int)) (decide (onceP n l)) := fun h => ih2 (j + 1) (by omega) (by omega) (fun q hq => by
            rcases Nat.lt_or_ge q j with h2 | h2
            · exact hno q h2
            · obtain rfl : q = j := by omega
              exact h)
          have hstop : pr (l.getD i z37) = pr (l.getD j z37) → Ev (fun _ => some false) (decide (onceP n l)) := fun h => by
            rw [decide_eq_false (fun h2 => hnd i j (by omega) (by omega) h h2.1)]
            exact Ev.const _
          refine Ev.succ ?_
          simp only [fastiref20_once.l1]
          refine Ev.ite_t (by omega) ?_
          refine Ev.ite_t (by omega) ?_
          refine Ev.ite_t (by omega) ?_
          refine Ev.ite_t (by omega) ?_
          refine Ev.ite_t (by omega) ?_
          rw [w1 j (by omega)]
          have hps := pr_same (l.getD i z37) (l.getD j z37)
          rw [show l.getD i z37 = rd_T37 l (i : Int) from rfl, show l.getD j z37 = rd_T37 l (j : Int) from rfl] at hgo hstop hps
          generalize rd_T37 l (i : Int) = x at hgo hstop hps ⊢
          generalize rd_T37 l (j : Int) = y at hgo hstop hps ⊢
          by_cases a1 : x.f1 = y.f1
          · refine Ev.ite_t a1 ?_
            by_cases a2 : x.f2 = y.f2
            · exact Ev.ite_t a2 (hstop (hps.2 (.inl ⟨a1, a2⟩)))
            · refine Ev.ite_f a2 ?_
              by_cases a3 : x.f1 = y.f2
              · refine Ev.ite_t a3 ?_
                by_cases a4 : x.f2 = y.f1
                · exact Ev.ite_t a4 (hstop (hps.2 (.inr ⟨a3, a4⟩)))
                · exact Ev.ite_f a4 (hgo (fun h => by have := hps.1 h; omega))
              · exact Ev.ite_f a3 (hgo (fun h => by have := hps.1 h; omega))
          · refine Ev.ite_f a1 ?_
            by_cases a3 : x.f1 = y.f2
            · refine Ev.ite_t a3 ?_
              by_cases a4 : x.f2 = y.f1
              · exact Ev.ite_t a4 (hstop (hps.2 (.inr ⟨a3, a4⟩)))
              · exact Ev.ite_f a4 (hgo (fun h => by have := hps.1 h; omega))
            · exact Ev.ite_f a3 (hgo (fun h => by have := hps.1 h; omega))
      refine Ev.succ ?_
      simp only [fastiref20_once.l0]
      refine Ev.ite_t (by omega) ?_
      exact inner i 0 (by omega) (by omega) (fun q hq => absurd hq (Nat.not_lt_zero _))
  exact key l.length 0 (by omega) (by omega) (by simp)
end Go.Proofs.Ythddaojdlfifeaa.P

/- The reference's Check answers as the program's does. -/
namespace Go.Proofs.Ythddaojdlfifeaa.P
open Go.RowKit Go.Proofs.YthddaojdlfifeaaW.PrintWords Go.Proofs.YthddaojdlfifeaaW.PrintLast Go.Proofs.YthddaojdlfifeaaW.PrintMore
set_option linter.unusedSimpArgs false
set_option linter.unusedVariables false

/-- the single round robin that the reference gathers -/
def sglL (m : List S37) (R : Nat) (kind : Int) : Nat → List S37
  | 0 => []
  | r + 1 => sglL m R kind r ++ movM (byR m (mkA R kind r)) r false
def turnOk (m : List S37) (R : Nat) (kind : Int) (r : Nat) : Prop := byR m (mkB R kind r) = movM (byR m (mkA R kind r)) (mkB R kind r) true
instance (m : List S37) (R : Nat) (kind : Int) (r : Nat) : Decidable (turnOk m R kind r) := inferInstanceAs (Decidable (_ = _))
def refOk (n R : Nat) (kind : Int) (m : List S37) : Prop := m.length ≤ n * (n - 1) ∧ (∀ i, i < m.length → okI n (rndsQ R kind) m i) ∧ (if kind = 1 then onceP n m else (∀ r, r < R → turnOk m R kind r) ∧ onceP n (sglL m R kind R))
instance (n R : Nat) (kind : Int) (m : List S37) : Decidable (refOk n R kind m) := inferInstanceAs (Decidable (_ ∧ _ ∧ ite _ _ _))
theorem byR_len (m : List S37) (r : Int) : (byR m r).length ≤ m.length := List.length_filter_le _ _
theorem mov_len (l : List S37) (r : Int) (t : Bool) : (movM l r t).length = l.length := by rw [(mov_perm l r t).length_eq, List.length_map]
theorem sgl_len (m : List S37) (R : Nat) (kind : Int) : ∀ r, (sglL m R kind r).length ≤ r * m.length
  | 0 => by simp [sglL]
  | r + 1 => by
    have := sgl_len m R kind r
    have h2 := byR_len m (mkA R kind r)
    rw [sglL, List.length_append, mov_len, Nat.succ_mul]; omega
theorem half_eq (n R : Nat) (hn : 2 ≤ n ∧ n ≤ 20) (hRe : R = n - 1 + n % 2) : fastiref20_half.f n = some (R : Int) := by
  unfold fastiref20_half.f
  rw [Int.tmod_eq_emod_of_nonneg (by omega)]
  congr 1; unfold wrap64; omega
theorem refRounds_eq (n R : Nat) (kind : Int) (hn : 2 ≤ n ∧ n ≤ 20) (hk : 1 ≤ kind ∧ kind ≤ 3) (hRe : R = n - 1 + n % 2) : fastiref20_Rounds.f n kind = some (((rndsQ R kind : Nat) : Int), 0) := by
  have hf : fastiref20_fine.f n kind = some true := by
    unfold fastiref20_fine.f
    rw [if_pos (by omega), if_pos (by omega)]
    by_cases h1 : kind = 1
    · rw [if_pos h1]
    · by_cases h2 : kind = 2
      · rw [if_neg h1, if_pos h2]
      · rw [if_neg h1, if_neg h2]
        congr 1; rw [beq_iff_eq]; omega
  unfold fastiref20_Rounds.f
  rw [hf, half_eq n R hn hRe]
  simp only [Option.bind_some, if_true]
  unfold rndsQ
  by_cases h1 : kind = 1
  · rw [if_pos h1, if_pos h1]
  · rw [if_neg h1, if_neg h1]
    congr 2; unfold wrap64; omega
theorem refCheck_ev (n R : Nat) (kind : Int) (hn : 2 ≤ n ∧ n ≤ 20) (hk : 1 ≤ kind ∧ kind ≤ 3) (hRe : R = n - 1 + n % 2) (m : List S37) (hl : m.length ≤ 400) : Ev (fun k => fastiref20_Check.f k n kind m) (if refOk n R kind m then 0 else 200) := by
  have hR : R ≤ 20 := by omega
  have no : ¬ refOk n R kind m → ∀ v : Int, v = 200 → Ev (fun _ => some v) (if refOk n R kind m then 0 else 200) := fun h v hv => by
    rw [if_neg h, hv]; exact Ev.const _
  have yes : refOk n R kind m → ∀ v : Int, v = 0 → Ev (fun _ => some v) (if refOk n R kind m then 0 else 200) := fun h v hv => by
    rw [if_pos h, hv]; exact Ev.const _
  have hN : n * (n - 1) ≤ 20 * 19 := Nat.mul_le_mul (by omega) (by omega)
  have e1 : wrap64 ((n : Int) - 1) = ((n - 1 : Nat) : Int) := by unfold wrap64; omega
  have e2 : wrap64 ((n : Int) * ((n - 1 : Nat) : Int)) = ((n * (n - 1) : Nat) : Int) := by rw [← Int.natCast_mul]; unfold wrap64; omega
  have j0t : ¬ refOk n R kind m → Ev (fun k => fastiref20_Check.j0 k n kind m true) (if refOk n R kind m then 0 else 200) := fun h => by
    refine Ev.succ ?_
    simp only [fastiref20_Check.j0, if_true]
    exact no h _ rfl
  unfold fastiref20_Check.f
  rw [refRounds_eq n R kind hn hk hRe]
  simp only [Option.bind_some, if_true, e1, e2]
  by_cases h1 : ((m.length : Nat) : Int) > ((n * (n - 1) : Nat) : Int)
  · exact Ev.ite_t h1 (j0t (fun h => by have := h.1; omega))
  refine Ev.ite_f h1 ?_
  refine Ev.bind (formed_ev n (rndsQ R kind : Nat) m (by omega)) ?_
  by_cases h2 : ∀ i, i < m.length → okI n (rndsQ R kind : Nat) m i
  case neg =>
    rw [decide_eq_false h2]
    exact j0t (fun h => h2 h.2.1)
  rw [decide_eq_true h2]
  refine Ev.succ ?_
  simp only [fastiref20_Check.j0, Bool.not_true, Bool.false_eq_true, if_false]
  by_cases h3 : kind = 1
  · refine Ev.ite_t h3 ?_
    refine Ev.bind (once_ev n hn m (by omega)) ?_
    have e3 : refOk n R kind m ↔ onceP n m := ⟨fun h => by have := h.2.2; rwa [if_pos h3] at this, fun h => ⟨by omega, h2, by rw [if_pos h3]; exact h⟩⟩
    by_cases h4 : onceP n m
    · rw [decide_eq_true h4]
      exact Ev.ite_t rfl (yes (e3.2 h4) _ rfl)
    · rw [decide_eq_false h4]
      exact Ev.ite_f (by decide) (no (fun h => h4 (e3.1 h)) _ rfl)
  refine Ev.ite_f h3 ?_
  have e3 : refOk n R kind m ↔ (∀ r, r < R → turnOk m R kind r) ∧ onceP n (sglL m R kind R) := ⟨fun h => by have := h.2.2; rwa [if_neg h3] at this, fun h => ⟨by omega, h2, by rw [if_neg h3]; exact h⟩⟩
  have key : ∀ d r, R - r = d → r ≤ R → (∀ q, q < r → turnOk m R kind q) → Ev (fun k => fastiref20_Check.l0 k n kind m (sglL m R kind r) (r : Nat)) (if refOk n R kind m then 0 else 200) := by
    intro d
    induction d with
    | zero =>
      intro r hd hr hok
      obtain rfl : r = R := by omega
      refine Ev.succ ?_
      simp only [fastiref20_Check.l0, half_eq n r hn hRe, Option.bind_some, Int.lt_irrefl, if_false]
      have hsl := sgl_len m r kind r
      have h5 : r * m.length ≤ 20 * 400 := Nat.mul_le_mul (by omega) hl
      refine Ev.bind (once_ev n hn (sglL m r kind r) (by omega)) ?_
      by_cases h4 : onceP n (sglL m r kind r)
      · rw [decide_eq_true h4]
        exact Ev.ite_t rfl (yes (e3.2 ⟨hok, h4⟩) _ rfl)
      · rw [decide_eq_false h4]
        exact Ev.ite_f (by decide) (no (fun h => h4 (e3.1 h).2) _ rfl)
    | succ d ih =>
      intro r hd hr hok
      have ih' := fun h : turnOk m R kind r => ih (r + 1) (by omega) (by omega) (fun q hq => by
        rcases Nat.lt_or_ge q r with h2 | h2
        · exact hok q h2
        · obtain rfl : q = r := by omega
          exact h)
      have hj2 : Ev (fun k => fastiref20_Check.j2 k n kind m (sglL m R kind r) (r : Nat) (mkA R kind r) (mkB R kind r)) (if refOk n R kind m then 0 else 200) := by
        refine Ev.succ ?_
        simp only [fastiref20_Check.j2]
        refine Ev.bind (of_ev m (mkA R kind r) (by omega)) ?_
        have hbl := byR_len m (mkA R kind r)
        refine Ev.bind (moved_ev _ (r : Nat) false (by omega)) ?_
        have hsl := sgl_len m R kind r
        have h5 : r * m.length ≤ 20 * 400 := Nat.mul_le_mul (by omega) hl
        refine Ev.ite_t (by rw [mov_len]; omega) ?_
        refine Ev.bind (of_ev m (mkB R kind r) (by omega)) ?_
        refine Ev.bind (moved_ev _ (mkB R kind r) true (by omega)) ?_
        refine Ev.bind (same_ev _ _ (by have := byR_len m (mkB R kind r); omega)) ?_
        by_cases h4 : turnOk m R kind r
        · rw [decide_eq_true (show byR m (mkB R kind r) = movM (byR m (mkA R kind r)) (mkB R kind r) true from h4)]
          refine Ev.ite_t rfl ?_
          rw [w1 r (by omega)]
          exact ih' h4
        · rw [decide_eq_false (show ¬ byR m (mkB R kind r) = movM (byR m (mkA R kind r)) (mkB R kind r) true from h4)]
          exact Ev.ite_f (by decide) (no (fun h => h4 ((e3.1 h).1 r (by omega))) _ rfl)
      refine Ev.succ ?_
      simp only [fastiref20_Check.l0, half_eq n R hn hRe, Option.bind_some]
      refine Ev.ite_t (by omega) ?_
      by_cases h4 : kind = 2
      · refine Ev.ite_t h4 ?_
        have ea : wrap64 (2 * (r : Int)) = mkA R kind r := by unfold mkA; rw [if_pos h4]; unfold wrap64; omega
        have eb : wrap64 (mkA R kind r + 1) = mkB R kind r := by unfold mkA mkB; rw [if_pos h4, if_pos h4]; unfold wrap64; omega
        rw [ea, eb]
        exact hj2
      · refine Ev.ite_f h4 ?_
        have ea : (r : Int) = mkA R kind r := by unfold mkA; rw [if_neg h4]
        have eb : wrap64 ((R : Int) + (r : Int)) = mkB R kind r := by unfold mkB; rw [if_neg h4, if_pos (by omega)]; unfold wrap64; omega
        rw [eb]
        rw [← ea] at hj2
        exact hj2
  exact key R 0 (by omega) (by omega) (fun q hq => absurd hq (Nat.not_lt_zero _))
end Go.Proofs.Ythddaojdlfifeaa.P

/- The two Checks decide alike; RobinCheckSpec, the plain law. -/
namespace Go.Proofs.Ythddaojdlfifeaa.P
open Go.RowKit Go.Proofs.YthddaojdlfifeaaW.PrintWords Go.Proofs.YthddaojdlfifeaaW.PrintLast Go.Proofs.YthddaojdlfifeaaW.PrintMore
set_option linter.unusedSimpArgs false
set_option linter.unusedVariables false

def catR (m : List S37) (F : Nat → Int) : Nat → List S37
  | 0 => []
  | r + 1 => catR m F r ++ byR m (F r)
theorem met_cat (m : List S37) (R : Nat) (kind : Int) : ∀ r, metL m R kind r = (catR m (mkA R kind) r).map pr
  | 0 => rfl
  | r + 1 => by rw [metL, catR, met_cat m R kind r, List.map_append]
theorem pr_mvd (r : Int) (t : Bool) (x : S37) : pr (mvd r t x) = pr x := by
  unfold mvd
  cases t
  · simp [pr, setR]
  · rw [pr_same]; simp [trn]
theorem sgl_perm (m : List S37) (R : Nat) (kind : Int) : ∀ r, ((sglL m R kind r).map pr).Perm (metL m R kind r)
  | 0 => List.Perm.refl _
  | r + 1 => by
    rw [sglL, metL, List.map_append]
    refine (sgl_perm m R kind r).append ?_
    have := (mov_perm (byR m (mkA R kind r)) r false).map pr
    rw [List.map_map] at this
    refine this.trans ?_
    rw [show (pr ∘ mvd (r : Int) false) = pr from funext fun x => pr_mvd _ _ x]
theorem filter_or {p q r : S37 → Bool} (h : ∀ x, p x = (q x || r x)) (h2 : ∀ x, (q x && r x) = false) : ∀ l : List S37, (l.filter p).Perm (l.filter q ++ l.filter r)
  | [] => List.Perm.refl _
  | x :: l => by
    have ih := filter_or h h2 l
    have hx := h x
    have hx2 := h2 x
    simp only [List.filter_cons]
    cases hq : q x <;> cases hr : r x <;> simp [hq, hr] at hx hx2 <;> rw [hx]
    · simpa using ih
    · simp only [if_true]
      exact (ih.cons x).trans List.perm_middle.symm
    · simp only [if_true]
      exact ih.cons x
theorem cat_filter (m : List S37) : ∀ Q : Nat, (catR m (fun r => (r : Int)) Q).Perm (m.filter fun x => decide (x.f0 < Q) && decide (0 ≤ x.f0))
  | 0 => by
    rw [catR, List.filter_eq_nil_iff.2]
    intro x _
    simp
  | Q + 1 => by
    rw [catR]
    refine ((cat_filter m Q).append_right _).trans (List.Perm.symm ?_)
    refine filter_or (fun x => ?_) (fun x => ?_) m
    · rw [Bool.eq_iff_iff]; simp; omega
    · rw [Bool.eq_false_iff]; simp; omega
theorem cat_all (m : List S37) (Q : Nat) (h : ∀ x ∈ m, 0 ≤ x.f0 ∧ x.f0 < Q) : (catR m (fun r => (r : Int)) Q).Perm m := by
  have := cat_filter m Q
  rwa [List.filter_eq_self.2] at this
  intro x hx
  have := h x hx
  simp [this.1, this.2]
theorem okI_mem {n Q : Int} {m : List S37} (h : ∀ i, i < m.length → okI n Q m i) : ∀ x ∈ m, okX n Q x := by
  intro x hx
  obtain ⟨i, hi, rfl⟩ := List.getElem_of_mem hx
  have := (h i hi).1
  rwa [List.getD_eq_getElem?_getD, List.getElem?_eq_getElem hi] at this
theorem cat_congr (m : List S37) {F G : Nat → Int} : ∀ r, (∀ q, q < r → F q = G q) → catR m F r = catR m G r
  | 0, _ => rfl
  | r + 1, h => by rw [catR, catR, cat_congr m r (fun q hq => h q (by omega)), h r (by omega)]
theorem met_sub (m : List S37) (R : Nat) (kind : Int) : ∀ d r, (metL m R kind r).Sublist (metL m R kind (r + d))
  | 0, r => List.Sublist.refl _
  | d + 1, r => (met_sub m R kind d r).trans (by rw [show r + (d + 1) = (r + d) + 1 from rfl, metL]; exact List.sublist_append_left _ _)
theorem cat_len2 (m : List S37) : ∀ r, (catR m (fun q => (q : Int)) (2 * r)).length = (catR m (fun q => 2 * (q : Int)) r).length + (catR m (fun q => 2 * (q : Int) + 1) r).length
  | 0 => rfl
  | r + 1 => by
    have ih := cat_len2 m r
    rw [show 2 * (r + 1) = (2 * r + 1) + 1 by omega]
    simp only [catR, List.length_append]
    rw [show ((2 * r : Nat) : Int) = 2 * (r : Int) by omega, show ((2 * r + 1 : Nat) : Int) = 2 * (r : Int) + 1 by omega]
    omega
theorem cat_len3 (m : List S37) (R : Nat) : ∀ r, (catR m (fun q => (q : Int)) (R + r)).length = (catR m (fun q => (q : Int)) R).length + (catR m (fun q => (R : Int) + (q : Int)) r).length
  | 0 => rfl
  | r + 1 => by
    have ih := cat_len3 m R r
    rw [show R + (r + 1) = (R + r) + 1 by omega]
    simp only [catR, List.length_append]
    rw [show ((R + r : Nat) : Int) = (R : Int) + (r : Int) by omega]
    omega
theorem cat_lenB (m : List S37) (R : Nat) (kind : Int) (hk : kind = 2 ∨ kind = 3) : ∀ r, r ≤ R → (∀ q, q < R → okR2 m R kind q) → (catR m (mkB R kind) r).length = (catR m (mkA R kind) r).length
  | 0, _, _ => rfl
  | r + 1, hr, h => by
    have hb : 0 ≤ mkB R kind r := by unfold mkB; rcases hk with rfl | rfl <;> simp <;> omega
    rw [catR, catR, List.length_append, List.length_append, cat_lenB m R kind hk r (by omega) h, ((h r (by omega)).2 hb).length_eq, List.length_map]
theorem eqv (n R : Nat) (kind : Int) (hR : 1 ≤ R) (hk : 1 ≤ kind ∧ kind ≤ 3) (m : List S37) : refOk n R kind m ↔ okC n R kind m := by
  have hdiv : n * (n - 1) / 2 ≤ n * (n - 1) := Nat.div_le_self _ _
  constructor
  · rintro ⟨h1, h2, h3⟩
    have hmem := okI_mem h2
    by_cases hk1 : kind = 1
    · rw [if_pos hk1] at h3
      obtain ⟨h4, h5⟩ := h3
      have hQ : rndsQ R kind = R := by unfold rndsQ; rw [if_pos hk1]
      rw [hQ] at hmem
      have hc := cat_all m R (fun x hx => ⟨(hmem x hx).1, (hmem x hx).2.1⟩)
      have hA : catR m (mkA R kind) R = catR m (fun r => (r : Int)) R := cat_congr m R (fun q _ => by unfold mkA; rw [if_neg (by omega)])
      have hmet : (metL m R kind R).Perm (m.map pr) := by rw [met_cat, hA]; exact hc.map pr
      have hnd : (metL m R kind R).Nodup := hmet.nodup_iff.2 h4
      refine ⟨h2, fun r hr => ⟨?_, fun hb => absurd hb (by unfold mkB; rw [if_neg (by omega), if_neg (by omega)]; omega)⟩, ?_⟩
      · have := met_sub m R kind (R - (r + 1)) (r + 1)
        rw [show r + 1 + (R - (r + 1)) = R by omega] at this
        exact hnd.sublist this
      · rw [hmet.length_eq, List.length_map, h5]
    · rw [if_neg hk1] at h3
      obtain ⟨h3, h4, h5⟩ := h3
      have hp := sgl_perm m R kind R
      have hnd : (metL m R kind R).Nodup := hp.nodup_iff.1 h4
      refine ⟨h2, fun r hr => ⟨?_, fun hb => ?_⟩, ?_⟩
      · have := met_sub m R kind (R - (r + 1)) (r + 1)
        rw [show r + 1 + (R - (r + 1)) = R by omega] at this
        exact hnd.sublist this
      · have ht : byR m (mkB R kind r) = movM (byR m (mkA R kind r)) (mkB R kind r) true := h3 r hr
        rw [ht]
        exact mov_perm _ _ _
      · rw [← hp.length_eq, List.length_map, h5]
  · rintro ⟨h2, h3, h4⟩
    have hmem := okI_mem h2
    have hbef := okI_bef h2
    have hnd : (metL m R kind R).Nodup := by
      have := (h3 (R - 1) (by omega)).1
      rwa [show R - 1 + 1 = R by omega] at this
    by_cases hk1 : kind = 1
    · have hQ : rndsQ R kind = R := by unfold rndsQ; rw [if_pos hk1]
      rw [hQ] at hmem
      have hc := cat_all m R (fun x hx => ⟨(hmem x hx).1, (hmem x hx).2.1⟩)
      have hA : catR m (mkA R kind) R = catR m (fun r => (r : Int)) R := cat_congr m R (fun q _ => by unfold mkA; rw [if_neg (by omega)])
      have hmet : (metL m R kind R).Perm (m.map pr) := by rw [met_cat, hA]; exact hc.map pr
      have hlen : m.length = n * (n - 1) / 2 := by rw [← h4, hmet.length_eq, List.length_map]
      refine ⟨by omega, h2, ?_⟩
      rw [if_pos hk1]
      exact ⟨hmet.nodup_iff.1 hnd, hlen⟩
    · have hQ : rndsQ R kind = 2 * R := by unfold rndsQ; rw [if_neg hk1]
      rw [hQ] at hmem
      have hk23 : kind = 2 ∨ kind = 3 := by omega
      have hc := cat_all m (2 * R) (fun x hx => ⟨(hmem x hx).1, (hmem x hx).2.1⟩)
      have hp := sgl_perm m R kind R
      have hAl : (catR m (mkA R kind) R).length = n * (n - 1) / 2 := by rw [← h4, met_cat, List.length_map]
      have hBl := cat_lenB m R kind hk23 R (Nat.le_refl _) h3
      have hlen : m.length = 2 * (n * (n - 1) / 2) := by
        rw [← hc.length_eq]
        rcases hk23 with hk2 | hk2
        · rw [cat_len2, ← hAl]
          have ea : catR m (fun q => 2 * (q : Int)) R = catR m (mkA R kind) R := cat_congr m R (fun q _ => by unfold mkA; rw [if_pos hk2])
          have eb : catR m (fun q => 2 * (q : Int) + 1) R = catR m (mkB R kind) R := cat_congr m R (fun q _ => by unfold mkB; rw [if_pos hk2])
          rw [ea, eb, hBl]; omega
        · rw [show 2 * R = R + R by omega, cat_len3, ← hAl]
          have ea : catR m (fun q => (q : Int)) R = catR m (mkA R kind) R := cat_congr m R (fun q _ => by unfold mkA; rw [if_neg (by omega)])
          have eb : catR m (fun q => (R : Int) + (q : Int)) R = catR m (mkB R kind) R := cat_congr m R (fun q _ => by unfold mkB; rw [if_neg (by omega), if_pos hk2])
          rw [ea, eb, hBl]; omega
      refine ⟨by omega, h2, ?_⟩
      rw [if_neg hk1]
      refine ⟨fun r hr => ?_, hp.nodup_iff.2 hnd, by rw [← List.length_map (f := pr), hp.length_eq, h4]⟩
      have hb : 0 ≤ mkB R kind r := by unfold mkB; rcases hk23 with rfl | rfl <;> simp <;> omega
      have h5 := (h3 r hr).2 hb
      show byR m (mkB R kind r) = movM (byR m (mkA R kind r)) (mkB R kind r) true
      exact (srt_uniq ((show (movM (byR m (mkA R kind r)) (mkB R kind r) true).Perm ((byR m (mkA R kind r)).map (trn (mkB R kind r))) from mov_perm _ _ _).trans h5.symm) (mov_srt _ _ _) (hbef.filter _)).symm
end Go.Proofs.Ythddaojdlfifeaa.P

/- RobinCheckSpec: the plain law. -/
namespace Go.Proofs.Ythddaojdlfifeaa.Pure
open Go.RowKit Go.Proofs.Ythddaojdlfifeaa.P Go.Proofs.YthddaojdlfifeaaW.PrintWords Go.Proofs.YthddaojdlfifeaaW.PrintLast
set_option linter.unusedVariables false

theorem RobinCheckSpec (a0 a1 : Int) (l2 : List S37) : ∃ k, fastilaw20_RobinCheckSpec.f k a0 a1 l2 = some true := by
  unfold fastilaw20_RobinCheckSpec.f
  have hs : fastilaw20_sane.f = some true := rfl
  rw [hs]
  simp only [Option.bind_some, if_true]
  by_cases hl : (l2.length : Int) > 400
  · exact ⟨0, by rw [if_pos hl]⟩
  by_cases h : rightR a0 a1
  · have hr := h
    obtain ⟨h1, h2, h3, h4⟩ := h
    obtain ⟨n, rfl⟩ : ∃ n : Nat, a0 = n := ⟨a0.toNat, by omega⟩
    obtain ⟨k, hk⟩ := (refCheck_ev n (rndsN n) a1 (by omega) ⟨h3, h4⟩ rfl l2 (by omega)).at1
    refine ⟨k, ?_⟩
    rw [if_neg hl]
    have hc : robin_Check.f n a1 l2 = some (chkM n a1 l2) := by
      unfold robin_Check.f
      rw [if_pos hr, if_pos (by omega), Int.toNat_natCast]
    rw [hc]
    rw [hk]
    simp only [Option.bind_some]
    have he := eqv n (rndsN n) a1 (by unfold rndsN; omega) ⟨h3, h4⟩ l2
    have e : chkM n a1 l2 = if refOk n (rndsN n) a1 l2 then 0 else 200 := by
      unfold chkM
      by_cases ho : okC n (rndsN n) a1 l2
      · rw [if_pos ho, if_pos (he.2 ho)]
      · rw [if_neg ho, if_neg (fun h => ho (he.1 h))]
    rw [e]; simp
  · refine ⟨0, ?_⟩
    rw [if_neg hl]
    have hc : robin_Check.f a0 a1 l2 = some 1 := by
      unfold robin_Check.f
      rw [if_neg h]
    have hf : fastiref20_fine.f a0 a1 = some false := by
      unfold fastiref20_fine.f
      unfold rightR at h
      by_cases h1 : a0 ≥ 2
      · by_cases h2 : a0 ≤ 20
        · rw [if_pos h1, if_pos h2, if_neg (by omega), if_neg (by omega)]
          congr 1
          rw [beq_eq_false_iff_ne]; omega
        · rw [if_pos h1, if_neg h2]
      · rw [if_neg h1]
    have hr : fastiref20_Check.f 0 a0 a1 l2 = some 1 := by
      unfold fastiref20_Check.f fastiref20_Rounds.f
      rw [hf]; rfl
    rw [hc, hr]; rfl
end Go.Proofs.Ythddaojdlfifeaa.Pure
