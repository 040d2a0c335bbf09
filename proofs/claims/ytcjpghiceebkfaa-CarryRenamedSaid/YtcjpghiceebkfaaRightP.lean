/- fastiref22.Right, plain: it is what foes accepts. -/
import Derived.Test.YtcjpghiceebkfaaP4
import Derived.Test.YtcjpghiceebkfaaCnt
namespace Go.Proofs.Ytcjpghiceebkfaa.P
open Go.RowKit Go.Proofs.YtcjpghiceebkfaaW.PrintWords Go.Proofs.YtcjpghiceebkfaaW.PrintLast Go.Proofs.YtcjpghiceebkfaaW.PrintMore
open XW
set_option linter.unusedSimpArgs false
set_option linter.unusedVariables false

theorem w64 {x : Int} (h : -9223372036854775808 ≤ x ∧ x ≤ 9223372036854775807) : wrap64 x = x := by unfold wrap64; omega
/-- a seat's number among the busy ones -/
def bix (n : Nat) (r t : Int) : Int := r * n + t
theorem bix_bd {n : Nat} (hn : n ≤ 20) {r t : Int} (hr : 0 ≤ r ∧ r ≤ 63) (ht : 0 ≤ t ∧ t < n) : 0 ≤ bix n r t ∧ bix n r t < 64 * n ∧ bix n r t ≤ 1280 ∧ 0 ≤ r * n ∧ r * n ≤ 1260 := by
  have h1 := Int.mul_nonneg hr.1 (by omega : (0 : Int) ≤ n)
  have h2 := Int.mul_le_mul_of_nonneg_right hr.2 (by omega : (0 : Int) ≤ n)
  unfold bix; omega
theorem bix_inj {n : Nat} {r t r' t' : Int} (ht : 0 ≤ t ∧ t < n) (ht' : 0 ≤ t' ∧ t' < n) (h : bix n r t = bix n r' t') : r = r' ∧ t = t' := by
  unfold bix at h
  have hn : (n : Int) ≠ 0 := by omega
  have h1 : (r * n + t) / n = r := by rw [Int.add_comm, Int.add_mul_ediv_right _ _ hn, Int.ediv_eq_zero_of_lt ht.1 ht.2]; omega
  have h2 : (r' * n + t') / n = r' := by rw [Int.add_comm, Int.add_mul_ediv_right _ _ hn, Int.ediv_eq_zero_of_lt ht'.1 ht'.2]; omega
  have : r = r' := by rw [← h1, h, h2]
  subst this
  exact ⟨rfl, by omega⟩
structure Busy (n : Nat) (l : List Bool) (es : Ent) : Prop where
  len : l.length = 64 * n
  at_ : ∀ r t : Int, 0 ≤ r ∧ r ≤ 63 → 0 ≤ t ∧ t < n → l.getD (bix n r t).toNat false = (mget es (t, r)).isSome
theorem Busy.new (n : Nat) : Busy n (List.replicate (64 * n) false) [] := ⟨by simp, fun r t hr ht => by
  simp only [mget]
  rw [List.getD_eq_getElem?_getD, List.getElem?_replicate]; split <;> rfl⟩
theorem Busy.put {n : Nat} (hn : n ≤ 20) {l : List Bool} {es : Ent} (h : Busy n l es) {r t : Int} (hr : 0 ≤ r ∧ r ≤ 63) (ht : 0 ≤ t ∧ t < n) (v : Int) : Busy n (l.set (bix n r t).toNat true) (mput es (t, r) v) := by
  refine ⟨by rw [List.length_set]; exact h.len, fun r' t' hr' ht' => ?_⟩
  have hb := bix_bd hn hr ht
  have hb' := bix_bd hn hr' ht'
  rw [List.getD_eq_getElem?_getD, List.getElem?_set]
  by_cases e : (t', r') = (t, r)
  · cases e
    rw [if_pos rfl, if_pos (by rw [h.len]; omega), mget_mput_same]; rfl
  · have hne : (bix n r t).toNat ≠ (bix n r' t').toNat := fun e2 => by
      have := bix_inj ht ht' (by omega : bix n r t = bix n r' t')
      exact e (by rw [this.1, this.2])
    rw [if_neg hne, mget_mput_ne _ _ e, ← List.getD_eq_getElem?_getD]
    exact h.at_ r' t' hr' ht'
theorem drop_cons45 {m : List S45} {i : Nat} (h : i < m.length) : m.drop i = m.getD i z45 :: m.drop (i + 1) := by
  rw [List.drop_eq_getElem_cons h, List.getD_eq_getElem?_getD, List.getElem?_eq_getElem h]; rfl
theorem right_l0 (n : Nat) (hn : n ≤ 20) (m : List S45) (hm : m.length ≤ 1280) : ∀ (d k i : Nat) (l : List Bool) (es : Ent) (r : Int), m.length - i ≤ d → 2 * d + 1 ≤ k → i ≤ m.length → Busy n l es →
    fastiref22_Right.l0 k n m l i = some ((m.drop i).foldl (foeStep n) (some (es, r))).isSome := by
  intro d
  induction d with
  | zero =>
    intro k i l es r hd hk hi hb
    obtain ⟨k, rfl⟩ : ∃ k', k = k' + 1 := ⟨k - 1, by omega⟩
    have : i = m.length := by omega
    subst this
    rw [fastiref22_Right.l0, if_neg (by omega), List.drop_length]; rfl
  | succ d ih =>
    intro k i l es r hd hk hi hb
    obtain ⟨k, rfl⟩ : ∃ k', k = k' + 1 + 1 := ⟨k - 2, by omega⟩
    rw [fastiref22_Right.l0]
    by_cases hlt : i < m.length
    · rw [if_pos (by omega), if_pos (by omega), drop_cons45 hlt, List.foldl_cons]
      have hrd : rd_T45 m i = m.getD i z45 := by rw [rd_T45, Int.toNat_natCast]
      rw [hrd]
      generalize m.getD i z45 = x
      by_cases hbad : bad n x
      · have h0 : foeStep n (some (es, r)) x = none := by simp only [foeStep, Option.bind_some]; rw [if_pos hbad]
        rw [h0, fold_none]
        unfold bad at hbad
        have hj : ∀ b : Bool, b = true → fastiref22_Right.j2 (k + 1) n m l i b x.f0 x.f1 x.f2 = some false := fun b hb => by rw [fastiref22_Right.j2, if_pos hb]
        have hje : x.f1 = x.f2 → fastiref22_Right.j2 (k + 1) n m l i (x.f1 == x.f2) x.f0 x.f1 x.f2 = some false := fun e => hj _ (by simp [e])
        by_cases c1 : x.f0 < 0
        · rw [if_pos c1, hj _ rfl]; rfl
        rw [if_neg c1]
        by_cases c2 : x.f0 > 63
        · rw [if_pos c2, hj _ rfl]; rfl
        rw [if_neg c2]
        by_cases c3 : x.f1 < 0
        · rw [if_pos c3, hj _ rfl]; rfl
        rw [if_neg c3]
        by_cases c4 : x.f1 ≥ n
        · rw [if_pos c4, hj _ rfl]; rfl
        rw [if_neg c4]
        by_cases c5 : x.f2 < 0
        · rw [if_pos c5, hj _ rfl]; rfl
        rw [if_neg c5]
        by_cases c6 : x.f2 ≥ n
        · rw [if_pos c6, hj _ rfl]; rfl
        rw [if_neg c6, hje (by omega)]; rfl
      · have hnb := hbad
        unfold bad at hbad
        rw [if_neg (by omega), if_neg (by omega), if_neg (by omega), if_neg (by omega), if_neg (by omega), if_neg (by omega)]
        have hne : x.f1 ≠ x.f2 := by omega
        have hr : 0 ≤ x.f0 ∧ x.f0 ≤ 63 := by omega
        have h1 : 0 ≤ x.f1 ∧ x.f1 < n := by omega
        have h2 : 0 ≤ x.f2 ∧ x.f2 < n := by omega
        have b1 := bix_bd hn hr h1
        have b2 := bix_bd hn hr h2
        have w1 : wrap64 (wrap64 (x.f0 * n) + x.f1) = bix n x.f0 x.f1 := by rw [w64 (x := x.f0 * n) (by omega)]; exact w64 (by unfold bix at b1; omega)
        have w2 : wrap64 (wrap64 (x.f0 * n) + x.f2) = bix n x.f0 x.f2 := by rw [w64 (x := x.f0 * n) (by omega)]; exact w64 (by unfold bix at b2; omega)
        have hl := hb.len
        rw [fastiref22_Right.j2, if_neg (by simp [hne]), w1, w2, if_pos b1.1, if_pos (by omega), rdOf, rdOf, hb.at_ _ _ hr h1, hb.at_ _ _ hr h2]
        by_cases c1 : (mget es (x.f1, x.f0)).isSome
        · rw [if_pos c1]
          have h0 : foeStep n (some (es, r)) x = none := by simp only [foeStep, Option.bind_some]; rw [if_neg hnb, if_pos c1]
          rw [h0, fold_none]; rfl
        rw [if_neg c1, if_pos b2.1, if_pos (by omega)]
        have hg2 : mget (mput es (x.f1, x.f0) x.f2) (x.f2, x.f0) = mget es (x.f2, x.f0) := mget_mput_ne _ _ (fun e => hne (congrArg Prod.fst e).symm)
        by_cases c2 : (mget es (x.f2, x.f0)).isSome
        · rw [if_pos c2]
          have h0 : foeStep n (some (es, r)) x = none := by simp only [foeStep, Option.bind_some]; rw [if_neg hnb, if_neg c1, hg2, if_pos c2]
          rw [h0, fold_none]; rfl
        rw [if_neg c2]
        have h0 : foeStep n (some (es, r)) x = some (mput (mput es (x.f1, x.f0) x.f2) (x.f2, x.f0) x.f1, max r (x.f0 + 1)) := by simp only [foeStep, Option.bind_some]; rw [if_neg hnb, if_neg c1, hg2, if_neg c2]
        rw [h0, w64 (by omega)]
        have := ih k (i + 1) ((l.set (bix n x.f0 x.f1).toNat true).set (bix n x.f0 x.f2).toNat true) (mput (mput es (x.f1, x.f0) x.f2) (x.f2, x.f0) x.f1) (max r (x.f0 + 1)) (by omega) (by omega) hlt ((hb.put hn hr h1 _).put hn hr h2 _)
        rw [Int.natCast_add] at this
        exact this
    · have : i = m.length := by omega
      subst this
      rw [if_neg (by omega), List.drop_length]; rfl
/-- right meetings -/
def rightB (n : Int) (m : List S45) : Bool := decide (m.length ≤ 1280) && (foesF n m).isSome
theorem right_f (n : Int) (m : List S45) (k : Nat) (hk : 2 * m.length + 2 ≤ k) : fastiref22_Right.f k n m = some (rightB n m) := by
  obtain ⟨k, rfl⟩ : ∃ k', k = k' + 1 := ⟨k - 1, by omega⟩
  have hj : fastiref22_Right.j0 (k + 1) n m true = some false := by rw [fastiref22_Right.j0, if_pos rfl]
  rw [fastiref22_Right.f]
  by_cases h1 : n < 2
  · rw [if_pos h1, hj, rightB, foesF, if_pos (.inl h1)]; simp
  rw [if_neg h1]
  by_cases h2 : n > 20
  · rw [if_pos h2, hj, rightB, foesF, if_pos (.inr h2)]; simp
  rw [if_neg h2]
  by_cases h3 : (m.length : Int) > 1280
  · rw [decide_eq_true h3, hj, rightB, decide_eq_false (by omega)]; rfl
  rw [decide_eq_false h3, fastiref22_Right.j0, if_neg (by decide)]
  obtain ⟨N, rfl⟩ : ∃ N : Nat, n = N := ⟨n.toNat, by omega⟩
  have hw : wrap64 (64 * (N : Int)) = ((64 * N : Nat) : Int) := by rw [w64 (by omega)]; omega
  rw [hw, if_pos (by omega), Int.toNat_natCast, if_pos (by omega)]
  have := right_l0 N (by omega) m (by omega) m.length k 0 _ [] 0 (by omega) (by omega) (by omega) (Busy.new N)
  rw [rightB, decide_eq_true (by omega), foesF, if_neg (by omega)]
  exact this
end Go.Proofs.Ytcjpghiceebkfaa.P
