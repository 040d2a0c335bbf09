/- Patterns, and sets that are short of games: plain. -/
import Derived.Test.YtecgklfcblpkdaaP1
import Derived.Test.YtecgklfcblpkdaaSetsW
import Derived.Test.YtecgklfcblpkdaaOnesW
namespace Go.Proofs.Ytecgklfcblpkdaa.P
open Go.RowKit Go.Proofs.YtecgklfcblpkdaaW.PrintWords Go.Proofs.YtecgklfcblpkdaaW.PrintLast Go.Proofs.YtecgklfcblpkdaaW.PrintMore
open XW
set_option linter.unusedSimpArgs false
set_option linter.unusedVariables false

def rowOk1 (p : List (List Int)) (l : List Int) : Prop := l.length = (p.getD 0 []).length ∧ l.length ≤ 64 ∧ ∀ x ∈ l, -1 ≤ x ∧ x ≤ 1
instance (p : List (List Int)) (l : List Int) : Decidable (rowOk1 p l) := by unfold rowOk1; infer_instance
def patOk (p : List (List Int)) : Prop := p.length ≤ 20 ∧ ∀ l ∈ p, rowOk1 p l
instance (p : List (List Int)) : Decidable (patOk p) := by unfold patOk; infer_instance
theorem pats_l0 (p : List (List Int)) (hp : p.length ≤ 9223372036854775807) : ∀ (d i : Nat), p.length - i ≤ d → i ≤ p.length → (∀ q, q < i → rowOk1 p (p.getD q [])) → ∃ K0, ∀ k, K0 ≤ k → patterns_patterns.l0 k p p p.length i = some (decide (patOk p)) := by
  intro d
  have hlast : (∀ q, q < p.length → rowOk1 p (p.getD q [])) → ∃ K0, ∀ k, K0 ≤ k → patterns_patterns.l0 k p p p.length p.length = some (decide (patOk p)) := fun h => by
    refine ⟨1, fun k hk => ?_⟩
    obtain ⟨k, rfl⟩ : ∃ k', k = k' + 1 := ⟨k - 1, by omega⟩
    rw [patterns_patterns.l0, if_neg (by omega)]
    have h2 : ∀ l ∈ p, rowOk1 p l := fun l hl => by
      obtain ⟨q, hq, rfl⟩ := List.getElem_of_mem hl
      have := h q hq
      rwa [List.getD_eq_getElem?_getD, List.getElem?_eq_getElem hq] at this
    congr 1
    rw [decide_eq_decide]
    exact ⟨fun h3 => ⟨by omega, h2⟩, fun h3 => by have := h3.1; omega⟩
  induction d with
  | zero =>
    intro i hd hi h
    obtain rfl : i = p.length := by omega
    exact hlast h
  | succ d ih =>
    intro i hd hi h
    by_cases hlt : i < p.length
    · have hrd : rd_L3 p (i : Int) = p.getD i [] := by rw [rd_L3, Int.toNat_natCast]
      have hrd0 : rd_L3 p 0 = p.getD 0 [] := rfl
      have hno : ¬ rowOk1 p (p.getD i []) → some false = some (decide (patOk p)) := fun hc => by
        rw [decide_eq_false (fun h2 => hc (h2.2 _ (getD_mem' hlt)))]
      obtain ⟨K, hK⟩ : ∃ K, rowOk1 p (p.getD i []) → ∀ k, K ≤ k → patterns_patterns.l0 k p p p.length ((i + 1 : Nat) : Int) = some (decide (patOk p)) := by
        by_cases h1 : rowOk1 p (p.getD i [])
        · obtain ⟨K, hK⟩ := ih (i + 1) (by omega) hlt (fun q hq => by
            by_cases e : q = i
            · subst e; exact h1
            · exact h q (by omega))
          exact ⟨K, fun _ => hK⟩
        · exact ⟨0, fun h2 => absurd h2 h1⟩
      have hj : ∀ k, patterns_patterns.j1 (k + 1) p (p.getD i []) p p.length i true = some false := fun k => by rw [patterns_patterns.j1, if_pos rfl]
      have inner : (p.getD i []).length = (p.getD 0 []).length → (p.getD i []).length ≤ 64 → ∀ (d2 j k2 : Nat), (p.getD i []).length - j ≤ d2 → d2 + K + 2 ≤ k2 → j ≤ (p.getD i []).length → (∀ q, q < j → -1 ≤ (p.getD i []).getD q 0 ∧ (p.getD i []).getD q 0 ≤ 1) → patterns_patterns.l1 k2 p p p.length i (p.getD i []) ((p.getD i []).length : Int) j = some (decide (patOk p)) := by
        intro hl1 hl2 d2
        have hend : ∀ k2, K + 1 ≤ k2 → (∀ q, q < (p.getD i []).length → -1 ≤ (p.getD i []).getD q 0 ∧ (p.getD i []).getD q 0 ≤ 1) → patterns_patterns.l1 k2 p p p.length i (p.getD i []) ((p.getD i []).length : Int) ((p.getD i []).length : Nat) = some (decide (patOk p)) := by
          intro k2 hk2 hc
          obtain ⟨k2, rfl⟩ : ∃ k', k2 = k' + 1 := ⟨k2 - 1, by omega⟩
          rw [patterns_patterns.l1, if_neg (by omega), w64 (by omega)]
          refine hK ⟨hl1, hl2, fun x hx => ?_⟩ k2 (by omega)
          obtain ⟨q, hq, rfl⟩ := List.getElem_of_mem hx
          have := hc q hq
          rwa [List.getD_eq_getElem?_getD, List.getElem?_eq_getElem hq] at this
        induction d2 with
        | zero =>
          intro j k2 hd2 hk2 hj2 hc
          obtain rfl : j = (p.getD i []).length := by omega
          exact hend k2 (by omega) hc
        | succ d2 ih2 =>
          intro j k2 hd2 hk2 hj2 hc
          by_cases hlt2 : j < (p.getD i []).length
          · obtain ⟨k2, rfl⟩ : ∃ k', k2 = k' + 1 := ⟨k2 - 1, by omega⟩
            have hx : rd (p.getD i []) (j : Int) = (p.getD i []).getD j 0 := by rw [rd, Int.toNat_natCast]
            have hbad : ¬ (-1 ≤ (p.getD i []).getD j 0 ∧ (p.getD i []).getD j 0 ≤ 1) → some false = some (decide (patOk p)) := fun hb => hno (fun h2 => hb (h2.2.2 _ (getD_mem' hlt2)))
            rw [patterns_patterns.l1, if_pos (by omega), if_pos (by omega), if_pos (by omega), hx, w64 (by omega)]
            by_cases e1 : (p.getD i []).getD j 0 < -1
            · rw [if_pos e1]; exact hbad (by omega)
            rw [if_neg e1]
            by_cases e2 : (p.getD i []).getD j 0 > 1
            · rw [if_pos e2]; exact hbad (by omega)
            rw [if_neg e2]
            refine ih2 (j + 1) k2 (by omega) (by omega) hlt2 fun q hq => ?_
            by_cases e : q = j
            · subst e; omega
            · exact hc q (by omega)
          · obtain rfl : j = (p.getD i []).length := by omega
            exact hend k2 (by omega) hc
      refine ⟨(p.getD i []).length + K + 5, fun k hk => ?_⟩
      obtain ⟨k, rfl⟩ : ∃ k', k = k' + 1 := ⟨k - 1, by omega⟩
      rw [patterns_patterns.l0, if_pos (by omega), if_pos (by omega), if_pos (by omega), if_pos (by omega), hrd, hrd0]
      obtain ⟨k, rfl⟩ : ∃ k', k = k' + 1 := ⟨k - 1, by omega⟩
      by_cases e1 : ((p.getD i []).length : Int) = ((p.getD 0 []).length : Int)
      · rw [if_pos e1]
        by_cases e2 : ((p.getD i []).length : Int) > 64
        · rw [decide_eq_true e2, hj]; exact hno (fun h2 => by have := h2.2.1; omega)
        · rw [decide_eq_false e2, patterns_patterns.j1, if_neg (by simp)]
          exact inner (by omega) (by omega) (p.getD i []).length 0 k (by omega) (by omega) (by omega) (fun q hq => by omega)
      · rw [if_neg e1, hj]; exact hno (fun h2 => by have := h2.1; omega)
    · obtain rfl : i = p.length := by omega
      exact hlast h
theorem pats_f (p : List (List Int)) (hp : p.length ≤ 9223372036854775807) : ∃ k, patterns_patterns.f k p = some (decide (patOk p)) := by
  obtain ⟨K, hK⟩ := pats_l0 p hp p.length 0 (by omega) (by omega) (fun q hq => by omega)
  exact ⟨K, hK K (Nat.le_refl _)⟩
/-! ### masks -/
def mk (v : Int) (p : List (List Int)) : Nat → Nat → Nat
  | 0, _ => 0
  | t + 1, r => if (p.getD t []).getD r 0 = v then mk v p t r ||| 1 * 2 ^ t else mk v p t r
theorem mk_lt (v : Int) (p : List (List Int)) : ∀ (t r : Nat), t ≤ 10 → mk v p t r < 1024
  | 0, r, _ => by simp [mk]
  | t + 1, r, h => by
    have ih := mk_lt v p t r (by omega)
    rw [mk]
    split
    · exact Nat.or_lt_two_pow (n := 10) ih (by rw [Nat.one_mul]; exact Nat.pow_lt_pow_right (by decide) (by omega))
    · exact ih
/-- the masks of all rounds while team t is read up to round r -/
def mst (v : Int) (p : List (List Int)) (t r : Nat) : List Nat := (List.range 64).map fun s => mk v p (if s < r then t + 1 else t) s
theorem mst_len (v : Int) (p : List (List Int)) (t r : Nat) : (mst v p t r).length = 64 := by simp [mst]
theorem mst_get (v : Int) (p : List (List Int)) (t r : Nat) (h : r < 64) : (mst v p t r).getD r default = mk v p t r := by
  rw [List.getD_eq_getElem?_getD, mst, List.getElem?_map, List.getElem?_range h]; simp
theorem mst_set (v : Int) (p : List (List Int)) (t r : Nat) (h : r < 64) (hv : (p.getD t []).getD r 0 = v) : (mst v p t r).set r (mk v p t r ||| 1 * 2 ^ t) = mst v p t (r + 1) := by
  apply List.ext_getElem
  · simp [mst]
  · intro s h1 h2
    rw [List.getElem_set]
    simp only [mst, List.getElem_map, List.getElem_range]
    by_cases e : r = s
    · subst e; rw [if_pos rfl, if_pos (by omega), mk, if_pos hv]
    · rw [if_neg e]
      by_cases e2 : s < r
      · rw [if_pos e2, if_pos (by omega)]
      · rw [if_neg e2, if_neg (by omega)]
theorem mst_skip (v : Int) (p : List (List Int)) (t r : Nat) (hv : (p.getD t []).getD r 0 ≠ v) : mst v p t r = mst v p t (r + 1) := by
  refine List.map_congr_left fun s _ => ?_
  by_cases e : s = r
  · subst e; rw [if_neg (by omega), if_pos (by omega), mk, if_neg hv]
  · by_cases e2 : s < r
    · rw [if_pos e2, if_pos (by omega)]
    · rw [if_neg e2, if_neg (by omega)]
theorem mst_row (v : Int) (hv : v ≠ 0) (p : List (List Int)) (t : Nat) (R : Nat) (hR : (p.getD t []).length ≤ R) : mst v p t R = mst v p (t + 1) 0 := by
  refine List.map_congr_left fun s _ => ?_
  rw [if_neg (by omega : ¬ s < 0)]
  by_cases e : s < R
  · rw [if_pos e]
  · rw [if_neg e, mk, if_neg]
    rw [List.getD_eq_getElem?_getD, List.getElem?_eq_none (by omega)]
    exact fun h => hv h.symm
theorem mst_zero (v : Int) (p : List (List Int)) : mst v p 0 0 = List.replicate 64 0 := by
  refine List.ext_getElem (by simp [mst]) fun s h1 h2 => ?_
  simp only [mst, List.getElem_map, List.getElem_range, List.getElem_replicate]
  rw [if_neg (by omega)]; rfl
/-! ### short sets -/
def gameR (p : List (List Int)) (set r : Nat) : Int := min (popc (set &&& mk 1 p p.length r)) (popc (set &&& mk (-1) p p.length r))
def left0 (set : Nat) : Int := (popc set : Int) * ((popc set : Int) - 1) / 2
def leftR (p : List (List Int)) (set : Nat) : Nat → Int
  | 0 => left0 set
  | r + 1 => leftR p set r - gameR p set r
def shortB (p : List (List Int)) (set : Nat) : Bool := decide (0 < leftR p set (p.getD 0 []).length)
theorem popc_bd (x : Nat) : popc x ≤ 10 := by
  have := List.length_filter_le (fun t => x.testBit t) (List.range 10)
  rw [popc]; simpa using this
theorem gameR_nn (p : List (List Int)) (set r : Nat) : 0 ≤ gameR p set r ∧ gameR p set r ≤ 10 := by
  have h1 := popc_bd (set &&& mk 1 p p.length r)
  unfold gameR; omega
theorem leftR_mono (p : List (List Int)) (set : Nat) : ∀ r d : Nat, leftR p set (r + d) ≤ leftR p set r
  | r, 0 => Int.le_refl _
  | r, d + 1 => by
    have := leftR_mono p set r d
    have h2 := gameR_nn p set (r + d)
    rw [← Nat.add_assoc, leftR]; omega
theorem left0_bd (set : Nat) : -1 ≤ left0 set ∧ left0 set ≤ 50 := by
  have h := popc_bd set
  have h1 : ∀ k : Nat, k ≤ 10 → -1 ≤ (k : Int) * ((k : Int) - 1) / 2 ∧ (k : Int) * ((k : Int) - 1) / 2 ≤ 50 := by decide
  exact h1 _ h
theorem mst_get0 (v : Int) (p : List (List Int)) (t s : Nat) (h : s < 64) : (mst v p t 0).getD s default = mk v p t s := by
  rw [List.getD_eq_getElem?_getD, mst, List.getElem?_map, List.getElem?_range h]; simp
set_option maxRecDepth 100000 in
theorem sets_ok : ∀ n, n ≤ 10 → ∀ x ∈ setsL n, x < 1024 ∧ 2 ≤ popc x := by decide +kernel
theorem find_pre {q : Nat → Bool} {L xs : List Nat} {a : Nat} (h : (xs ++ [a]) <+: L) (hno : ∀ x ∈ xs, q x = false) (ha : q a = true) : L.find? q = some a := by
  obtain ⟨r, rfl⟩ := h
  rw [List.append_assoc, List.find?_append, List.find?_eq_none.2 (fun x hx => by rw [hno x hx]; simp)]
  simp [ha]
theorem tb_iff (a t : Nat) : (a / 2 ^ t &&& 1 : Nat) = 1 ↔ a.testBit t = true := by
  rw [Nat.and_one_is_mod, Nat.testBit_eq_decide_div_mod_eq]; simp
theorem q_bd (k : Nat) (h : k ≤ 10) : 0 ≤ (k : Int) * ((k : Int) - 1) ∧ (k : Int) * ((k : Int) - 1) ≤ 90 := by
  have h1 : ∀ k : Nat, k ≤ 10 → 0 ≤ (k : Int) * ((k : Int) - 1) ∧ (k : Int) * ((k : Int) - 1) ≤ 90 := by decide
  exact h1 k h
theorem left0_pos {a : Nat} (h : 2 ≤ popc a) : 0 < left0 a := by
  have h1 : ∀ k : Nat, k ≤ 10 → 2 ≤ k → 0 < (k : Int) * ((k : Int) - 1) / 2 := by decide
  exact h1 _ (popc_bd a) h
def membs (n set : Nat) : List Int := ((List.range n).filter fun t => set.testBit t).map fun (t : Nat) => (t : Int)
theorem membs_succ (t set : Nat) : membs (t + 1) set = membs t set ++ (if set.testBit t = true then [(t : Int)] else []) := by
  rw [membs, List.range_succ, List.filter_append, List.map_append, membs]
  by_cases h : set.testBit t = true
  · simp [h]
  · simp [h]
theorem membs_len (t set : Nat) : (membs t set).length ≤ t := by
  have := List.length_filter_le (fun t => set.testBit t) (List.range t)
  simp only [membs, List.length_map]; simpa using this
def vioF (p : List (List Int)) : List Int × Bool × Int :=
  if p.length < 2 ∨ p.length > 10 ∨ ¬ patOk p then ([], false, 210) else match (setsL p.length).find? (shortB p) with
  | some set => (membs p.length set, true, 0)
  | none => ([], false, 0)
end Go.Proofs.Ytecgklfcblpkdaa.P
