/- Regions that draw their order: the check of who waits for whom, in time that does not grow with the number of ways. -/
import Derived.Test.YtmilnlcegcdolaaXB
namespace XW
open Go Go.RowKit RegInv
set_option linter.unusedSimpArgs false
set_option linter.unusedVariables false
set_option linter.unusedSectionVars false

/-- for each operation, from the last to the first, the set of those that it waits for -/
def mks (ops : Array Oper) : Nat → List Nat
  | 0 => []
  | k + 1 => (deps ops k).foldl (fun a j => a ||| (1 <<< j) ||| (if j < k then (mks ops k).getD (k - 1 - j) 0 else 0)) 0 :: mks ops k
def mkAt (M : List Nat) (s i : Nat) : Nat := M.getD (s - 1 - i) 0
theorem fold_bit (g : Nat → Nat) (t : Nat) : ∀ (l : List Nat) (a : Nat), (l.foldl (fun a j => a ||| (1 <<< j) ||| g j) a).testBit t = true → a.testBit t = true ∨ ∃ j ∈ l, t = j ∨ (g j).testBit t = true
  | [], a, h => .inl h
  | j :: l, a, h => by
    rw [List.foldl_cons] at h
    rcases fold_bit g t l _ h with h1 | ⟨j', hj, h1⟩
    · rw [Nat.testBit_or, Nat.testBit_or, Bool.or_eq_true, Bool.or_eq_true] at h1
      rcases h1 with (h1 | h1) | h1
      · exact .inl h1
      · refine .inr ⟨j, by simp, .inl ?_⟩
        rw [Nat.one_shiftLeft, Nat.testBit_two_pow] at h1
        exact (of_decide_eq_true h1).symm
      · exact .inr ⟨j, by simp, .inr h1⟩
    · exact .inr ⟨j', by simp [hj], h1⟩
theorem mks_clo (ops : Array Oper) : ∀ (k i t : Nat), i < k → ((mks ops k).getD (k - 1 - i) 0).testBit t = true → ∀ f, i + 1 ≤ f → t ∈ clo ops f i
  | k + 1, i, t, hi, h, f, hf => by
    rcases Nat.lt_or_ge i k with h1 | h1
    · refine mks_clo ops k i t h1 ?_ f hf
      have e : k + 1 - 1 - i = (k - 1 - i) + 1 := by omega
      rw [e, mks] at h
      simpa using h
    · obtain rfl : i = k := by omega
      have e : i + 1 - 1 - i = 0 := by omega
      rw [e, mks] at h
      have h' : (((deps ops i).foldl (fun a j => a ||| (1 <<< j) ||| (if j < i then (mks ops i).getD (i - 1 - j) 0 else 0)) 0)).testBit t = true := h
      obtain ⟨f, rfl⟩ : ∃ f', f = f' + 1 := ⟨f - 1, by omega⟩
      rw [clo]
      rcases fold_bit _ t _ _ h' with h2 | ⟨j, hj, h2⟩
      · simp at h2
      · refine List.mem_flatMap.2 ⟨j, hj, ?_⟩
        rcases h2 with rfl | h2
        · simp
        · split at h2
          · rename_i hlt
            exact List.mem_cons_of_mem _ (mks_clo ops i j t hlt h2 f (by omega))
          · simp at h2
def drawOk2 (ops : Array Oper) (m : Nat) : Bool :=
  ordered ops && decide (m ≤ ops.size) && ops.toList.all noSD &&
  ((List.range ops.size).all fun i => decide (i < m) || (List.range i).all fun j => (mkAt (mks ops ops.size) ops.size i).testBit j) &&
  ((List.range m).all fun i => (List.range m).all fun j => i == j || (match ops[i]?, ops[j]? with
    | some oi, some oj => match oj.dst with
      | some d => (oi.dst != some d) && (!(oi.looksAt ops).contains d || (mkAt (mks ops ops.size) ops.size i).testBit j)
      | none => true
    | _, _ => false))
theorem mkAt_clo {ops : Array Oper} {i j : Nat} (hi : i < ops.size) (h : (mkAt (mks ops ops.size) ops.size i).testBit j = true) : (clo ops ops.size i).contains j = true := by
  rw [List.contains_iff_mem]
  exact mks_clo ops ops.size i j hi h ops.size (by omega)
theorem drawOk_of {ops : Array Oper} {m : Nat} (h : drawOk2 ops m = true) : drawOk ops m = true := by
  unfold drawOk2 at h
  unfold drawOk
  simp only [Bool.and_eq_true] at h ⊢
  obtain ⟨⟨⟨⟨h1, h2⟩, h3⟩, h4⟩, h5⟩ := h
  have hm : m ≤ ops.size := of_decide_eq_true h2
  refine ⟨⟨⟨⟨h1, h2⟩, h3⟩, ?_⟩, ?_⟩
  · rw [List.all_eq_true] at h4 ⊢
    intro i hi
    have h6 := h4 i hi
    rw [Bool.or_eq_true] at h6 ⊢
    rcases h6 with h6 | h6
    · exact .inl h6
    · refine .inr ?_
      rw [List.all_eq_true] at h6 ⊢
      exact fun j hj => mkAt_clo (List.mem_range.1 hi) (h6 j hj)
  · rw [List.all_eq_true] at h5 ⊢
    intro i hi
    have h6 := h5 i hi
    rw [List.all_eq_true] at h6 ⊢
    intro j hj
    have h7 := h6 j hj
    rw [Bool.or_eq_true] at h7 ⊢
    rcases h7 with h7 | h7
    · exact .inl h7
    · refine .inr ?_
      have hi' := List.mem_range.1 hi
      have hj' := List.mem_range.1 hj
      rw [Array.getElem?_eq_getElem (by omega : i < ops.size), Array.getElem?_eq_getElem (by omega : j < ops.size)] at h7 ⊢
      simp only at h7 ⊢
      split at h7
      · rename_i d hd
        rw [hd]
        simp only [Bool.and_eq_true, Bool.or_eq_true] at h7 ⊢
        exact ⟨h7.1, h7.2.imp id (mkAt_clo (by omega))⟩
      · rename_i hd
        rw [hd]
section
variable {F : Fence} {P : Program} {n : Nat} {Q : Post} {ρ : Nat → Value} {ds : List Deferred} {w base : World} {R : List Res} {ops : Array Oper}
theorem At_drawM (hF : Wide F) {id : Nat} {l : List Oper} (m : Nat) (hm : P.follows .mixedOrders = true) (hck : drawOk2 l.toArray m = true)
    (hq : AQ F P n l.toArray ds base R (l.take m) ρ (fun ρ' => AL F P n Q l.toArray (l.drop m) ρ' ds base R)) : At base R (X F P n Q (.region id l.toArray true) ρ ds) := At_draw hF m hm (drawOk_of hck) hq
end
end XW
