/- A region that draws its order (XDrawF), by an invariant over what is done. -/
import Derived.Test.YtmilnlcegcdolaaXDrawF
namespace XW
open Go Go.RowKit RegInv
set_option linter.unusedSimpArgs false
set_option linter.unusedVariables false
set_option linter.unusedSectionVars false
section
variable {F : Fence} {P : Program} {n : Nat} {Q : Post} {ds : List Deferred} {base : World} {ops : Array Oper} {rest : List Oper} {R0 : List Res} {ws : List Nat}
theorem todo_le {p p' : Nat → Bool} (h : ∀ x, p x = true → p' x = true) : ∀ l : List Nat, (l.filter p).length ≤ (l.filter p').length
  | [] => Nat.le_refl _
  | y :: l => by
    have ih := todo_le h l
    by_cases h1 : p y = true
    · rw [List.filter_cons_of_pos h1, List.filter_cons_of_pos (h y h1)]
      exact Nat.succ_le_succ ih
    · rw [List.filter_cons_of_neg h1]
      by_cases h2 : p' y = true
      · rw [List.filter_cons_of_pos h2]; exact Nat.le_succ_of_le ih
      · rw [List.filter_cons_of_neg h2]; exact ih
theorem todo_lt' {p p' : Nat → Bool} (h : ∀ x, p x = true → p' x = true) {c : Nat} (h0 : p c ≠ true) (h1 : p' c = true) : ∀ {l : List Nat}, c ∈ l → (l.filter p).length < (l.filter p').length
  | [], hc => by cases hc
  | y :: l, hc => by
    by_cases e : y = c
    · subst e
      rw [List.filter_cons_of_neg h0, List.filter_cons_of_pos h1]
      exact Nat.lt_succ_of_le (todo_le h l)
    · have ih := todo_lt' h h0 h1 ((List.mem_cons.1 hc).resolve_left (fun h => e h.symm))
      by_cases h2 : p y = true
      · rw [List.filter_cons_of_pos h2, List.filter_cons_of_pos (h y h2)]
        exact Nat.succ_lt_succ ih
      · rw [List.filter_cons_of_neg h2]
        by_cases h3 : p' y = true
        · rw [List.filter_cons_of_pos h3]; exact Nat.lt_succ_of_lt ih
        · rw [List.filter_cons_of_neg h3]; exact ih
theorem todo_lt {ws done : List Nat} {c : Nat} (hc : c ∈ ws) (hn : done.contains c = false) : (ws.filter fun x => !(c :: done).contains x).length < (ws.filter fun x => !done.contains x).length :=
  todo_lt' (fun x hx => by
    simp only [List.contains_cons, Bool.not_eq_true', Bool.or_eq_false_iff] at hx ⊢
    exact hx.2) (by simp) (by rw [hn]; rfl) hc
theorem FAt_ind (I : List Nat → (Nat → Value) → List Res → Prop) (hs : ∀ done ρ R, I done ρ R → R0.Sublist R)
    (hlast : ∀ done ρ R, I done ρ R → (∀ c ∈ ws, done.contains c = true) → AL F P n Q ops rest ρ ds base R)
    (hstep : ∀ done ρ R c, I done ρ R → c ∈ ws → done.contains c = false → (∀ c', c' ∈ ws → (clo ops ops.size c).contains c' = true → done.contains c' = true) → ∃ o, ops[c]? = some o ∧ ∀ (K : (Nat → Value) → List Deferred → World → Prop) (Q' : Post), (∀ ρ' R', I (c :: done) ρ' R' → At base R' (K ρ' ds)) → AL F P n (Then K Q') ops [o] ρ ds base R) :
    ∀ (f : Nat) (done : List Nat) (ρ : Nat → Value) (R : List Res), (ws.filter fun x => !done.contains x).length ≤ f → I done ρ R → FAt F P n Q ops rest ds base R0 ws f done ρ R := by
  intro f
  induction f with
  | zero =>
    intro done ρ R hf hI
    have hall : ∀ c ∈ ws, done.contains c = true := fun c hc => by
      have h0 := List.eq_nil_of_length_eq_zero (Nat.le_zero.1 hf)
      rw [List.filter_eq_nil_iff] at h0
      have := h0 c hc
      simpa using this
    exact ⟨List.all_eq_true.2 hall, hs _ _ _ hI, hlast _ _ _ hI hall⟩
  | succ f ih =>
    intro done ρ R hf hI
    refine ⟨hs _ _ _ hI, fun ha => hlast _ _ _ hI (List.all_eq_true.1 ha), fun c hc => ?_⟩
    obtain ⟨hc1, hc2⟩ := List.mem_filter.1 hc
    rw [Bool.and_eq_true, Bool.not_eq_true', List.all_eq_true] at hc2
    have hdep : ∀ c', c' ∈ ws → (clo ops ops.size c).contains c' = true → done.contains c' = true := fun c' h1 h2 => by
      have := hc2.2 c' h1
      rw [h2] at this
      simpa using this
    obtain ⟨o, ho, h⟩ := hstep done ρ R c hI hc1 hc2.1 hdep
    exact ⟨o, ho, fun w hw => (h _ _ fun ρ' R' hI' w' hw' => ⟨rfl, R', hw', ih _ _ _ (by have := todo_lt hc1 hc2.1; omega) hI'⟩).use w hw⟩
end
end XW
