/- A region that draws its order: every order of its first operations, one after the other. -/
import Derived.Test.YtcjpghiceebkfaaXB
namespace XW
open Go Go.RowKit RegInv
set_option linter.unusedSimpArgs false
set_option linter.unusedVariables false
set_option linter.unusedSectionVars false

section
variable {F : Fence} {P : Program} {n : Nat} {Q : Post} {ρ : Nat → Value} {ds : List Deferred} {w base : World} {R : List Res} {ops : Array Oper}

def ready (ops : Array Oper) (m : Nat) (done : List Nat) : List Nat := (List.range m).filter fun i => !done.contains i && (deps ops i).all done.contains
/-- what is owed when 'done' are done and f of the first m are not -/
def AT (F : Fence) (P : Program) (n : Nat) (Q : Post) (ops : Array Oper) (m : Nat) (rest : List Oper) (ds : List Deferred) (base : World) : Nat → List Nat → (Nat → Value) → List Res → Prop
  | 0, _, ρ, R => AL F P n Q ops rest ρ ds base R
  | f + 1, done, ρ, R => ∀ i ∈ ready ops m done, ∃ o, ops[i]? = some o ∧ AL F P n (Then (fun ρ' ds' w' => ds' = ds ∧ ∃ R', Mem base w' R' ∧ AT F P n Q ops m rest ds base f (i :: done) ρ' R') (fun _ _ _ _ => False)) ops [o] ρ ds base R
theorem AT_congr {m : Nat} {rest : List Oper} : ∀ (f : Nat) (done : List Nat) (ρ1 ρ2 : Nat → Value) (R : List Res), (∀ t, t < n → ρ1 t = ρ2 t) → AT F P n Q ops m rest ds base f done ρ1 R → AT F P n Q ops m rest ds base f done ρ2 R
  | 0, _, ρ1, ρ2, R, h, hA => ⟨fun w hw => XL_congr h (AL.use hA w hw)⟩
  | f + 1, done, ρ1, ρ2, R, h, hA => fun i hi => by
    obtain ⟨o, ho, hx⟩ := hA i hi
    exact ⟨o, ho, ⟨fun w hw => XL_congr h (hx.use w hw)⟩⟩
theorem AT_step {m f : Nat} {rest : List Oper} {done l : List Nat} (hl : ready ops m done = l) (h : ∀ i ∈ l, ∃ o, ops[i]? = some o ∧ AL F P n (Then (fun ρ' ds' w' => ds' = ds ∧ ∃ R', Mem base w' R' ∧ AT F P n Q ops m rest ds base f (i :: done) ρ' R') (fun _ _ _ _ => False)) ops [o] ρ ds base R) :
    AT F P n Q ops m rest ds base (f + 1) done ρ R := fun i hi => h i (hl ▸ hi)
theorem AT_all1 {p : Nat → Prop} {a : Nat} (h : p a) : ∀ i ∈ [a], p i := fun i hi => by rw [List.mem_singleton.1 hi]; exact h
theorem AT_all {p : Nat → Prop} {a b : Nat} {l : List Nat} (h : p a) (h2 : ∀ i ∈ b :: l, p i) : ∀ i ∈ a :: b :: l, p i := fun i hi => by
  rcases List.mem_cons.1 hi with rfl | hi
  · exact h
  · exact h2 i hi
theorem AT_op {m f i : Nat} {rest : List Oper} {done : List Nat} {o : Oper} (ho : ops[i]? = some o)
    (h : ∀ (K : (Nat → Value) → List Deferred → World → Prop) (Q' : Post), (∀ ρ' R', AT F P n Q ops m rest ds base f (i :: done) ρ' R' → At base R' (K ρ' ds)) → AL F P n (Then K Q') ops [o] ρ ds base R) :
    ∃ o, ops[i]? = some o ∧ AL F P n (Then (fun ρ' ds' w' => ds' = ds ∧ ∃ R', Mem base w' R' ∧ AT F P n Q ops m rest ds base f (i :: done) ρ' R') (fun _ _ _ _ => False)) ops [o] ρ ds base R :=
  ⟨o, ho, h _ _ fun ρ' R' hA w' hw' => ⟨rfl, R', hw', hA⟩⟩
theorem AT_done {m : Nat} {rest : List Oper} {done : List Nat} (h : AL F P n Q ops rest ρ ds base R) : AT F P n Q ops m rest ds base 0 done ρ R := h
def drawOkT (ops : Array Oper) (m : Nat) : Bool :=
  ordered ops && decide (m ≤ ops.size) && ops.toList.all noSD &&
  ((List.range ops.size).all fun i => decide (i < m) || (List.range i).all fun j => (clo ops ops.size i).contains j)
theorem full_done {m : Nat} : ∀ {done : List Nat}, done.Nodup → (∀ i ∈ done, i < m) → done.length = m → ∀ i, i < m → i ∈ done := fun {done} hn hlt hl i hi => by
  by_cases h : i ∈ done
  · exact h
  · have h1 : (i :: done).Nodup := List.nodup_cons.2 ⟨h, hn⟩
    have h2 : (i :: done) ⊆ List.range m := fun x hx => by
      rcases List.mem_cons.1 hx with rfl | hx
      · exact List.mem_range.2 hi
      · exact List.mem_range.2 (hlt x hx)
    have := h1.length_le_of_subset h2
    simp at this; omega
/-- THE RULE. -/
theorem At_drawT (hF : Wide F) {id : Nat} {l : List Oper} (m : Nat) (hm : P.follows .mixedOrders = true) (hck : drawOkT l.toArray m = true)
    (hq : AT F P n Q l.toArray m (l.drop m) ds base m [] ρ R) : At base R (X F P n Q (.region id l.toArray true) ρ ds) := fun w hw => by
  simp only [drawOkT, Bool.and_eq_true, List.all_eq_true, List.mem_range, decide_eq_true_eq, Bool.or_eq_true, List.contains_iff_mem] at hck
  obtain ⟨⟨⟨hor, hms⟩, hno⟩, hlate⟩ := hck
  have hms' : m ≤ l.length := by simpa using hms
  refine region_inv hm hor (fun b a w => (∀ i', b i' = true → ∀ j ∈ deps l.toArray i', b j = true) ∧
    ((∃ (ρ' : Nat → Value) (Rk : List Res) (f : Nat) (done : List Nat), a = fr n ρ' ds ∧ (∀ i, b i = true ↔ i ∈ done) ∧ done.Nodup ∧ (∀ i ∈ done, i < m) ∧ done.length + f = m ∧ Mem base w Rk ∧ AT F P n Q l.toArray m (l.drop m) ds base f done ρ' Rk) ∨
     ∃ k : Nat, m ≤ k ∧ (∀ i, i < l.length → (b i = true ↔ i < k + 1)) ∧ wpListIn F 0 P l.toArray (lift n Q) (l.drop (k + 1)) a w)) ?_ ?_ ?_
  · exact ⟨fun i h => (by cases h), .inl ⟨ρ, R, m, [], rfl, fun i => by simp, by simp, fun i h => (by cases h), by simp, hw.drewN 1, hq⟩⟩
  · rintro i hi b a w ⟨hcl, hI⟩ hbi hd
    have hi' : i < l.length := by simpa using hi
    have hcl' : ∀ i', upb b i i' = true → ∀ j ∈ deps l.toArray i', upb b i j = true := by
      intro i' h' j hj
      rcases upb_or h' with rfl | ⟨_, h'⟩
      · have hne : j ≠ i' := by rintro rfl; rw [hd _ hj] at hbi; cases hbi
        rw [upb_ne hne]; exact hd j hj
      · have := hcl i' h' j hj
        by_cases e : j = i
        · rw [e, upb_self]
        · rw [upb_ne e]; exact this
    have hcd := clo_done hcl l.toArray.size i hd
    obtain ⟨o, ho⟩ : ∃ o, l.toArray[i]? = some o := ⟨_, Array.getElem?_eq_getElem hi⟩
    have hol : l[i]? = some o := by simpa using ho
    have hnd' : noSD o = true := hno o (by simpa using List.mem_of_getElem? hol)
    have hlt : ∀ j, m ≤ i → j < i → b j = true := fun j hmi hji => by
      rcases hlate i hi with h | h
      · omega
      · exact hcd j (h j hji)
    rcases hI with ⟨ρ', Rk, f, done, rfl, hbd, hnd, hdm, hlen, hmem, hA⟩ | ⟨k, hk, hbk, hx⟩
    · by_cases him : i < m
      · have hni : i ∉ done := fun h => by rw [(hbd i).2 h] at hbi; cases hbi
        cases f with
        | zero => exact absurd (full_done hnd hdm (by omega) i him) hni
        | succ f =>
          obtain ⟨o', ho', hx⟩ := hA i (by
            simp only [ready, List.mem_filter, List.mem_range, Bool.and_eq_true, Bool.not_eq_true', List.all_eq_true]
            refine ⟨him, ?_, fun j hj => ?_⟩
            · cases hc : done.contains i with
              | false => rfl
              | true => exact absurd (by simpa using hc) hni
            · have := (hbd j).1 (hd j hj)
              simpa using this)
          rw [ho] at ho'; cases ho'
          refine wpOp_frame ho hnd' (ρ1 := ρ') (fun d _ _ => rfl) (K1 := fun ρ'' w' => ∃ R', Mem base w' R' ∧ AT F P n Q l.toArray m (l.drop m) ds base f (i :: done) ρ'' R') (fun ρ1 ρ2 w' he ⟨R', h1, h2⟩ => ⟨R', h1, AT_congr _ _ _ _ _ he h2⟩) (hx.use w hmem) (fun v w' ⟨R', h1, h2⟩ => ⟨hcl', .inl ⟨_, R', f, i :: done, rfl, fun x => ?_, List.nodup_cons.2 ⟨hni, hnd⟩, fun x hx => ?_, by simp; omega, h1, h2⟩⟩)
          · by_cases e : x = i
            · subst e; simp [upb_self]
            · rw [upb_ne e, hbd x]; simp [e]
          · rcases List.mem_cons.1 hx with rfl | hx
            · exact him
            · exact hdm x hx
      · -- the first of the later ones
        have hb0 : ∀ j, m ≤ j → b j = false := fun j hj => by
          cases h : b j with
          | false => rfl
          | true => have := hdm j ((hbd j).1 h); omega
        have him' : i = m := by
          rcases Nat.lt_or_ge m i with h | h
          · have := hlt m (by omega) h
            rw [hb0 m (Nat.le_refl _)] at this; cases this
          · omega
        subst him'
        have hall : ∀ j, j < i → b j = true := fun j hj => hlt j (Nat.le_refl _) hj
        have hf : f = 0 := by
          have h2 : List.range i ⊆ done := fun x hx => (hbd x).1 (hall x (List.mem_range.1 hx))
          have := List.nodup_range.length_le_of_subset h2
          simp at this; omega
        subst hf
        have hx : wpListIn F 0 P l.toArray (lift n Q) (l.drop i) (fr n ρ' ds) w := AL.use hA w hmem
        have hdrop : l.drop i = o :: l.drop (i + 1) := by
          rw [List.drop_eq_getElem_cons hi']
          have : l[i] = o := (List.getElem?_eq_some_iff.1 hol).2
          rw [this]
        rw [hdrop] at hx
        have hnext : ∀ a' w', wpListIn F 0 P l.toArray (lift n Q) (l.drop (i + 1)) a' w' → (∀ i', upb b i i' = true → ∀ j ∈ deps l.toArray i', upb b i j = true) ∧
            ((∃ (ρ' : Nat → Value) (Rk : List Res) (f : Nat) (done : List Nat), a' = fr n ρ' ds ∧ (∀ x, upb b i x = true ↔ x ∈ done) ∧ done.Nodup ∧ (∀ x ∈ done, x < i) ∧ done.length + f = i ∧ Mem base w' Rk ∧ AT F P n Q l.toArray i (l.drop i) ds base f done ρ' Rk) ∨
             ∃ k : Nat, i ≤ k ∧ (∀ x, x < l.length → (upb b i x = true ↔ x < k + 1)) ∧ wpListIn F 0 P l.toArray (lift n Q) (l.drop (k + 1)) a' w') := by
          intro a' w' h
          refine ⟨hcl', .inr ⟨i, Nat.le_refl _, fun j hj => ?_, h⟩⟩
          by_cases e : j = i
          · subst e; simp [upb_self]
          · rw [upb_ne e]
            by_cases hji : j < i
            · simp [hall j hji]; omega
            · rw [hb0 j (by omega)]; simp; omega
        unfold wpOpIn
        rw [ho]
        simp only
        unfold wpListIn at hx
        split
        · rename_i hw'
          rw [if_pos hw'] at hx
          exact Oper.wpIn_mono hnext hx
        · rename_i hw'
          rw [if_neg hw'] at hx
          exact ⟨hx.1, hnext _ _ hx.2⟩
    · -- a later one
      have hik : i = k + 1 := by
        have h1 : ¬ i < k + 1 := fun h => by
          have := (hbk i hi').2 h
          rw [hbi] at this; cases this
        rcases Nat.lt_or_ge (k + 1) i with h | h
        · have := hlt (k + 1) (by omega) h
          have := (hbk (k + 1) (by omega)).1 this
          omega
        · omega
      subst hik
      have hdrop : l.drop (k + 1) = o :: l.drop (k + 1 + 1) := by
        rw [List.drop_eq_getElem_cons hi']
        have : l[k + 1] = o := (List.getElem?_eq_some_iff.1 hol).2
        rw [this]
      rw [hdrop] at hx
      unfold wpOpIn
      rw [ho]
      simp only
      unfold wpListIn at hx
      split
      · rename_i hw'
        rw [if_pos hw'] at hx
        refine Oper.wpIn_mono (fun a' w' h => ⟨hcl', .inr ⟨k + 1, by omega, fun j hj => ?_, h⟩⟩) hx
        by_cases e : j = k + 1
        · subst e; simp [upb_self]
        · rw [upb_ne e, hbk j hj]; omega
      · rename_i hw'
        rw [if_neg hw'] at hx
        refine ⟨hx.1, hcl', .inr ⟨k + 1, by omega, fun j hj => ?_, hx.2⟩⟩
        by_cases e : j = k + 1
        · subst e; simp [upb_self]
        · rw [upb_ne e, hbk j hj]; omega
  · rintro b a w hall ⟨_, hI⟩
    rcases hI with ⟨ρ', Rk, f, done, rfl, hbd, hnd, hdm, hlen, hmem, hA⟩ | ⟨k, hk, hbk, hx⟩
    · have hb : ∀ x, x < l.length → x ∈ done := fun x hx => (hbd x).1 (hall x (by simpa using hx))
      have hml : m = l.length := by
        rcases Nat.lt_or_ge m l.length with h | h
        · have := hdm m (hb m h); omega
        · omega
      have hf : f = 0 := by
        have h2 : List.range m ⊆ done := fun x hx => hb x (by have := List.mem_range.1 hx; omega)
        have := List.nodup_range.length_le_of_subset h2
        simp at this; omega
      subst hf
      have hx : wpListIn F 0 P l.toArray (lift n Q) (l.drop m) (fr n ρ' ds) w := AL.use hA w hmem
      rw [List.drop_of_length_le (by omega)] at hx
      exact hx
    · have : l.length ≤ k + 1 := by
        rcases Nat.lt_or_ge (k + 1) l.length with h | h
        · have := (hbk (k + 1) h).1 (hall (k + 1) (by simpa using h))
          omega
        · exact h
      rw [List.drop_of_length_le this] at hx
      exact hx
end
end XW
