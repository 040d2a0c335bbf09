/- A region that draws its order of evaluation, by an invariant over what has been done: for the calculus in a fence. -/
import Derived.OrdersIn
namespace RegInv
open Go

def upb (b : Nat → Bool) (i : Nat) : Nat → Bool := fun j => if j = i then true else b j
theorem upb_self (b : Nat → Bool) (i : Nat) : upb b i i = true := by simp [upb]
theorem upb_ne {b : Nat → Bool} {i j : Nat} (h : j ≠ i) : upb b i j = b j := by simp [upb, h]
theorem upb_or {b : Nat → Bool} {i j : Nat} (h : upb b i j = true) : j = i ∨ (j ≠ i ∧ b j = true) := by
  by_cases e : j = i
  · exact .inl e
  · exact .inr ⟨e, by rwa [upb_ne e] at h⟩

/-- what operation i waits for -/
def deps (ops : Array Oper) (i : Nat) : List Nat := match ops[i]? with
  | none => []
  | some o => (o.after.toList.filter (fun e => Region.binds .any e)).map (fun e => e.on)
def ordered (ops : Array Oper) : Bool := (List.range ops.size).all fun i => (deps ops i).all fun j => decide (j < i)

section
variable {F : Fence} {n : Nat} {P : Program} {ops : Array Oper} {Q : Exit → Act → World → Prop}

theorem ready_spec {listed : Array Bool} {i : Nat} (h : i ∈ Region.ready .any ops listed) : i < ops.size ∧ listed.getD i true = false ∧ ∀ j ∈ deps ops i, listed.getD j false = true := by
  simp only [Region.ready, List.mem_filter, List.mem_range, Bool.and_eq_true, Bool.not_eq_true'] at h
  obtain ⟨hi, hl, hd⟩ := h
  refine ⟨hi, hl, ?_⟩
  intro j hj
  simp only [deps] at hj
  rw [Array.getElem?_eq_getElem hi] at hj hd
  simp only [Option.map_some, Option.getD_some, Array.all_eq_true_iff_forall_mem, Bool.or_eq_true, Bool.not_eq_true'] at hd
  simp only [List.mem_map, List.mem_filter] at hj
  obtain ⟨e, ⟨he, hb⟩, rfl⟩ := hj
  rcases hd e (Array.mem_toList_iff.1 he) with h | h
  · rw [h] at hb; cases hb
  · exact h

theorem ready_nil {listed : Array Bool} (ho : ordered ops = true) (hs : listed.size = ops.size) (h : Region.ready .any ops listed = []) : ∀ i, i < ops.size → listed.getD i true = true := by
  intro i
  induction i using Nat.strongRecOn with
  | _ i ih =>
    intro hi
    cases hl : listed.getD i true with
    | true => rfl
    | false =>
      exfalso
      have : i ∈ Region.ready .any ops listed := by
        simp only [Region.ready, List.mem_filter, List.mem_range, Bool.and_eq_true, Bool.not_eq_true']
        refine ⟨hi, hl, ?_⟩
        rw [Array.getElem?_eq_getElem hi]
        simp only [Option.map_some, Option.getD_some, Array.all_eq_true_iff_forall_mem, Bool.or_eq_true, Bool.not_eq_true']
        intro e he
        cases hb : Region.binds .any e with
        | false => exact .inl rfl
        | true =>
          right
          have hlt : e.on < i := by
            have := List.all_eq_true.1 ho i (List.mem_range.2 hi)
            have := List.all_eq_true.1 this e.on (by
              simp only [deps, Array.getElem?_eq_getElem hi, List.mem_map, List.mem_filter]
              exact ⟨e, ⟨Array.mem_toList_iff.2 he, hb⟩, rfl⟩)
            simpa using this
          have h2 := ih e.on hlt (by omega)
          have h3 : e.on < listed.size := by omega
          rw [Array.getD_eq_getD_getElem?, Array.getElem?_eq_getElem h3] at h2 ⊢
          exact h2
      rw [h] at this
      cases this

theorem anyIn_inv (ho : ordered ops = true) (I : (Nat → Bool) → Act → World → Prop)
    (hstep : ∀ i, i < ops.size → ∀ b a w, I b a w → b i = false → (∀ j ∈ deps ops i, b j = true) → wpOpIn F n P ops Q i (fun a' w' => I (upb b i) a' w') a w)
    (hend : ∀ b a w, (∀ i, i < ops.size → b i = true) → I b a w → Q .normal a w) :
    ∀ (fuel : Nat) (listed : Array Bool) (b : Nat → Bool) (a : Act) (w : World), listed.size = ops.size → (∀ i, i < ops.size → listed.getD i true = b i) →
      ((List.range ops.size).filter fun i => !b i).length ≤ fuel → I b a w → wpAnyIn F n P .any ops Q fuel listed a w := by
  intro fuel
  induction fuel with
  | zero =>
    intro listed b a w hs hb hf hI
    have hall : ∀ i, i < ops.size → b i = true := by
      intro i hi
      cases hbi : b i with
      | true => rfl
      | false =>
        have : i ∈ (List.range ops.size).filter fun i => !b i := by simp [hi, hbi]
        rw [List.length_eq_zero_iff.1 (Nat.le_zero.1 hf)] at this
        cases this
    refine ⟨?_, hend b a w hall hI⟩
    apply List.eq_nil_iff_forall_not_mem.2
    intro i hi
    obtain ⟨h1, h2, _⟩ := ready_spec hi
    rw [hb i h1, hall i h1] at h2
    cases h2
  | succ fuel ih =>
    intro listed b a w hs hb hf hI
    refine ⟨fun h => hend b a w (fun i hi => by rw [← hb i hi]; exact ready_nil ho hs h i hi) hI, ?_⟩
    intro i hi
    obtain ⟨h1, h2, h3⟩ := ready_spec hi
    have hbi : b i = false := by rw [← hb i h1]; exact h2
    refine wpOpIn_mono ?_ (hstep i h1 b a w hI hbi (fun j hj => ?_))
    · intro a' w' hI'
      refine ih (listed.setIfInBounds i true) (upb b i) a' w' (by simpa using hs) ?_ ?_ hI'
      · intro j hj
        by_cases e : j = i
        · subst e
          rw [upb_self, Array.getD_eq_getD_getElem?, Array.getElem?_setIfInBounds_self_of_lt (by omega)]; rfl
        · rw [upb_ne e, ← hb j hj, Array.getD_eq_getD_getElem?, Array.getD_eq_getD_getElem?, Array.getElem?_setIfInBounds_ne (fun h => e h.symm)]
      · have key : ∀ (l : List Nat), l.Nodup → i ∈ l → (l.filter fun j => !upb b i j).length + 1 = (l.filter fun j => !b j).length := by
          intro l
          induction l with
          | nil => intro _ h; cases h
          | cons x l ihl =>
            intro hn hm
            have hn' := List.nodup_cons.1 hn
            by_cases e : x = i
            · subst e
              have : (l.filter fun j => !upb b x j) = l.filter fun j => !b j := by
                apply List.filter_congr
                intro j hj
                rw [upb_ne (fun h : j = x => hn'.1 (h ▸ hj))]
              simp [upb_self, hbi, this]
            · have hm' : i ∈ l := by rcases List.mem_cons.1 hm with h | h
                                     · exact absurd h.symm e
                                     · exact h
              have := ihl hn'.2 hm'
              simp only [List.filter_cons, upb_ne e]
              split
              · simp only [List.length_cons]; omega
              · exact this
        have := key (List.range ops.size) List.nodup_range (List.mem_range.2 h1)
        omega
    · have hlt : j < i := by
        have := List.all_eq_true.1 ho i (List.mem_range.2 h1)
        simpa using List.all_eq_true.1 this j hj
      rw [← hb j (by omega)]
      have h4 := h3 j hj
      have h5 : j < listed.size := by omega
      rw [Array.getD_eq_getD_getElem?, Array.getElem?_eq_getElem h5] at h4 ⊢
      exact h4

/-- THE RULE. -/
theorem region_inv {id : Nat} {a : Act} {w : World} (hm : P.follows .mixedOrders = true) (ho : ordered ops = true) (I : (Nat → Bool) → Act → World → Prop)
    (h0 : I (fun _ => false) a { w with drawn := w.drawn + 1 })
    (hstep : ∀ i, i < ops.size → ∀ b a w, I b a w → b i = false → (∀ j ∈ deps ops i, b j = true) → wpOpIn F n P ops Q i (fun a' w' => I (upb b i) a' w') a w)
    (hend : ∀ b a w, (∀ i, i < ops.size → b i = true) → I b a w → Q .normal a w) : (Code.region id ops true).wpIn F n P Q a w := by
  refine wpIn_region_any hm (anyIn_inv ho I hstep hend ops.size _ (fun _ => false) a _ (by simp) ?_ ?_ h0)
  · intro i hi
    rw [Array.getD_eq_getD_getElem?, Array.getElem?_replicate, if_pos hi]; rfl
  · have := List.length_filter_le (fun i : Nat => !(fun _ => false) i) (List.range ops.size)
    simpa using this
end
end RegInv
