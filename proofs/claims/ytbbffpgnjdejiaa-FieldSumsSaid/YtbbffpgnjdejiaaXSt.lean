/- The blocks that a call has made, as a list: over XW. -/
import Derived.Test.YtbbffpgnjdejiaaXReg
namespace XW
open Go Go.RowKit
set_option linter.unusedSimpArgs false
set_option linter.unusedVariables false

/-- w: nothing that lay in 'base' has turned; the call's own blocks hold what l tells -/
structure St (base w : World) (l : List (Nat × Obj)) : Prop where
  below : Below base.heap.size base w
  nodup : (l.map (·.1)).Nodup
  own : ∀ p ∈ l, base.heap.size ≤ p.1 ∧ w.heap[p.1]? = some p.2

section
variable {base w w' : World} {l : List (Nat × Obj)}
theorem St.start (w : World) : St w w [] := ⟨Below.refl _ _, List.nodup_nil, fun p h => by cases h⟩
theorem St.size (h : St base w l) : base.heap.size ≤ w.heap.size := h.below.size
theorem St.alloc (h : St base w l) (o : Obj) : St base (w.alloc o) ((w.heap.size, o) :: l) := by
  refine ⟨h.below.alloc h.size o, ?_, ?_⟩
  · simp only [List.map_cons, List.nodup_cons]
    refine ⟨fun hm => ?_, h.nodup⟩
    obtain ⟨p, hp, he⟩ := List.mem_map.1 hm
    have := get_lt (h.own p hp).2
    omega
  · intro p hp
    rcases List.mem_cons.1 hp with rfl | hp
    · exact ⟨h.size, get_new w o⟩
    · exact ⟨(h.own p hp).1, get_alloc (h.own p hp).2 o⟩
theorem St.at_ (h : St base w l) (i : Nat) {b : Nat} {o : Obj} (hi : l[i]? = some (b, o)) : w.heap[b]? = some o := (h.own (b, o) (List.mem_of_getElem? hi)).2
theorem St.ge (h : St base w l) (i : Nat) {b : Nat} {o : Obj} (hi : l[i]? = some (b, o)) : base.heap.size ≤ b := (h.own (b, o) (List.mem_of_getElem? hi)).1
theorem St.ne (h : St base w l) {i j : Nat} {b c : Nat} {o o' : Obj} (hi : l[i]? = some (b, o)) (hj : l[j]? = some (c, o')) (hij : i ≠ j) : b ≠ c := by
  intro e
  subst e
  have h1 : (l.map (·.1))[i]? = some b := by simp [hi]
  have h2 : (l.map (·.1))[j]? = some b := by simp [hj]
  exact hij ((List.getElem?_inj (by simpa using (List.getElem?_eq_some_iff.1 hi).1) h.nodup).1 (h1.trans h2.symm))
theorem St.put (h : St base w l) (i : Nat) {b : Nat} {o : Obj} (hi : l[i]? = some (b, o)) (o' : Obj) : St base (w.putObj b o') (l.set i (b, o')) := by
  have hb := h.own (b, o) (List.mem_of_getElem? hi)
  have hlt := (List.getElem?_eq_some_iff.1 hi).1
  refine ⟨?_, ?_, ?_⟩
  · exact h.below.trans ⟨rfl, rfl, rfl, by rw [size_put]; exact Nat.le_refl _, fun k hk => World.putObj_heap_other (by have := hb.1; simp only at this; omega)⟩
  · have : (l.set i (b, o')).map (·.1) = l.map (·.1) := by
      rw [List.map_set]
      apply List.ext_getElem?
      intro j
      rw [List.getElem?_set]
      split
      · rename_i e; subst e; rw [List.getElem?_map, hi]; simp [hlt]
      · rfl
    rw [this]; exact h.nodup
  · intro p hp
    obtain ⟨j, hj⟩ := List.getElem?_of_mem hp
    rw [List.getElem?_set] at hj
    split at hj
    · rename_i e; subst e
      cases hj
      exact ⟨hb.1, get_put_same hb.2 _⟩
    · rename_i e
      have hp' := h.own p (List.mem_of_getElem? hj)
      exact ⟨hp'.1, get_put_other hp'.2 (h.ne (o := p.2) (o' := o) hj hi (fun e' => e e'.symm)) _⟩
theorem St.same (h : St base w l) (hh : w'.heap = w.heap) (ho : w'.os = w.os) (ht : w'.tape = w.tape) (hu : w'.output = w.output) : St base w' l :=
  ⟨⟨ho.trans h.below.os, ht.trans h.below.tape, hu.trans h.below.output, by rw [hh]; exact h.below.size, fun k hk => by rw [hh]; exact h.below.block k hk⟩, h.nodup, fun p hp => by rw [hh]; exact h.own p hp⟩
theorem St.drewN (h : St base w l) (n : Nat) : St base (w.drewN n) l := h.same rfl rfl rfl rfl
/-- a call that leaves alone what lay -/
theorem St.call (h : St base w l) (hb : Below w.heap.size w w') : St base w' l :=
  ⟨h.below.trans (hb.mono h.size), h.nodup, fun p hp => ⟨(h.own p hp).1, (hb.block _ (get_lt (h.own p hp).2)).trans (h.own p hp).2⟩⟩
/-- what is no longer told -/
theorem St.drop (h : St base w l) (i : Nat) : St base w (l.eraseIdx i) :=
  ⟨h.below, h.nodup.sublist ((List.eraseIdx_sublist l i).map _), fun p hp => h.own p (List.mem_of_mem_eraseIdx hp)⟩
theorem St.sub (h : St base w l) {l' : List (Nat × Obj)} (hs : l'.Sublist l) : St base w l' :=
  ⟨h.below, h.nodup.sublist (hs.map _), fun p hp => h.own p (hs.subset hp)⟩
theorem St.perm (h : St base w l) {l' : List (Nat × Obj)} (hs : l'.Perm l) : St base w l' :=
  ⟨h.below, (hs.map _).nodup_iff.2 h.nodup, fun p hp => h.own p (hs.subset hp)⟩
/-- a block that a callee has turned, and that alone -/
theorem St.turn (h : St base w l) (i : Nat) {b : Nat} {o o' : Obj} (hi : l[i]? = some (b, o)) (hc : Chg (fun k => k = b) w w') (hb' : w'.heap[b]? = some o') : St base w' (l.set i (b, o')) := by
  have hb := h.own (b, o) (List.mem_of_getElem? hi)
  have hlt := (List.getElem?_eq_some_iff.1 hi).1
  refine ⟨h.below.trans (hc.below (B := base.heap.size) h.size (fun k hk => by subst hk; exact hb.1)), ?_, ?_⟩
  · have : (l.set i (b, o')).map (·.1) = l.map (·.1) := by
      rw [List.map_set]
      apply List.ext_getElem?
      intro j
      rw [List.getElem?_set]
      split
      · rename_i e; subst e; rw [List.getElem?_map, hi]; simp [hlt]
      · rfl
    rw [this]; exact h.nodup
  · intro p hp
    obtain ⟨j, hj⟩ := List.getElem?_of_mem hp
    rw [List.getElem?_set] at hj
    split at hj
    · rename_i e; subst e
      cases hj
      exact ⟨hb.1, hb'⟩
    · rename_i e
      have hp' := h.own p (List.mem_of_getElem? hj)
      exact ⟨hp'.1, hc.get hp'.2 (h.ne (o := p.2) (o' := o) hj hi (fun e' => e e'.symm))⟩
/-- the own blocks are all that may have turned since -/
theorem St.chg (h : St base w l) : Chg nil_ base w := ⟨h.below.os, h.below.tape, h.below.output, h.below.size, fun k hk _ => h.below.block k hk⟩
end
end XW
