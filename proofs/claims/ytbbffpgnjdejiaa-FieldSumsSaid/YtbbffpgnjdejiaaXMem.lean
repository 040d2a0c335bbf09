/- Memory, over XW: every change of memory is a new block, or a block put anew. -/
import Derived.Test.YtbbffpgnjdejiaaXMap
import Derived.Deep.Draws
namespace XW
open Go Go.RowKit
set_option linter.unusedSimpArgs false
set_option linter.unusedVariables false

/-- a value that one cell holds -/
def _root_.Go.Value.one1 : Value → Bool
  | .agg _ | .tuple _ => false
  | _ => true

/-- w' is w but for the blocks of S, and what is new -/
structure Chg (S : Nat → Prop) (w w' : World) : Prop where
  os : w'.os = w.os
  tape : w'.tape = w.tape
  output : w'.output = w.output
  size : w.heap.size ≤ w'.heap.size
  block : ∀ k, k < w.heap.size → ¬ S k → w'.heap[k]? = w.heap[k]?
def nil_ : Nat → Prop := fun _ => False

section
variable {S S' : Nat → Prop} {w w' w'' : World}
theorem Chg.refl (S : Nat → Prop) (w : World) : Chg S w w := ⟨rfl, rfl, rfl, Nat.le_refl _, fun _ _ _ => rfl⟩
theorem Chg.trans (h : Chg S w w') (k : Chg S w' w'') : Chg S w w'' :=
  ⟨k.os.trans h.os, k.tape.trans h.tape, k.output.trans h.output, Nat.le_trans h.size k.size, fun i hi hs => (k.block i (Nat.lt_of_lt_of_le hi h.size) hs).trans (h.block i hi hs)⟩
theorem Chg.mono (h : Chg S w w') (hs : ∀ k, k < w.heap.size → S k → S' k) : Chg S' w w' := ⟨h.os, h.tape, h.output, h.size, fun k hk hn => h.block k hk fun h => hn (hs k hk h)⟩
theorem Chg.alloc (h : Chg S w w') (o : Obj) : Chg S w (w'.alloc o) :=
  h.trans ⟨rfl, rfl, rfl, by simp, fun k hk _ => Below.heap_alloc _ _ _ hk⟩
theorem Chg.put (h : Chg S w w') {b : Nat} (hb : S b ∨ w.heap.size ≤ b) (o : Obj) : Chg S w (w'.putObj b o) :=
  ⟨h.os, h.tape, h.output, by simp only [World.putObj, Array.size_setIfInBounds]; exact h.size, fun k hk hs => by
    rw [World.putObj_heap_other (fun e => by subst e; rcases hb with hb | hb; exact hs hb; omega)]
    exact h.block k hk hs⟩
theorem Chg.drewN (h : Chg S w w') (n : Nat) : Chg S w (w'.drewN n) := ⟨h.os, h.tape, h.output, h.size, h.block⟩
theorem Chg.drew1 (h : Chg S w w') : Chg S w { w' with drawn := w'.drawn + 1 } := ⟨h.os, h.tape, h.output, h.size, h.block⟩
theorem Chg.get (h : Chg S w w') {k : Nat} {o : Obj} (hk : w.heap[k]? = some o) (hs : ¬ S k) : w'.heap[k]? = some o := (h.block k (Array.getElem?_eq_some_iff.1 hk).1 hs).trans hk
theorem Chg.of_below (h : Below w.heap.size w w') : Chg S w w' := ⟨h.os, h.tape, h.output, h.size, fun k hk _ => h.block k hk⟩
theorem Chg.below (h : Chg S w w') {B : Nat} (hB : B ≤ w.heap.size) (hS : ∀ k, S k → B ≤ k) : Below B w w' :=
  ⟨h.os, h.tape, h.output, h.size, fun k hk => h.block k (by omega) fun hs => by have := hS k hs; omega⟩
theorem Chg.below0 (h : Chg nil_ w w') : Below w.heap.size w w' := h.below (Nat.le_refl _) (fun _ h => h.elim)
end

section
variable {w : World}
theorem get_lt {k : Nat} {o : Obj} (h : w.heap[k]? = some o) : k < w.heap.size := (Array.getElem?_eq_some_iff.1 h).1
theorem get_alloc {k : Nat} {o : Obj} (h : w.heap[k]? = some o) (o' : Obj) : (w.alloc o').heap[k]? = some o := (Below.heap_alloc w o' k (get_lt h)).trans h
theorem get_new (w : World) (o : Obj) : (w.alloc o).heap[w.heap.size]? = some o := World.alloc_heap_new w o
theorem get_put_same {k : Nat} {o : Obj} (h : w.heap[k]? = some o) (o' : Obj) : (w.putObj k o').heap[k]? = some o' := World.putObj_heap_same (get_lt h)
theorem get_put_other {k b : Nat} {o : Obj} (h : w.heap[k]? = some o) (hne : k ≠ b) (o' : Obj) : (w.putObj b o').heap[k]? = some o := (World.putObj_heap_other hne).trans h
theorem size_alloc (w : World) (o : Obj) : (w.alloc o).heap.size = w.heap.size + 1 := by simp
theorem size_put (w : World) (b : Nat) (o : Obj) : (w.putObj b o).heap.size = w.heap.size := by simp [World.putObj]
theorem cell_of {b off : Nat} {cs : Array Value} {t : TypeId} {fz : Nat × Nat} {v : Value} (h : w.heap[b]? = some (.cells cs t fz)) (hv : cs[off]? = some v) : w.cell? ⟨b, off, none⟩ = some v := by simp [World.cell?, h, hv]
theorem add_plain (b off j : Nat) : (⟨b, off, none⟩ : Addr).add j = ⟨b, off + j, none⟩ := by
  unfold Addr.add; split
  · subst_vars; rfl
  · rfl
theorem setCell_put {b off : Nat} {cs : Array Value} {t : TypeId} {fz : Nat × Nat} (h : w.heap[b]? = some (.cells cs t fz)) (v : Value) : w.setCell ⟨b, off, none⟩ v = w.putObj b (.cells (cs.setIfInBounds off v) t fz) := by
  have hlt := get_lt h
  simp only [World.setCell, World.putObj]
  congr 1
  apply Array.ext
  · simp
  · intro i h1 h2
    simp only [Array.size_modify] at h1
    rw [Array.getElem_modify, Array.getElem_setIfInBounds (by simpa using h1)]
    by_cases e : b = i
    · subst e
      rw [if_pos rfl, if_pos rfl]
      have : w.heap[b] = .cells cs t fz := by simpa [Array.getElem?_eq_getElem hlt] using h
      rw [this]; simp
    · rw [if_neg e, if_neg e]
end

section
variable {F : Fence} {P : Program} {n : Nat} {Q : Post} {ρ : Nat → Value} {ds : List Deferred} {w : World} {ops : Array Oper}

theorem loadCells_run : ∀ (cs : List Value) (a : Addr) (i : Nat) (acc : Array Value), (∀ j u, cs[j]? = some u → w.cell? (a.add (i + j)) = some u) →
    (loadCellsFrom a i cs.length acc).run P w = .ok (acc ++ cs.toArray) w
  | [], a, i, acc, _ => by simp [loadCellsFrom]
  | v :: cs, a, i, acc, h => by
    have h0 := h 0 v rfl
    have ih := loadCells_run cs a (i + 1) (acc.push v) (fun j u hj => by have := h (j + 1) u hj; rwa [show i + 1 + j = i + (j + 1) by omega])
    simp only [List.length_cons, loadCellsFrom]
    rw [Sem.run_bind]
    simp only [load, Sem.run, Nat.add_zero] at h0 ⊢
    rw [h0]
    simp only [Sem.run, Result.andThen]
    rw [ih]
    simp
def aggType (d : TypeDesc) : Bool := match d with
  | .struct _ | .array _ _ => true
  | _ => false
theorem loads_agg {t : TypeId} {d : TypeDesc} {i : TypeInfo} {a : Addr} {cs : List Value} (hu : P.underlying t = some d) (hd : aggType d = true) (hi : P.info? t = some i) (hl : cs.length = i.size) (hc : ∀ j u, cs[j]? = some u → w.cell? (a.add j) = some u) : Loads P t w a (.agg cs.toArray) := by
  have hrun := loadCells_run (P := P) (w := w) cs a 0 #[] (fun j u hj => by rw [Nat.zero_add]; exact hc j u hj)
  unfold Loads loadVar isAgg
  cases d <;> simp_all [aggType, underlying, program, Go.sizeOf, typeInfo, loadCells, Sem.run_bind, Sem.run, Result.andThen]
/-- a whole block -/
theorem loads_block {t : TypeId} {d : TypeDesc} {i : TypeInfo} {b : Nat} {cs : Array Value} {fz : Nat × Nat} {t' : TypeId} (hu : P.underlying t = some d) (hd : aggType d = true) (hi : P.info? t = some i) (hb : w.heap[b]? = some (.cells cs t' fz)) (hl : cs.size = i.size) : Loads P t w ⟨b, 0, none⟩ (.agg cs) := by
  have := loads_agg (P := P) (w := w) (a := ⟨b, 0, none⟩) (cs := cs.toList) hu hd hi (by simpa using hl) (fun j u hj => by rw [add_plain, Nat.zero_add]; exact cell_of hb (by simpa using hj))
  simpa using this
theorem loads_box {t : TypeId} {d : TypeDesc} {b : Nat} {v : Value} {fz : Nat × Nat} {t' : TypeId} (hu : P.underlying t = some d) (hd : oneCellType d = true) (hb : w.heap[b]? = some (.cells #[v] t' fz)) : Loads P t w ⟨b, 0, none⟩ v := loads_one hu hd (cell_of hb rfl)
theorem loads_cell {t : TypeId} {d : TypeDesc} {b off : Nat} {cs : Array Value} {v : Value} {fz : Nat × Nat} {t' : TypeId} (hu : P.underlying t = some d) (hd : oneCellType d = true) (hb : w.heap[b]? = some (.cells cs t' fz)) (hv : cs[off]? = some v) : Loads P t w ⟨b, off, none⟩ v := loads_one hu hd (cell_of hb hv)

theorem run_store_cell {a : Addr} {v : Value} {b : Nat} {cs : Array Value} {t : TypeId} (ha : a = ⟨b, a.off, none⟩) (h1 : v.one1 = true) (hb : w.heap[b]? = some (.cells cs t (0, 0))) (hoff : a.off < cs.size) :
    (store a v).run P w = .ok () (w.putObj b (.cells (cs.setIfInBounds a.off v) t (0, 0))) := by
  obtain ⟨ab, ao, asp⟩ := a
  simp only [Addr.mk.injEq, true_and] at ha
  obtain ⟨rfl, rfl⟩ := ha
  simp only at hoff
  have hc : w.cell? ⟨ab, ao, none⟩ = some cs[ao] := cell_of hb (Array.getElem?_eq_getElem hoff)
  have hf : w.frozen? ⟨ab, ao, none⟩ = false := by simp [World.frozen?, hb]
  have hs : w.setCell ⟨ab, ao, none⟩ v = w.putObj ab (.cells (cs.setIfInBounds ao v) t (0, 0)) := setCell_put hb v
  cases v <;> first | (cases h1; done) | (simp [store, Sem.run, hc, hf, hs])

theorem putObj_putObj {b : Nat} {o o' : Obj} : (w.putObj b o).putObj b o' = w.putObj b o' := by
  simp only [World.putObj]
  congr 1
  apply Array.ext
  · simp
  · intro i h1 h2
    simp only [Array.size_setIfInBounds] at h1
    rw [Array.getElem_setIfInBounds (by simpa using h1)]
    by_cases e : b = i
    · rw [if_pos e]; subst e; simp
    · rw [if_neg e, Array.getElem_setIfInBounds (by simpa using h1), if_neg e, Array.getElem_setIfInBounds (by simpa using h1), if_neg e]

/-- cells written over one another from a place on -/
def over (cs : Array Value) : List Value → Nat → Array Value
  | [], _ => cs
  | v :: vs, i => over (cs.setIfInBounds i v) vs (i + 1)
theorem over_size : ∀ (vs : List Value) (cs : Array Value) (i : Nat), (over cs vs i).size = cs.size
  | [], _, _ => rfl
  | v :: vs, cs, i => by simp [over, over_size vs]
theorem storeCells_run {b off : Nat} {t : TypeId} : ∀ (vs : List Value) (i : Nat) (cs : Array Value) (w : World), (∀ v ∈ vs, v.one1 = true) → w.heap[b]? = some (.cells cs t (0, 0)) → off + i + vs.length ≤ cs.size →
    (storeCells ⟨b, off, none⟩ vs i).run P w = .ok () (if vs = [] then w else w.putObj b (.cells (over cs vs (off + i)) t (0, 0)))
  | [], i, cs, w, _, _, _ => by simp [storeCells]
  | v :: vs, i, cs, w, h1, hb, hl => by
    simp only [List.length_cons] at hl
    simp only [storeCells]
    rw [Sem.run_bind, add_plain, run_store_cell rfl (h1 v (by simp)) hb (by simp; omega)]
    simp only [Result.andThen]
    rw [storeCells_run vs (i + 1) _ _ (fun u hu => h1 u (by simp [hu])) (get_put_same hb _) (by simp; omega)]
    by_cases e : vs = []
    · subst e; simp [over]
    · rw [if_neg e, if_neg (by simp), putObj_putObj]
      simp only [over]
      rw [show off + (i + 1) = off + i + 1 by omega]

theorem stores_at {t : TypeId} {i : TypeInfo} {b off : Nat} {cs : Array Value} {t' : TypeId} {v : Value} (hi : P.info? t = some i) (hl : v.cells.size = i.size) (hb : w.heap[b]? = some (.cells cs t' (0, 0))) (hoff : off + v.cells.size ≤ cs.size) (h1 : ∀ u ∈ v.cells.toList, u.one1 = true) (hne : v.cells.toList ≠ []) :
    Stores P t w ⟨b, off, none⟩ v (w.putObj b (.cells (over cs v.cells.toList off) t' (0, 0))) := by
  have := storeCells_run (P := P) (b := b) (off := off) (t := t') v.cells.toList 0 cs w h1 hb (by simpa using hoff)
  rw [if_neg hne, Nat.add_zero] at this
  unfold Stores storeVar
  simp only [Go.sizeOf, typeInfo, program, Sem.run_bind, Sem.run, hi, Result.andThen, Sem.run_pure, pure_bind, hl, ne_eq, not_true_eq_false, if_false]
  exact this
/-- one cell -/
theorem stores_cell {t : TypeId} {i : TypeInfo} {b off : Nat} {cs : Array Value} {t' : TypeId} {v : Value} (hi : P.info? t = some i) (hs : i.size = 1) (hv : v.cells = #[v]) (h1 : v.one1 = true) (hb : w.heap[b]? = some (.cells cs t' (0, 0))) (hoff : off < cs.size) :
    Stores P t w ⟨b, off, none⟩ v (w.putObj b (.cells (cs.setIfInBounds off v) t' (0, 0))) := by
  have := stores_at (P := P) (w := w) (t := t) (i := i) (b := b) (off := off) (cs := cs) (t' := t') (v := v) hi (by rw [hv, hs]; rfl) hb (by rw [hv]; exact hoff) (by rw [hv]; simpa using h1) (by rw [hv]; simp)
  simpa [hv, over] using this
/-- a block as a whole -/
theorem over_all (cs : Array Value) (vs : List Value) (h : vs.length = cs.size) : over cs vs 0 = vs.toArray := by
  have key : ∀ (vs : List Value) (cs : Array Value) (i : Nat), i + vs.length = cs.size → over cs vs i = (cs.toList.take i ++ vs).toArray := by
    intro vs
    induction vs with
    | nil => intro cs i h; simp only [List.length_nil, Nat.add_zero] at h; simp [over, h, ← Array.length_toList]
    | cons v vs ih =>
      intro cs i h
      simp only [over]
      rw [ih _ _ (by simp at h ⊢; omega)]
      congr 1
      simp only [List.length_cons] at h
      rw [Array.toList_setIfInBounds, List.take_succ_eq_append_getElem (by simp; omega)]
      simp [List.take_set_of_le]
  have := key vs cs 0 (by omega)
  simpa using this
theorem stores_block {t : TypeId} {i : TypeInfo} {b : Nat} {cs : Array Value} {t' : TypeId} {v : Value} (hi : P.info? t = some i) (hl : v.cells.size = i.size) (hcs : cs.size = i.size) (hb : w.heap[b]? = some (.cells cs t' (0, 0))) (h1 : ∀ u ∈ v.cells.toList, u.one1 = true) (h0 : i.size ≠ 0) :
    Stores P t w ⟨b, 0, none⟩ v (w.putObj b (.cells v.cells t' (0, 0))) := by
  have := stores_at (P := P) (w := w) (t := t) (i := i) (b := b) (off := 0) (cs := cs) (t' := t') (v := v) hi hl hb (by omega) h1 (by intro e; have := congrArg List.length e; simp at this; rw [this] at hl; simp at hl; omega)
  rwa [over_all _ _ (by simp; omega), Array.toArray_toList] at this

/-- &x.f -/
theorem XL_field (hF : Wide F) {dst : Option Tmp} {t ty : TypeId} {x : Operand} {j : Nat} {pos : String} {af : Array Edge} {rest : List Oper} {fs : Array Field} {f : Field} {i : TypeInfo} {b off : Nat}
    (hu : P.underlying t = some (.struct fs)) (hf : fs[j]? = some f) (hi : P.info? f.type = some i) (hs : i.size ≠ 0) (hx : xv n ρ x = .pointer (some ⟨b, off, none⟩))
    (h : XL F P n Q ops rest (updO ρ dst (.pointer (some ⟨b, off + f.offset, none⟩))) ds w) : XL F P n Q ops (⟨dst, .fieldAddr t x j, ty, pos, af, none⟩ :: rest) ρ ds w :=
  XL_gives hF rfl (by simp) (.inl (by
    simp [execOp, Instr.fieldAt, hx, Instr.sureAddr, underlying, program, hu, hf, fieldPlace, Go.sizeOf, typeInfo, hi, hs, add_plain, Sem.run_bind, Sem.run, Result.andThen])) h
theorem XL_fieldAdd (hF : Wide F) {dst : Option Tmp} {t ty : TypeId} {x : Operand} {j : Nat} {pos : String} {af : Array Edge} {rest : List Oper} {fs : Array Field} {f : Field} {i : TypeInfo} {a : Addr}
    (hu : P.underlying t = some (.struct fs)) (hf : fs[j]? = some f) (hi : P.info? f.type = some i) (hs : i.size ≠ 0) (hx : xv n ρ x = .pointer (some a))
    (h : XL F P n Q ops rest (updO ρ dst (.pointer (some (a.add f.offset)))) ds w) : XL F P n Q ops (⟨dst, .fieldAddr t x j, ty, pos, af, none⟩ :: rest) ρ ds w :=
  XL_gives hF rfl (by simp) (.inl (by
    simp [execOp, Instr.fieldAt, hx, Instr.sureAddr, underlying, program, hu, hf, fieldPlace, Go.sizeOf, typeInfo, hi, hs, Sem.run_bind, Sem.run, Result.andThen])) h
/-- x.f of a value -/
theorem XL_buildSlice (hF : Wide F) {dst : Option Tmp} {t e ty : TypeId} {m : Nat} {parts : Array (Nat × Operand)} {pos : String} {af : Array Edge} {rest : List Oper} {v : Value} {w' : World}
    (hr : (Instr.buildSlice t m (parts.map fun (i, x) => (i, xv n ρ x))).run P w = .ok v w') (h : XL F P n Q ops rest (updO ρ dst v) ds w') : XL F P n Q ops (⟨dst, .buildSlice t m parts, ty, pos, af, none⟩ :: rest) ρ ds w :=
  XL_gives hF rfl (by simp) (.inl (by simp only [execOp]; rw [Sem.run_bind, hr]; rfl)) h
end
end XW
