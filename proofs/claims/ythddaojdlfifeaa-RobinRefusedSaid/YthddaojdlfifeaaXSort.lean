/- slices.SortFunc, over holdings: a row of the call's own becomes a sorted permutation of itself. -/
import Derived.Test.YthddaojdlfifeaaXB
import Derived.Shelf.SlSortCmp.NoneTotal
namespace XW
open Go Go.RowKit Go.Sort Go.Lib Go.Proofs
set_option linter.unusedSimpArgs false
set_option linter.unusedVariables false
set_option linter.unusedSectionVars false
section
variable {α : Type} [Inhabited α] {enc : α → List Value} {k : Nat}
theorem flatK_eq (he : ∀ x, (enc x).length = k) (hk : 0 < k) (l : List α) : flatK enc k l.toArray = (l.flatMap enc).toArray := by
  apply Array.ext
  · rw [size_flatK]; simp [len_flat he]
  · intro j h1 h2
    rw [size_flatK] at h1
    have hj : j < l.length * k := by simpa using h1
    have hi : j / k < l.length := (Nat.div_lt_iff_lt_mul hk).2 hj
    have hc : j % k < k := Nat.mod_lt _ hk
    have e1 := get_flatK enc k l.toArray j (by simpa using hj)
    rw [getElem!_pos _ j (by rw [size_flatK]; exact h1)] at e1
    rw [e1]
    have e2 : (l.toArray)[j / k]! = l.getD (j / k) default := by
      rw [getElem!_pos _ _ (by simpa using hi), List.getD_eq_getElem?_getD, List.getElem?_eq_getElem hi]; simp
    rw [e2, getElem!_pos _ _ (by rw [he]; exact hc)]
    have e3 := get_flat he default l (j / k) hi (j := j % k) (v := (enc (l.getD (j / k) default))[j % k]'(by rw [he]; exact hc)) (List.getElem?_eq_getElem _)
    rw [Nat.div_add_mod' j k] at e3
    have e4 : (l.flatMap enc)[j]? = some ((l.flatMap enc).toArray[j]'h2) := by rw [List.getElem?_eq_getElem (by simpa using h2)]; simp
    rw [e4] at e3
    exact (Option.some.inj e3).symm
theorem holdsK_of (he : ∀ x, (enc x).length = k) (hk : 0 < k) {w : World} {b : Nat} {l : List α} {junk : List Value} {e : TypeId} (h : w.heap[b]? = some (.cells (buf enc l junk) e (0, 0))) : HoldsK enc k w b 0 l.toArray := by
  intro j hj
  rw [flatK_eq he hk] at hj ⊢
  rw [Nat.zero_add]
  have hj' : j < (l.flatMap enc).length := by simpa using hj
  refine ⟨cell_of h ?_, by simp [World.frozen?, h]⟩
  simp only [buf, List.getElem?_toArray]
  rw [List.getElem?_append_left hj', getElem!_pos _ j (by simpa using hj'), List.getElem?_eq_getElem hj']
  simp
theorem putRowK_heap (he : ∀ x, (enc x).length = k) (hk : 0 < k) {w : World} {b : Nat} {l l' : List α} {junk : List Value} {e : TypeId} (hl : l'.length = l.length) (h : w.heap[b]? = some (.cells (buf enc l junk) e (0, 0))) :
    (putRowK enc k w b 0 l'.toArray).heap[b]? = some (.cells (buf enc l' junk) e (0, 0)) := by
  unfold putRowK putRow mapBlock
  simp only [Array.getElem?_modify, if_true, h, Option.map_some]
  congr 2
  rw [flatK_eq he hk]
  unfold putCells buf
  simp only [onCells]
  congr 1
  have hlen : (l'.flatMap enc).length = (l.flatMap enc).length := by rw [len_flat he, len_flat he, hl]
  apply Array.ext
  · simp [hlen]
  · intro j h1 h2
    simp only [Array.size_mapIdx, List.size_toArray, List.length_append] at h1
    simp only [Array.getElem_mapIdx, List.getElem_toArray, List.size_toArray, Nat.zero_le, true_and, Nat.zero_add, Nat.sub_zero, id]
    by_cases hj : j < (l'.flatMap enc).length
    · rw [if_pos hj, List.getElem_append_left hj, getElem!_pos _ j (by simpa using hj)]; simp
    · rw [if_neg hj, List.getElem_append_right (by omega), List.getElem_append_right (by omega)]
      congr 1; omega
theorem putRowK_other {w : World} {b : Nat} {d : Array α} {i : Nat} (h : i ≠ b) : (putRowK enc k w b 0 d).heap[i]? = w.heap[i]? := by
  unfold putRowK putRow mapBlock
  simp only [Array.getElem?_modify]
  rw [if_neg (fun e => h e.symm)]
theorem sortWorldK_chg (w : World) (b n : Nat) (d : Array α) (os : Array Obj) : Chg (fun i => i = b) w (sortWorldK enc k w b 0 n d os) := by
  refine ⟨rfl, rfl, rfl, ?_, fun i hi hn => ?_⟩
  · simp [sortWorldK, grow, putRowK, putRow, mapBlock, Go.Sort.ahead]
  · have hsz : i < (putRowK enc k (Go.Sort.ahead w n) b 0 d).heap.size := by simp [putRowK, putRow, mapBlock, Go.Sort.ahead]; exact hi
    show ((putRowK enc k (Go.Sort.ahead w n) b 0 d).heap ++ os)[i]? = _
    rw [Array.getElem?_append_left hsz, putRowK_other hn]; rfl
theorem sortWorldK_at (he : ∀ x, (enc x).length = k) (hk : 0 < k) {w : World} {b n : Nat} {l l' : List α} {junk : List Value} {e : TypeId} {os : Array Obj} (hl : l'.length = l.length) (h : w.heap[b]? = some (.cells (buf enc l junk) e (0, 0))) :
    (sortWorldK enc k w b 0 n l'.toArray os).heap[b]? = some (.cells (buf enc l' junk) e (0, 0)) := by
  have hb := get_lt h
  have hsz : b < (putRowK enc k (Go.Sort.ahead w n) b 0 l'.toArray).heap.size := by simp [putRowK, putRow, mapBlock, Go.Sort.ahead]; exact hb
  show ((putRowK enc k (Go.Sort.ahead w n) b 0 l'.toArray).heap ++ os)[b]? = _
  rw [Array.getElem?_append_left hsz]
  exact putRowK_heap he hk hl h
end
end XW
