import Derived.Test.YthddaojdlfifeaaXB
import Derived.Laws.Slices
import Derived.Deep.Upon
import Derived.Deep.AppendSrc
/- Cuts of slices: s[l:h], s[:h], s[l:], with and without a bound for the room. -/
namespace XW
open Go Go.RowKit
set_option linter.unusedSimpArgs false
set_option linter.unusedVariables false
set_option linter.unusedSectionVars false
def cutA (A : Option Addr) (l m s : Nat) : Option Addr := if m = l then A else A.map (·.add (l * s))
theorem sliced_cut (A : Option Addr) (l h m s : Nat) : sliced A l h m s = .slice (cutA A l m s) (h - l) (m - l) := rfl
section
variable {F : Fence} {P : Program} {n : Nat} {Q : Post} {ρ : Nat → Value} {ds : List Deferred} {w base : World} {R : List Res} {ops : Array Oper}
variable (hF : Wide F) {dst : Option Tmp} {t ty : TypeId} {x : Operand} {pos : String} {af : Array Edge} {rest : List Oper}
include hF
theorem At_cut_h {A : Option Addr} {len c h : Nat} {kh : IntKind} {z : Operand} [T : TS P t] (hx : xv n ρ x = .slice A len c) (hh : xv n ρ z = .int kh (h : Nat)) (h2 : h ≤ c) (hk : AL F P n Q ops rest (updO ρ dst (.slice (cutA A 0 c T.sz) (h - 0) (c - 0))) ds base R) :
    AL F P n Q ops (⟨dst, .slice t x (none) (some z) (none), ty, pos, af, none⟩ :: rest) ρ ds base R := ⟨fun w hw => by
  obtain ⟨i, hi, hs, _⟩ := T.h
  have he : P.elem t = T.e := by simp [Program.elem, T.u]
  have hu : P.underlying t = some (.slice (P.elem t)) := by rw [he]; exact T.u
  have hz : (Go.sizeOf (P.elem t)).run P w = .ok T.sz w := by rw [he]; simp [Go.sizeOf, typeInfo, program, hi, hs, Sem.run_bind, Sem.run, Result.andThen]
  refine XL_gives hF rfl (by simp) (.inl ?_) (hk.use w hw)
  simp only [execOp, Option.map_some, Option.map_none, hx, hh]
  rw [Sem.run_bind, run_sliceAt_slice _ _ _ _ _ _ hu, run_slice_h _ _ _ _ _ hu _ (h : Int) (by omega) (by omega), hz]
  simp [Sem.run, Result.andThen, sliced_cut]⟩
theorem At_cut_l {A : Option Addr} {len c l : Nat} {kl : IntKind} {y : Operand} [T : TS P t] (hx : xv n ρ x = .slice A len c) (hl : xv n ρ y = .int kl (l : Nat)) (h1 : l ≤ len) (hk : AL F P n Q ops rest (updO ρ dst (.slice (cutA A l c T.sz) (len - l) (c - l))) ds base R) :
    AL F P n Q ops (⟨dst, .slice t x (some y) (none) (none), ty, pos, af, none⟩ :: rest) ρ ds base R := ⟨fun w hw => by
  obtain ⟨i, hi, hs, _⟩ := T.h
  have he : P.elem t = T.e := by simp [Program.elem, T.u]
  have hu : P.underlying t = some (.slice (P.elem t)) := by rw [he]; exact T.u
  have hz : (Go.sizeOf (P.elem t)).run P w = .ok T.sz w := by rw [he]; simp [Go.sizeOf, typeInfo, program, hi, hs, Sem.run_bind, Sem.run, Result.andThen]
  refine XL_gives hF rfl (by simp) (.inl ?_) (hk.use w hw)
  simp only [execOp, Option.map_some, Option.map_none, hx, hl]
  rw [Sem.run_bind, run_sliceAt_slice _ _ _ _ _ _ hu, run_slice_l _ _ _ _ _ hu _ (l : Int) (by omega) (by omega), hz]
  simp [Sem.run, Result.andThen, sliced_cut]⟩
end
end XW

/- append(s, t...): onto a row of the call's own, and onto a cut without room. -/
namespace XW
open Go Go.RowKit
set_option linter.unusedSimpArgs false
set_option linter.unusedVariables false
set_option linter.unusedSectionVars false
/-- cells that lie one behind the other, from an address on -/
def Lies (w : World) (A : Option Addr) (cs : List Value) : Prop := cs = [] ∨ ∃ a, A = some a ∧ ∀ j u, cs[j]? = some u → w.cell? (a.add j) = some u
theorem Lies.below {w w' : World} {A : Option Addr} {cs : List Value} (h : Lies w A cs) (hb : Below w.heap.size w w') : Lies w' A cs := by
  rcases h with h | ⟨a, hA, h⟩
  · exact .inl h
  · exact .inr ⟨a, hA, fun j u hu => below_cell ((Mem.start w).keep hb) (h j u hu)⟩
theorem Lies.obj {w : World} {b off : Nat} {xs : List Value} {t : TypeId} {fz : Nat × Nat} {cells : Array Value} (h : w.heap[b]? = some (.cells cells t fz)) (hx : ∀ j u, xs[j]? = some u → cells[off + j]? = some u) : Lies w (some ⟨b, off, none⟩) xs :=
  .inr ⟨_, rfl, fun j u hu => by rw [add_plain]; exact cell_of h (hx j u hu)⟩
theorem set_same {α : Type _} {l : List α} {i : Nat} {x : α} (h : l[i]? = some x) : l.set i x = l := by
  apply List.ext_getElem?
  intro j
  rw [List.getElem?_set]
  split
  · rename_i e; subst e
    rw [if_pos (List.getElem?_eq_some_iff.1 h).1, h]
  · rfl
section
variable {F : Fence} {P : Program} {n : Nat} {Q : Post} {ρ : Nat → Value} {ds : List Deferred} {w base : World} {R : List Res} {ops : Array Oper}
variable (hF : Wide F) {dst : Option Tmp} {t ty : TypeId} {s x : Operand} {pos : String} {af : Array Edge} {rest : List Oper}
include hF
/-- append(s, t...), s an own row -/
theorem At_spread {α : Type} {e sz c c1 k m : Nat} {enc : α → List Value} {A : Option Nat} {S : Option Addr} {l ys : List α} [T : TS P t] (i : Nat) (hi : R[i]? = some (.row e sz enc A c l)) (hs : xv n ρ s = .slice (A.map fun b => ⟨b, 0, none⟩) k c) (hk : k = l.length) (hx : xv n ρ x = .slice S m c1) (hm : m = ys.length)
    (hr : ∀ w, Mem base w R → Lies w S (ys.flatMap enc)) (hT : T.e = e ∧ T.sz = sz ∧ sz ≠ 0 ∧ T.z.cells.size = sz) (h1 : ∀ y ∈ ys, ∀ u ∈ enc y, u.oneCell' = true) (hb : (l.length + ys.length) * T.bytes ≤ 140737488355328) (hmx : l.length + ys.length ≤ 1000000000) (hc1 : S = none → m = 0)
    (h : ∀ A' c', AL F P n Q ops rest (updO ρ dst (.slice (A'.map fun b => ⟨b, 0, none⟩) (l.length + ys.length) c')) ds base (R.set i (.row e sz enc A' c' (l ++ ys)))) :
    AL F P n Q ops (⟨dst, .call { callee := .builtin .append, args := #[s, x], argTypes := #[t, t] }, ty, pos, af, none⟩ :: rest) ρ ds base R := ⟨fun w hw => by
  obtain ⟨i', hi', hsz, hz', hby⟩ := T.h
  obtain ⟨hTe, hTs, hne, hTz⟩ := hT
  subst hTe hTs hk hm
  have hmem := List.mem_of_getElem? hi
  have hrow := hw.ok _ hmem
  have he : ∀ x, (enc x).length = T.sz := hrow.1
  by_cases hy : ys = []
  · subst hy
    have hle : l.length ≤ c := hrow.2.1
    have hsrc : Src P i'.size t (.slice S 0 c1) 0 [] w := by
      cases S with
      | none => exact Src.ofNil w T.u c1
      | some a => exact Src.ofSlice w T.u a 0 c1 [] (by simp) (fun j u hu => by simp at hu) (fun u hu => by cases hu)
    have hrun := run_append_nothing (P := P) w t t ty T.e i' T.u hi' (A.map fun b => ⟨b, 0, none⟩) l.length c hle (.slice S 0 c1) hsrc
    have hh := h A c
    rw [List.append_nil, List.length_nil, Nat.add_zero, set_same hi] at hh
    refine XL_gives hF rfl (by simp) (.inl ?_) (hh.use w hw)
    simp only [List.length_nil] at hx
    simp [execOp, resolve, invoke, builtin, hs, hx, hrun, Sem.run_bind, Sem.run_pure, Result.andThen]
  · have hl0 : 0 < ys.length := List.length_pos_iff.2 hy
    obtain ⟨a, rfl⟩ : ∃ a, S = some a := by
      cases S with
      | none => have := hc1 rfl; omega
      | some a => exact ⟨a, rfl⟩
    have hown := ownsRow_of (B := base.heap.size) hrow (fun k hk => (hw.bd _ hmem k hk).1)
    rw [← hsz] at hown
    have hflat : (ys.flatMap enc).length = ys.length * i'.size := by rw [len_flat he, hsz]
    have hnews : ∀ j u, (ys.flatMap enc)[j]? = some u → w.cell? (a.add j) = some u := by
      rcases hr w hw with h | ⟨a', hA, h⟩
      · intro j u hu; rw [h] at hu; simp at hu
      · cases hA; exact h
    refine XL_append hF T.u hi' hz' (by rw [hsz]; exact hTz) (by omega) hown hw.size hs hx (news := ys.flatMap enc) hflat hnews (fun u hu => by
      obtain ⟨y, hy, hu⟩ := List.mem_flatMap.1 hu
      exact h1 y hy u hu) (by
        have : (1000000001 : Nat) ≤ maxLen := by decide
        omega) (by rw [hby]; exact hb) ?_
    intro v' w' hap
    have hr := hap.row
    have hl : l.length + ys.length = (l ++ ys).length := by simp
    have hf : l.flatMap enc ++ ys.flatMap enc = (l ++ ys).flatMap enc := by simp
    rw [hl, hf, hsz] at hr
    obtain ⟨A', c', rfl, hok, hA⟩ := rowOk_of he hr
    have hA0 : ∀ k, (rowV A l.length c).ownBlock = some k ↔ A = some k := fun k => by cases A <;> simp [rowV, Value.ownBlock]
    have := (h A' c').use w' (hw.step i hi (hap.chg.mono (fun k _ hk => (hA0 k).1 hk)) hok (fun k hk => by
      have hk' := (hA k).1 hk
      refine ⟨?_, (ownsRow_lt hr hk').2⟩
      rcases hap.place with hp | hp
      · left; exact (hA0 k).1 (hp.symm.trans hk')
      · right; rw [hp] at hk'; cases hk'; exact Nat.le_refl _))
    simpa [rowV] using this⟩
end
end XW
