/- append(s, t...): onto a row of the call's own, and onto a cut without room. -/
import Derived.Test.YtmilnlcegcdolaaXSlice
import Derived.Deep.Upon
import Derived.Deep.AppendSrc
namespace XW
open Go Go.RowKit
set_option linter.unusedSimpArgs false
set_option linter.unusedVariables false
set_option linter.unusedSectionVars false
/-- cells that lie one behind the other, from an address on -/
def Lies (w : World) (A : Option Addr) (cs : List Value) : Prop := cs = [] ∨ ∃ a, A = some a ∧ ∀ j u, cs[j]? = some u → w.cell? (a.add j) = some u
theorem Lies.below {w w' : World} {A : Option Addr} {cs : List Value} (h : Lies w A cs) (hb : Below w.heap.size w w') : Lies w' A cs := by
  rcases h with h | ⟨a, hA, h⟩
  · exact .inl h
  · exact .inr ⟨a, hA, fun j u hu => below_cell ((Mem.start w).keep hb) (h j u hu)⟩
theorem Lies.obj {w : World} {b off : Nat} {xs : List Value} {t : TypeId} {fz : Nat × Nat} {cells : Array Value} (h : w.heap[b]? = some (.cells cells t fz)) (hx : ∀ j u, xs[j]? = some u → cells[off + j]? = some u) : Lies w (some ⟨b, off, none⟩) xs :=
  .inr ⟨_, rfl, fun j u hu => by rw [add_plain]; exact cell_of h (hx j u hu)⟩
theorem set_same {α : Type _} {l : List α} {i : Nat} {x : α} (h : l[i]? = some x) : l.set i x = l := by
  apply List.ext_getElem?
  intro j
  rw [List.getElem?_set]
  split
  · rename_i e; subst e
    rw [if_pos (List.getElem?_eq_some_iff.1 h).1, h]
  · rfl
section
variable {F : Fence} {P : Program} {n : Nat} {Q : Post} {ρ : Nat → Value} {ds : List Deferred} {w base : World} {R : List Res} {ops : Array Oper}
variable (hF : Wide F) {dst : Option Tmp} {t ty : TypeId} {s x : Operand} {pos : String} {af : Array Edge} {rest : List Oper}
include hF
/-- append(s, t...), s an own row -/
theorem At_spread {α : Type} {e sz c c1 k m : Nat} {enc : α → List Value} {A : Option Nat} {S : Option Addr} {l ys : List α} [T : TS P t] (i : Nat) (hi : R[i]? = some (.row e sz enc A c l)) (hs : xv n ρ s = .slice (A.map fun b => ⟨b, 0, none⟩) k c) (hk : k = l.length) (hx : xv n ρ x = .slice S m c1) (hm : m = ys.length)
    (hr : ∀ w, Mem base w R → Lies w S (ys.flatMap enc)) (hT : T.e = e ∧ T.sz = sz ∧ sz ≠ 0 ∧ T.z.cells.size = sz) (h1 : ∀ y ∈ ys, ∀ u ∈ enc y, u.oneCell' = true) (hb : (l.length + ys.length) * T.bytes ≤ 140737488355328) (hmx : l.length + ys.length ≤ 1000000000) (hc1 : S = none → m = 0)
    (h : ∀ A' c', AL F P n Q ops rest (updO ρ dst (.slice (A'.map fun b => ⟨b, 0, none⟩) (l.length + ys.length) c')) ds base (R.set i (.row e sz enc A' c' (l ++ ys)))) :
    AL F P n Q ops (⟨dst, .call { callee := .builtin .append, args := #[s, x], argTypes := #[t, t] }, ty, pos, af, none⟩ :: rest) ρ ds base R := ⟨fun w hw => by
  obtain ⟨i', hi', hsz, hz', hby⟩ := T.h
  obtain ⟨hTe, hTs, hne, hTz⟩ := hT
  subst hTe hTs hk hm
  have hmem := List.mem_of_getElem? hi
  have hrow := hw.ok _ hmem
  have he : ∀ x, (enc x).length = T.sz := hrow.1
  by_cases hy : ys = []
  · subst hy
    have hle : l.length ≤ c := hrow.2.1
    have hsrc : Src P i'.size t (.slice S 0 c1) 0 [] w := by
      cases S with
      | none => exact Src.ofNil w T.u c1
      | some a => exact Src.ofSlice w T.u a 0 c1 [] (by simp) (fun j u hu => by simp at hu) (fun u hu => by cases hu)
    have hrun := run_append_nothing (P := P) w t t ty T.e i' T.u hi' (A.map fun b => ⟨b, 0, none⟩) l.length c hle (.slice S 0 c1) hsrc
    have hh := h A c
    rw [List.append_nil, List.length_nil, Nat.add_zero, set_same hi] at hh
    refine XL_gives hF rfl (by simp) (.inl ?_) (hh.use w hw)
    simp only [List.length_nil] at hx
    simp [execOp, resolve, invoke, builtin, hs, hx, hrun, Sem.run_bind, Sem.run_pure, Result.andThen]
  · have hl0 : 0 < ys.length := List.length_pos_iff.2 hy
    obtain ⟨a, rfl⟩ : ∃ a, S = some a := by
      cases S with
      | none => have := hc1 rfl; omega
      | some a => exact ⟨a, rfl⟩
    have hown := ownsRow_of (B := base.heap.size) hrow (fun k hk => (hw.bd _ hmem k hk).1)
    rw [← hsz] at hown
    have hflat : (ys.flatMap enc).length = ys.length * i'.size := by rw [len_flat he, hsz]
    have hnews : ∀ j u, (ys.flatMap enc)[j]? = some u → w.cell? (a.add j) = some u := by
      rcases hr w hw with h | ⟨a', hA, h⟩
      · intro j u hu; rw [h] at hu; simp at hu
      · cases hA; exact h
    refine XL_append hF T.u hi' hz' (by rw [hsz]; exact hTz) (by omega) hown hw.size hs hx (news := ys.flatMap enc) hflat hnews (fun u hu => by
      obtain ⟨y, hy, hu⟩ := List.mem_flatMap.1 hu
      exact h1 y hy u hu) (by
        have : (1000000001 : Nat) ≤ maxLen := by decide
        omega) (by rw [hby]; exact hb) ?_
    intro v' w' hap
    have hr := hap.row
    have hl : l.length + ys.length = (l ++ ys).length := by simp
    have hf : l.flatMap enc ++ ys.flatMap enc = (l ++ ys).flatMap enc := by simp
    rw [hl, hf, hsz] at hr
    obtain ⟨A', c', rfl, hok, hA⟩ := rowOk_of he hr
    have hA0 : ∀ k, (rowV A l.length c).ownBlock = some k ↔ A = some k := fun k => by cases A <;> simp [rowV, Value.ownBlock]
    have := (h A' c').use w' (hw.step i hi (hap.chg.mono (fun k _ hk => (hA0 k).1 hk)) hok (fun k hk => by
      have hk' := (hA k).1 hk
      refine ⟨?_, (ownsRow_lt hr hk').2⟩
      rcases hap.place with hp | hp
      · left; exact (hA0 k).1 (hp.symm.trans hk')
      · right; rw [hp] at hk'; cases hk'; exact Nat.le_refl _))
    simpa [rowV] using this⟩
/-- append(s, t...), s a cut without room: nothing to append, or a new row -/
theorem At_spreadNew {α : Type} {sz c c1 k m : Nat} {enc : α → List Value} {S S1 : Option Addr} {l ys : List α} [T : TS P t] (hs : xv n ρ s = .slice S k c) (hk : k = l.length) (hc : c = k) (hx : xv n ρ x = .slice S1 m c1) (hm : m = ys.length)
    (hrl : ∀ w, Mem base w R → Lies w S (l.flatMap enc)) (hr : ∀ w, Mem base w R → Lies w S1 (ys.flatMap enc)) (he : ∀ x, (enc x).length = sz) (hT : T.sz = sz ∧ sz ≠ 0 ∧ T.z.cells.size = sz) (hb : (l.length + ys.length) * T.bytes ≤ 140737488355328) (hmx : l.length + ys.length ≤ 1000000000)
    (h0 : ys = [] → AL F P n Q ops rest (updO ρ dst (.slice S k c)) ds base R)
    (h : ys ≠ [] → ∀ b c', AL F P n Q ops rest (updO ρ dst (.slice (some ⟨b, 0, none⟩) (l.length + ys.length) c')) ds base (.row T.e sz enc (some b) c' (l ++ ys) :: R)) :
    AL F P n Q ops (⟨dst, .call { callee := .builtin .append, args := #[s, x], argTypes := #[t, t] }, ty, pos, af, none⟩ :: rest) ρ ds base R := ⟨fun w hw => by
  obtain ⟨i', hi', hsz, hz', hby⟩ := T.h
  obtain ⟨hTs, hne, hTz⟩ := hT
  subst hTs hk hm
  by_cases hy : ys = []
  · have hsrc : Src P i'.size t (.slice S1 ys.length c1) 0 [] w := by
      rw [hy]
      cases S1 with
      | none => exact Src.ofNil w T.u c1
      | some a => exact Src.ofSlice w T.u a 0 c1 [] (by simp) (fun j u hu => by simp at hu) (fun u hu => by cases hu)
    have hrun := run_append_nothing (P := P) w t t ty T.e i' T.u hi' S l.length c (by omega) (.slice S1 ys.length c1) hsrc
    refine XL_gives hF rfl (by simp) (.inl ?_) ((h0 hy).use w hw)
    simp [execOp, resolve, invoke, builtin, hs, hx, hrun, Sem.run_bind, Sem.run_pure, Result.andThen]
  · have hl0 : 0 < ys.length := List.length_pos_iff.2 hy
    have hyf : ys.flatMap enc ≠ [] := fun e => by
      have := congrArg List.length e
      rw [len_flat he] at this
      have h2 := Nat.mul_pos hl0 (Nat.pos_of_ne_zero hne)
      simp at this
      omega
    obtain ⟨a, rfl, hnews⟩ : ∃ a, S1 = some a ∧ ∀ j u, (ys.flatMap enc)[j]? = some u → w.cell? (a.add j) = some u := by
      rcases hr w hw with h | h
      · exact absurd h hyf
      · exact h
    have hfl : (ys.flatMap enc).length = ys.length * i'.size := by rw [len_flat he, hsz]
    have hfo : (l.flatMap enc).length = l.length * i'.size := by rw [len_flat he, hsz]
    have hmxl : (1000000001 : Nat) ≤ maxLen := by decide
    have hmxl2 : maxLen ≤ 9223372036854775807 := by decide
    have fin : ∀ (cap : Nat) (w1 : World), l.length + ys.length ≤ cap → cap ≤ maxLen → (Builtin.append_ #[t, t] ty #[.slice S l.length c, .slice (some a) ys.length c1]).run P w = .ok (.slice (some ⟨w.heap.size, 0, none⟩) (l.length + ys.length) cap) (w.drew.alloc (.cells ((l.flatMap enc).toArray ++ (ys.flatMap enc).toArray ++ Builtin.zeroCells T.z.cells (cap - (l.length + ys.length))) T.e)) → XL F P n Q ops (⟨dst, .call { callee := .builtin .append, args := #[s, x], argTypes := #[t, t] }, ty, pos, af, none⟩ :: rest) ρ ds w := by
      intro cap w1 h3 h4 hrun
      have hm' : Mem base (w.drew.alloc (.cells ((l.flatMap enc).toArray ++ (ys.flatMap enc).toArray ++ Builtin.zeroCells T.z.cells (cap - (l.length + ys.length))) T.e)) (.row T.e T.sz enc (some w.heap.size) cap (l ++ ys) :: R) := by
        have hd : Mem base w.drew R := hw.drewN 1
        refine hd.new (Below.alloc (Below.refl _ _) (Nat.le_refl _) _) ⟨he, by simp; omega, h4, (Builtin.zeroCells T.z.cells (cap - (l.length + ys.length))).toList, ?_, ?_⟩ (fun k hk => ?_)
        · have := get_new w.drew (.cells ((l.flatMap enc).toArray ++ (ys.flatMap enc).toArray ++ Builtin.zeroCells T.z.cells (cap - (l.length + ys.length))) T.e)
          rw [show w.drew.heap.size = w.heap.size from rfl] at this
          rw [this]
          congr 2
          apply Array.ext'
          simp [buf]
        · have hz2 : (Builtin.zeroCells T.z.cells (cap - (l.length + ys.length))).size = (cap - (l.length + ys.length)) * T.sz := by
            rw [size_zeroCells, hTz]
          show (l ++ ys).length * T.sz + _ = _
          have hz3 : (Builtin.zeroCells T.z.cells (cap - (l.length + ys.length))).toList.length = (cap - (l.length + ys.length)) * T.sz := (Array.length_toList ..).trans hz2
          rw [hz3, List.length_append, ← Nat.add_mul]
          congr 1; omega
        · have : k = w.heap.size := (Option.some.inj hk).symm
          subst this
          exact ⟨Nat.le_refl _, by simp⟩
      refine XL_gives hF rfl (by simp) (.inl ?_) ((h hy w.heap.size cap).use _ hm')
      simp [execOp, resolve, invoke, builtin, hs, hx, hrun, Sem.run_bind, Sem.run_pure, Result.andThen]
    have hbytes : (l.length + ys.length) * i'.bytes ≤ 140737488355328 := by rw [hby]; exact hb
    by_cases hS : S = none ∧ c = 0
    · obtain ⟨rfl, rfl⟩ := hS
      have hl0' : l = [] := List.eq_nil_of_length_eq_zero (by omega)
      subst hl0'
      have hrun := run_append_nil (P := P) w t ty T.e i' T.z T.u hi' hz' a ys.length c1 (ys.flatMap enc) hfl hnews hl0 (by simp at hmx; omega) (by simp at hbytes; omega)
      refine fin (grownCap w ys.length 0 T.e) w (by simpa using grownCap_ge w ys.length 0 T.e) (grownCap_le_maxLen w _ _ _ (by simp at hmx; omega)) ?_
      simp only [List.length_nil, Nat.zero_add, List.flatMap_nil] at hrun ⊢
      rw [hrun]
      simp
    · have hSs : ∃ a', S = some a' ∧ ∀ j u, (l.flatMap enc)[j]? = some u → w.cell? (a'.add j) = some u := by
        rcases hrl w hw with h | h
        · have hl0' : l.length = 0 := by
            have := congrArg List.length h
            rw [len_flat he] at this
            rcases Nat.eq_zero_or_pos l.length with h2 | h2
            · exact h2
            · have := Nat.mul_pos h2 (Nat.pos_of_ne_zero hne); simp at *; omega
          cases S with
          | none => exact absurd ⟨rfl, by omega⟩ hS
          | some a' => exact ⟨a', rfl, fun j u hu => by rw [h] at hu; simp at hu⟩
        · exact h
      obtain ⟨a', rfl, holds⟩ := hSs
      have hrun := run_append_grow (P := P) w t ty T.e i' T.z T.u hi' hz' a' l.length c (l.flatMap enc) hfo holds a ys.length c1 (ys.flatMap enc) hfl hnews (by omega) (by omega) (growslice_fits (by omega) hbytes)
      exact fin _ w (grownCap_ge w _ _ _) (grownCap_le_maxLen w _ _ _ (by omega)) hrun⟩
end
end XW
