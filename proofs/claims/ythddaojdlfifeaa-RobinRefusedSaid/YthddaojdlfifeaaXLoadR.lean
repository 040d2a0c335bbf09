import Derived.Test.YthddaojdlfifeaaXB
/- Struct literals; calls after which one goes on from the new memory. -/
namespace XW
open Go Go.RowKit
set_option linter.unusedSimpArgs false
set_option linter.unusedVariables false
set_option linter.unusedSectionVars false

/-- a struct's fields: their places and sizes -/
class TB (P : Program) (t : TypeId) where
  pl : List (Nat × Nat)
  h : ∃ fs, P.underlying t = some (.struct fs) ∧ ∀ W, (fs.mapM fun f => do pure (f.offset, ← Go.sizeOf f.type) : Sem (Array (Nat × Nat))).run P W = .ok pl.toArray W

section
variable {F : Fence} {P : Program} {n : Nat} {Q : Post} {ρ : Nat → Value} {ds : List Deferred} {w base : World} {R R' : List Res} {ops : Array Oper} {Φ : World → Prop}
variable (hF : Wide F) {dst : Option Tmp} {t ty : TypeId} {x y z u : Operand} {pos : String} {af : Array Edge} {rest : List Oper}
include hF
theorem At_buildS {parts : Array (Nat × Operand)} {ps : List (Nat × Value)} {cs : Array Value} [Z : TZ P t] [B : TB P t] (hp : parts.toList.map (fun x => (x.fst, xv n ρ x.snd)) = ps) (hf : Instr.fill (fun i => B.pl[i]?) Z.z.cells ps = some cs)
    (h : AL F P n Q ops rest (updO ρ dst (.agg cs)) ds base R) : AL F P n Q ops (⟨dst, .build t parts, ty, pos, af, none⟩ :: rest) ρ ds base R := ⟨fun w hw => XL_gives hF rfl (by simp) (.inl (by
    obtain ⟨fs, hu, hm⟩ := B.h
    obtain ⟨i', hi', hz'⟩ := Z.h
    have hm' := hm w
    have hpl : ∀ i : Nat, B.pl.toArray[i]? = B.pl[i]? := fun i => by simp
    have e : (Instr.build t (parts.map fun x => (x.fst, xv n ρ x.snd))).run P w = .ok (.agg cs) w := by
      unfold Instr.build
      have hps : (parts.map fun x => (x.fst, xv n ρ x.snd)).toList = ps := by rw [Array.toList_map]; exact hp
      have h0 : (zeroValue t).run P w = .ok Z.z w := by simp [zeroValue, typeInfo, program, hi', hz', Sem.run_bind, Sem.run, Result.andThen]
      have h1 : (underlying t).run P w = .ok (.struct fs) w := by simp [underlying, program, hu, Sem.run_bind, Sem.run, Result.andThen]
      rw [Sem.run_bind, h0]
      simp only [Result.andThen]
      rw [Sem.run_bind, h1]
      simp only [Result.andThen]
      rw [Sem.run_bind, hm']
      simp only [Result.andThen]
      have hf2 : Instr.fill (fun x => B.pl.toArray[x]?) Z.z.cells (parts.map fun x => (x.fst, xv n ρ x.snd)).toList = some cs := by
        rw [hps]; rw [← hf]; congr 1; funext i; exact hpl i
      rw [hf2]; rfl
    simp only [execOp]
    rw [Sem.run_bind, e]; rfl)) (h.use w hw)⟩
end
end XW

/- Calls within a fence: a callee that calls yield itself (an iterator's closure that calls itself). -/
namespace XW
open Go Go.RowKit RegInv
set_option linter.unusedSimpArgs false
set_option linter.unusedVariables false
set_option linter.unusedSectionVars false

section
variable {F : Fence} {P : Program} {n : Nat} {Q : Post} {ρ : Nat → Value} {ds : List Deferred} {w base : World} {R : List Res} {ops : Array Oper}
end
theorem At_rowSome {base : World} {R : List Res} {Φ : World → Prop} {α : Type} {e sz : Nat} {enc : α → List Value} {A : Option Nat} {c : Nat} {l : List α} (i : Nat) (hi : R[i]? = some (.row e sz enc A c l)) (h0 : 0 < l.length) (h : ∀ b, A = some b → At base R Φ) : At base R Φ := fun w hw => by
  obtain ⟨b, junk, h1, _⟩ := hw.open i hi h0
  exact h b h1 w hw
end XW

/- An element of several cells, read out of a row of the call's own. -/
namespace XW
open Go Go.RowKit
set_option linter.unusedSimpArgs false
set_option linter.unusedVariables false
set_option linter.unusedSectionVars false
section
variable {F : Fence} {P : Program} {n : Nat} {Q : Post} {ρ : Nat → Value} {ds : List Deferred} {w base : World} {R R' : List Res} {ops : Array Oper} {Φ : World → Prop}
theorem row_cell {α : Type} {e sz c : Nat} {enc : α → List Value} {b : Nat} {l : List α} {w : World} (h : RowOk e sz enc (some b) c l w) (d : α) {k : Nat} (hk : k < l.length) : ∀ j u, (enc (l.getD k d))[j]? = some u → w.cell? ⟨b, k * sz + j, none⟩ = some u := by
  obtain ⟨h1, _, _, junk, hb, _⟩ := h
  intro j u hu
  have := get_flat h1 d l k hk (j := j) (v := u) hu
  refine cell_of hb ?_
  rw [buf, List.getElem?_toArray, List.getElem?_append_left (List.getElem?_eq_some_iff.1 this).1]
  exact this
theorem At_loadRow (hF : Wide F) {dst : Option Tmp} {t ty : TypeId} {x : Operand} {pos : String} {af : Array Edge} {rest : List Oper} {α : Type} {e sz c b k : Nat} {enc : α → List Value} {l : List α} [T : TAgg P t] (i : Nat) (hx : xv n ρ x = .pointer (some ⟨b, k * sz, none⟩)) (hi : R[i]? = some (.row e sz enc (some b) c l)) (d : α) (hk : k < l.length) (hs : T.size = sz) {v : Value} (hv : .agg (enc (l.getD k d)).toArray = v)
    (h : AL F P n Q ops rest (updO ρ dst v) ds base R) : AL F P n Q ops (⟨dst, .load t x, ty, pos, af, none⟩ :: rest) ρ ds base R := ⟨fun w hw => by
  subst hv
  obtain ⟨d', i', hu, hd, hi', hsz⟩ := T.h
  have hok := hw.ok _ (List.mem_of_getElem? hi)
  have hl : (enc (l.getD k d)).length = T.size := by rw [hs]; exact hok.1 _
  exact XL_load hF hx (loads_agg (cs := enc (l.getD k d)) hu hd hi' (by omega) (fun j u hj => by
    rw [add_plain]
    exact row_cell hok d hk j u hj)) (h.use w hw)⟩
/-- one field of an element -/
theorem At_loadRowF (hF : Wide F) {dst : Option Tmp} {t ty : TypeId} {x : Operand} {pos : String} {af : Array Edge} {rest : List Oper} {α : Type} {e sz c b off k : Nat} {enc : α → List Value} {l : List α} [T : T1 P t] (i j : Nat) (hx : xv n ρ x = .pointer (some ⟨b, off, none⟩)) (hi : R[i]? = some (.row e sz enc (some b) c l)) (d : α) (hk : k < l.length) (hoff : off = k * sz + j) {v : Value} (hv : (enc (l.getD k d))[j]? = some v)
    (h : AL F P n Q ops rest (updO ρ dst v) ds base R) : AL F P n Q ops (⟨dst, .load t x, ty, pos, af, none⟩ :: rest) ρ ds base R := ⟨fun w hw => by
  obtain ⟨d', hu, hd⟩ := T.u
  have hok := hw.ok _ (List.mem_of_getElem? hi)
  subst hoff
  exact XL_load hF hx (loads_one hu hd (row_cell hok d hk j v hv)) (h.use w hw)⟩
end
end XW
