/- Cuts of slices: s[l:h], s[:h], s[l:], with and without a bound for the room. -/
import Derived.Test.YtmilnlcegcdolaaXB
import Derived.Laws.Slices
namespace XW
open Go Go.RowKit
set_option linter.unusedSimpArgs false
set_option linter.unusedVariables false
set_option linter.unusedSectionVars false
def cutA (A : Option Addr) (l m s : Nat) : Option Addr := if m = l then A else A.map (·.add (l * s))
theorem sliced_cut (A : Option Addr) (l h m s : Nat) : sliced A l h m s = .slice (cutA A l m s) (h - l) (m - l) := rfl
section
variable {F : Fence} {P : Program} {n : Nat} {Q : Post} {ρ : Nat → Value} {ds : List Deferred} {w base : World} {R : List Res} {ops : Array Oper}
variable (hF : Wide F) {dst : Option Tmp} {t ty : TypeId} {x : Operand} {pos : String} {af : Array Edge} {rest : List Oper}
include hF
theorem At_cut_h {A : Option Addr} {len c h : Nat} {kh : IntKind} {z : Operand} [T : TS P t] (hx : xv n ρ x = .slice A len c) (hh : xv n ρ z = .int kh (h : Nat)) (h2 : h ≤ c) (hk : AL F P n Q ops rest (updO ρ dst (.slice (cutA A 0 c T.sz) (h - 0) (c - 0))) ds base R) :
    AL F P n Q ops (⟨dst, .slice t x (none) (some z) (none), ty, pos, af, none⟩ :: rest) ρ ds base R := ⟨fun w hw => by
  obtain ⟨i, hi, hs, _⟩ := T.h
  have he : P.elem t = T.e := by simp [Program.elem, T.u]
  have hu : P.underlying t = some (.slice (P.elem t)) := by rw [he]; exact T.u
  have hz : (Go.sizeOf (P.elem t)).run P w = .ok T.sz w := by rw [he]; simp [Go.sizeOf, typeInfo, program, hi, hs, Sem.run_bind, Sem.run, Result.andThen]
  refine XL_gives hF rfl (by simp) (.inl ?_) (hk.use w hw)
  simp only [execOp, Option.map_some, Option.map_none, hx, hh]
  rw [Sem.run_bind, run_sliceAt_slice _ _ _ _ _ _ hu, run_slice_h _ _ _ _ _ hu _ (h : Int) (by omega) (by omega), hz]
  simp [Sem.run, Result.andThen, sliced_cut]⟩
theorem At_cut_l {A : Option Addr} {len c l : Nat} {kl : IntKind} {y : Operand} [T : TS P t] (hx : xv n ρ x = .slice A len c) (hl : xv n ρ y = .int kl (l : Nat)) (h1 : l ≤ len) (hk : AL F P n Q ops rest (updO ρ dst (.slice (cutA A l c T.sz) (len - l) (c - l))) ds base R) :
    AL F P n Q ops (⟨dst, .slice t x (some y) (none) (none), ty, pos, af, none⟩ :: rest) ρ ds base R := ⟨fun w hw => by
  obtain ⟨i, hi, hs, _⟩ := T.h
  have he : P.elem t = T.e := by simp [Program.elem, T.u]
  have hu : P.underlying t = some (.slice (P.elem t)) := by rw [he]; exact T.u
  have hz : (Go.sizeOf (P.elem t)).run P w = .ok T.sz w := by rw [he]; simp [Go.sizeOf, typeInfo, program, hi, hs, Sem.run_bind, Sem.run, Result.andThen]
  refine XL_gives hF rfl (by simp) (.inl ?_) (hk.use w hw)
  simp only [execOp, Option.map_some, Option.map_none, hx, hl]
  rw [Sem.run_bind, run_sliceAt_slice _ _ _ _ _ _ hu, run_slice_l _ _ _ _ _ hu _ (l : Int) (by omega) (by omega), hz]
  simp [Sem.run, Result.andThen, sliced_cut]⟩
theorem At_cut_hm {A : Option Addr} {len c h m : Nat} {kh km : IntKind} {z u : Operand} [T : TS P t] (hx : xv n ρ x = .slice A len c) (hh : xv n ρ z = .int kh (h : Nat)) (hm : xv n ρ u = .int km (m : Nat)) (h2 : h ≤ m) (h3 : m ≤ c) (hk : AL F P n Q ops rest (updO ρ dst (.slice (cutA A 0 m T.sz) (h - 0) (m - 0))) ds base R) :
    AL F P n Q ops (⟨dst, .slice t x (none) (some z) (some u), ty, pos, af, none⟩ :: rest) ρ ds base R := ⟨fun w hw => by
  obtain ⟨i, hi, hs, _⟩ := T.h
  have he : P.elem t = T.e := by simp [Program.elem, T.u]
  have hu : P.underlying t = some (.slice (P.elem t)) := by rw [he]; exact T.u
  have hz : (Go.sizeOf (P.elem t)).run P w = .ok T.sz w := by rw [he]; simp [Go.sizeOf, typeInfo, program, hi, hs, Sem.run_bind, Sem.run, Result.andThen]
  refine XL_gives hF rfl (by simp) (.inl ?_) (hk.use w hw)
  simp only [execOp, Option.map_some, Option.map_none, hx, hh, hm]
  rw [Sem.run_bind, run_sliceAt_slice _ _ _ _ _ _ hu, run_slice_hm _ _ _ _ _ hu _ _ (h : Int) (m : Int) (by omega) (by omega) (by omega), hz]
  simp [Sem.run, Result.andThen, sliced_cut]⟩
end
end XW
