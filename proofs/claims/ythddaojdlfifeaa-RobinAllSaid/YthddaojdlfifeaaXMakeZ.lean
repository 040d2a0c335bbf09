/- make([]T, m) and new memory, T an array of zeros. -/
import Derived.Test.YthddaojdlfifeaaXA
namespace XW
open Go Go.RowKit
set_option linter.unusedSimpArgs false
set_option linter.unusedVariables false
set_option linter.unusedSectionVars false
section
variable {F : Fence} {P : Program} {n : Nat} {Q : Post} {ρ : Nat → Value} {ds : List Deferred} {w base : World} {R R' : List Res} {ops : Array Oper} {Φ : World → Prop}
theorem rep_buf {α : Type} (f : α → Value) (a : α) (k : Nat) : Array.replicate k (f a) = buf (sc f) (List.replicate k a) [] := by
  apply Array.ext'
  rw [buf, List.append_nil]
  simp only [Array.toList_replicate]
  induction k with
  | zero => rfl
  | succ k ih => rw [List.replicate_succ, List.replicate_succ, List.flatMap_cons, ← ih]; rfl
theorem made_rep (v : Value) (sz m : Nat) (hz : sz ≠ 0) : madeCells (Array.replicate sz v) (m * sz) = Array.replicate (m * sz) v := by
  apply Array.ext
  · simp [madeCells]
  · intro i h1 h2
    have h3 : i % sz < sz := Nat.mod_lt _ (by omega)
    simp [madeCells, h3]
theorem At_makeZ (hF : Wide F) {dst : Option Tmp} {t ty : TypeId} {x y : Operand} {pos : String} {af : Array Edge} {rest : List Oper} {α : Type} {kk : IntKind} {m : Nat} [T : TS P t] (f : α → Value) (a : α) (hz : T.z.cells = Array.replicate T.sz (f a)) (hs : T.sz ≠ 0) (hx : xv n ρ x = .int kk m) (hy : xv n ρ y = .int kk m) (hb : T.bytes * m ≤ 140737488355328) (hm : m ≤ 1000000000)
    (h : ∀ b, AL F P n Q ops rest (updO ρ dst (.slice (some ⟨b, 0, none⟩) m m)) ds base (.obj b (.cells (buf (sc f) (List.replicate (m * T.sz) a) []) T.e (0, 0)) :: R)) :
    AL F P n Q ops (⟨dst, .makeSlice t x y, ty, pos, af, none⟩ :: rest) ρ ds base R := ⟨fun w hw => by
  obtain ⟨i', hi', hsz, hz', hby⟩ := T.h
  have hr := run_make (P := P) w t T.e i' T.z T.u hi' hz' kk kk m m (by omega) (Int.le_refl _) (by rw [hby, ← Int.natCast_mul]; exact Int.ofNat_le.2 (Nat.le_trans hb (by decide))) (by omega)
  simp only [Int.toNat_natCast] at hr
  rw [hsz, hz, made_rep _ _ _ hs, rep_buf] at hr
  refine XL_gives hF rfl (by simp) (.inl ?_) ((h w.heap.size).use _ (hw.alloc _))
  simp only [execOp, hx, hy]
  rw [Sem.run_bind, hr]; rfl⟩
end
end XW
