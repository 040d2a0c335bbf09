/- fastiref22.Rounds and Foes: the walks. -/
import Derived.Test.YtcjpghiceebkfaaGVal
import Derived.Test.YtcjpghiceebkfaaXB
namespace Go.Proofs.Ytcjpghiceebkfaa.P
open Go.RowKit Go.Proofs.YtcjpghiceebkfaaW.PrintWords Go.Proofs.YtcjpghiceebkfaaW.PrintLast Go.Proofs.YtcjpghiceebkfaaW.PrintMore
open XW RegInv
attribute [local irreducible] Addr.add
set_option linter.unusedSimpArgs false
set_option linter.unusedVariables false

def rndF (s : Int) (x : S45) : Int := max s (x.f0 + 1)
def roundsF (m : List S45) : Int := m.foldl rndF 0
theorem rnd_bd (m : List S45) (h : ∀ x ∈ m, 0 ≤ x.f0 ∧ x.f0 ≤ 63) : ∀ s : Int, 0 ≤ s → s ≤ 64 → 0 ≤ m.foldl rndF s ∧ m.foldl rndF s ≤ 64 ∧ s ≤ m.foldl rndF s ∧ ∀ x ∈ m, x.f0 < m.foldl rndF s := by
  induction m with
  | nil => intro s h1 h2; exact ⟨h1, h2, Int.le_refl _, fun x h => by cases h⟩
  | cons x m ih =>
    intro s h1 h2
    have hx := h x (by simp)
    have hi := ih (fun y hy => h y (by simp [hy])) (rndF s x) (by unfold rndF; omega) (by unfold rndF; omega)
    rw [List.foldl_cons]
    refine ⟨hi.1, hi.2.1, ?_, fun y hy => ?_⟩
    · have := hi.2.2.1; unfold rndF at this; unfold rndF; omega
    · rcases List.mem_cons.1 hy with rfl | hy
      · have := hi.2.2.1; unfold rndF at this; unfold rndF; omega
      · exact hi.2.2.2 y hy
/-- both opponents written -/
def setFoe (M : List (List Int)) (x : S45) : List (List Int) :=
  let M1 := M.set x.f0.toNat ((M.getD x.f0.toNat []).set x.f1.toNat x.f2)
  M1.set x.f0.toNat ((M1.getD x.f0.toNat []).set x.f2.toNat x.f1)
def F0 (R N : Nat) : List (List Int) := List.replicate R (List.replicate N (-1))
def foesM (N : Nat) (m : List S45) : List (List Int) := m.foldl setFoe (F0 (roundsF m).toNat N)
structure Fine (N : Nat) (m : List S45) : Prop where
  n2 : 2 ≤ N
  n20 : N ≤ 20
  ok : ∀ x ∈ m, (0 ≤ x.f0 ∧ x.f0 ≤ 63) ∧ (0 ≤ x.f1 ∧ x.f1 < N) ∧ 0 ≤ x.f2 ∧ x.f2 < N
def Rect (R N : Nat) (M : List (List Int)) : Prop := M.length = R ∧ ∀ row ∈ M, row.length = N
theorem Rect.get {R N : Nat} {M : List (List Int)} (h : Rect R N M) {r : Nat} (hr : r < R) : (M.getD r []).length = N := h.2 _ (getD_mem' (by rw [h.1]; exact hr))
theorem Rect.set {R N : Nat} {M : List (List Int)} (h : Rect R N M) {r : Nat} {row : List Int} (hl : row.length = N) : Rect R N (M.set r row) := ⟨by rw [List.length_set]; exact h.1, fun row' hm => by
  rcases List.mem_or_eq_of_mem_set hm with hm | rfl
  · exact h.2 _ hm
  · exact hl⟩
theorem Rect.rep (R N : Nat) : Rect R N (F0 R N) := ⟨by simp [F0], fun row h => by rw [F0, List.mem_replicate] at h; rw [h.2]; simp⟩

theorem At_rowSome {base : World} {R : List Res} {Φ : World → Prop} {α : Type} {e sz : Nat} {enc : α → List Value} {A : Option Nat} {c : Nat} {l : List α} (i : Nat) (hi : R[i]? = some (.row e sz enc A c l)) (h0 : 0 < l.length) (h : ∀ b, A = some b → At base R Φ) : At base R Φ := fun w hw => by
  obtain ⟨b, junk, h1, _⟩ := hw.open i hi h0
  exact h b h1 w hw

end Go.Proofs.Ytcjpghiceebkfaa.P
