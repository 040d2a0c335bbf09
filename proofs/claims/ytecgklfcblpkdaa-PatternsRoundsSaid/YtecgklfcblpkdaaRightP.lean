/- Right, plain. -/
import Derived.Test.YtecgklfcblpkdaaP4
import Derived.Test.YtecgklfcblpkdaaOfP
namespace Go.Proofs.Ytecgklfcblpkdaa.P
open Go.RowKit Go.Proofs.YtecgklfcblpkdaaW.PrintWords Go.Proofs.YtecgklfcblpkdaaW.PrintLast Go.Proofs.YtecgklfcblpkdaaW.PrintMore
open XW
set_option linter.unusedSimpArgs false
set_option linter.unusedVariables false

theorem leO_le {α : Type} {f : Nat → Option α} (h : ∀ k, LeO (f k) (f (k + 1))) {k k' : Nat} (hk : k ≤ k') : LeO (f k) (f k') := by
  induction hk with
  | refl => exact LeO.refl _
  | step _ ih => exact fun r hr => h _ _ (ih _ hr)
theorem mem_ks {l : List S44} {k : Int × Int} : k ∈ ks l ↔ ∃ y ∈ l, k = (y.f1, y.f0) ∨ k = (y.f2, y.f0) := by
  simp [ks, key2, List.mem_flatMap]
theorem ks_len (m : List S44) : (ks m).length = 2 * m.length := by
  induction m with
  | nil => rfl
  | cons x m ih => rw [show ks (x :: m) = key2 x ++ ks m from rfl, List.length_append, ih, List.length_cons]; simp [key2]; omega
theorem okM_len {n : Int} (hn : n ≤ 20) {m : List S44} (h : okM n m) : m.length ≤ 640 := by
  let K : List (Int × Int) := (List.range 20).flatMap fun t : Nat => (List.range 64).map fun r : Nat => ((t : Int), (r : Int))
  have hK : K.length = 1280 := by decide +kernel
  have hs : ks m ⊆ K := fun k hk => by
    obtain ⟨y, hy, hk⟩ := mem_ks.1 hk
    have hb := h.1 y hy
    unfold bad at hb
    rcases hk with rfl | rfl
    · exact List.mem_flatMap.2 ⟨y.f1.toNat, List.mem_range.2 (by omega), List.mem_map.2 ⟨y.f0.toNat, List.mem_range.2 (by omega), Prod.ext (by simp only; omega) (by simp only; omega)⟩⟩
    · exact List.mem_flatMap.2 ⟨y.f2.toNat, List.mem_range.2 (by omega), List.mem_map.2 ⟨y.f0.toNat, List.mem_range.2 (by omega), Prod.ext (by simp only; omega) (by simp only; omega)⟩⟩
  have := h.2.length_le_of_subset hs
  rw [ks_len, hK] at this
  omega
end Go.Proofs.Ytecgklfcblpkdaa.P
