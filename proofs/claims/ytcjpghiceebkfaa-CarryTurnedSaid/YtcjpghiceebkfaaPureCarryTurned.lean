/- CarryTurned, plain. -/
import Derived.Test.YtcjpghiceebkfaaTurned
namespace Go.Proofs.Ytcjpghiceebkfaa.Pure
open Go.RowKit Go.Proofs.Ytcjpghiceebkfaa.P Go.Proofs.YtcjpghiceebkfaaW.PrintWords Go.Proofs.YtcjpghiceebkfaaW.PrintLast
open XW
set_option linter.unusedSimpArgs false
theorem right_law (k : Nat) (n : Int) (m : List S45) (hk : 2 * m.length + 2 ≤ k) : fastilaw22_right.f k n m = some (decide ((m.length : Int) ≤ 700) && rightB n m) := by
  rw [fastilaw22_right.f, fastiref22_Few.f, Option.bind_some]
  by_cases h : (m.length : Int) ≤ 700
  · rw [decide_eq_true h, if_pos rfl, right_f n m k hk]; rfl
  · rw [decide_eq_false h]; rfl
theorem few_inv {n : Int} {m : List S45} (h : (decide ((m.length : Int) ≤ 700) && rightB n m) = true) : m.length ≤ 700 ∧ ∃ es r, foesF n m = some (es, r) := by
  simp only [Bool.and_eq_true, decide_eq_true_eq, rightB] at h
  refine ⟨by omega, ?_⟩
  cases hf : foesF n m with
  | none => rw [hf] at h; simp at h
  | some p => exact ⟨p.1, p.2, rfl⟩
theorem CarryTurned (n : Int) (m : List S45) (a2 : Int) (ha : 0 ≤ a2 ∧ a2 ≤ 255) : ∃ k, fastilaw22_CarryTurned.f k n m a2 = some true := by
  refine ⟨2 * m.length + 3000, ?_⟩
  unfold fastilaw22_CarryTurned.f
  rw [sane_ge (by omega), Option.bind_some, if_pos rfl, right_law _ n m (by omega), Option.bind_some]
  have hj : ∀ k, fastilaw22_CarryTurned.j0 (k + 1) n m a2 true = some true := fun k => by rw [fastilaw22_CarryTurned.j0, if_pos rfl]
  by_cases h : (decide ((m.length : Int) ≤ 700) && rightB n m) = true
  rotate_left
  · rw [if_neg h]; exact hj _
  rw [if_pos h]
  obtain ⟨hm, es, r, hf⟩ := few_inv h
  by_cases h0 : m.length = 0
  · rw [show ((m.length : Int) == 0) = true from by simp [h0]]; exact hj _
  rw [show ((m.length : Int) == 0) = false from by simp; intro hc; subst hc; exact h0 rfl]
  have hf0 := hf
  obtain ⟨hn, hb, hk, rfl, rfl⟩ := foesF_inv hf
  have hb63 : ∀ x ∈ m, 0 ≤ x.f0 ∧ x.f0 ≤ 63 := fun x hx => by have := hb x hx; unfold bad at this; omega
  have hrd := rnd_bd m hb63 0 (by omega) (by omega)
  have hrng : ∀ x ∈ m, 0 ≤ x.f0 ∧ x.f0 < roundsF m := fun x hx => ⟨(hb63 x hx).1, hrd.2.2.2 x hx⟩
  have hR : roundsF m ≤ 64 := hrd.2.1
  have hR0 : 0 < roundsF m := by have := hrng _ (getD_mem' (l := m) (k := 0) (d := z45) (by omega)); omega
  rw [show 2 * m.length + 3000 = (2 * m.length + 2999) + 1 from rfl, fastilaw22_CarryTurned.j0, if_neg (by simp), rounds_f m (by omega) hb63 _ (by omega), Option.bind_some, if_pos (by omega), if_pos (by omega)]
  rw [show 2 * m.length + 2999 = (m.length + (2998 - (roundsF m).toNat) + (roundsF m).toNat) + m.length + 1 by omega]
  have e0 := fun K => turned_l0 n a2 (roundsF m) m (by omega) ha ⟨hR0, hR⟩ hrng K m.length 0 (List.replicate (roundsF m).toNat false) [] [] (by omega) (by simp) rfl rfl
  simp only [show ((0 : Nat) : Int) = 0 from rfl] at e0
  rw [e0]
  simp only [List.drop_zero, List.nil_append]
  have hpl : (m.foldl playF (List.replicate (roundsF m).toNat false)).length = (roundsF m).toNat := by rw [play_len, List.length_replicate]
  have hl1 := turned_l1 n m (m.map (turnS (onG (roundsF m) a2))) (m.map (turnS (backG (roundsF m)))) (m.foldl playF (List.replicate (roundsF m).toNat false)) (by omega) (m.length + (2997 - (roundsF m).toNat)) (roundsF m).toNat 0 (by omega) (fun s hs => by omega)
  rw [hpl, show ((0 : Nat) : Int) = 0 from rfl] at hl1
  rw [show m.length + (2998 - (roundsF m).toNat) + (roundsF m).toNat = m.length + (2997 - (roundsF m).toNat) + (roundsF m).toNat + 1 by omega]
  rcases hl1 with hl1 | ⟨hall, hl1⟩
  · exact hl1
  rw [hl1, fastilaw22_CarryTurned.l1, if_neg (by omega)]
  have hhit : ∀ s : Int, 0 ≤ s ∧ s < roundsF m → ∃ x ∈ m, x.f0 = s := by
    intro s hs
    rcases play_get m _ s.toNat (hall s.toNat (by omega)) with h1 | ⟨x, hx, h1⟩
    · rw [List.getD_eq_getElem?_getD, List.getElem?_replicate, if_pos (by omega)] at h1; simp at h1
    · exact ⟨x, hx, by have := hrng x hx; omega⟩
  have hre : ∀ e ∈ ents m, 0 ≤ e.1.2 ∧ e.1.2 < roundsF m := by
    intro e he
    obtain ⟨x, hx, h⟩ := mem_ents.1 he
    rcases h with rfl | rfl <;> exact hrng x hx
  obtain ⟨s1, hs1, hs2⟩ := hit_on (a2 := a2) hR0 ha.1
  obtain ⟨x1, hx1, rfl⟩ := hhit s1 hs1
  obtain ⟨x2, hx2, hx3⟩ := hhit 0 ⟨by omega, hR0⟩
  have f1 := turned_foes hf0 (turns_on (a2 := a2) hR0) ⟨x1, hx1, hs2⟩
  have f2 := turned_foes hf0 (turns_back (r := roundsF m)) ⟨x2, hx2, by unfold backG; omega⟩
  rw [mat_f n m (by omega), mat_f n _ (by rw [List.length_map]; omega), mat_f n _ (by rw [List.length_map]; omega), matF_eq f1, matF_eq f2, matF_eq hf0]
  obtain ⟨N, rfl⟩ : ∃ N : Nat, n = N := ⟨n.toNat, by omega⟩
  simp only [Option.bind_some, if_true, cntM_len, Int.toNat_natCast]
  rw [later_pairs (turns_on hR0) hre hk (fun t s h1 h2 => on_aft hR0 t s h1 h2)]
  rw [sameAll_self _ N (by rw [cntM_len]; omega) (by omega) (fun row hrow => by rw [cntM_row _ _ row hrow]; exact Nat.le_refl _) _ (by rw [cntM_len]; omega), Option.bind_some]
  have hp := back_pairs (turns_back (r := roundsF m)) hre hk (fun t s h1 h2 => back_aft t s h1 h2)
  rw [show m.length + (2997 - (roundsF m).toNat) = (m.length + (2996 - (roundsF m).toNat)) + 1 by omega, fastilaw22_CarryTurned.j3, if_neg (by simp)]
  exact turned_l2 N (by omega) _ _ (fun i j => by rw [hp.count_eq, count_swap]) N 0 _ (by omega) (by omega) (by omega)
end Go.Proofs.Ytcjpghiceebkfaa.Pure
