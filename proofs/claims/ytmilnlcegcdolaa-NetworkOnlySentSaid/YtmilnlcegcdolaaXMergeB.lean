/- Ways that leave a block, brought together. -/
import Derived.Test.YtmilnlcegcdolaaXB
namespace XW
open Go Go.RowKit RegInv
set_option linter.unusedSimpArgs false
set_option linter.unusedVariables false
set_option linter.unusedSectionVars false
universe u
section
variable {F : Fence} {P : Program} {n : Nat} {Q : Post} {ρ : Nat → Value} {ds : List Deferred} {base : World} {R : List Res}
/-- whichever way a block is left, what is told of a state holds -/
theorem At_mergeB {id : Nat} {K : (Nat → Value) → List Deferred → World → Prop} {c : Code} {σ : Type u} (L : σ → List (Nat × Value)) (R' : σ → List Res) (φ : σ → Prop) (h : ∀ K' : (Nat → Value) → List Deferred → World → Prop, (∀ s ρ', φ s → AllAt ρ' (L s) → At base (R' s) (K' ρ' ds)) → At base R (X F P n (InB id (Then K' Q)) c ρ ds)) (hb : ∀ s ρ0, φ s → At base (R' s) (K (ovr ρ0 (L s)) ds)) :
    At base R (X F P n (InB id (Then K Q)) c ρ ds) := fun w hw => by
  refine X_mono (h (fun ρ' ds' w' => ∃ s, φ s ∧ AllAt ρ' (L s) ∧ ds' = ds ∧ Mem base w' (R' s)) (fun s ρ' hs hl w' hw' => ⟨s, hs, hl, rfl, hw'⟩) w hw) ?_
  have hn : ∀ ρ' ds' w', (∃ s, φ s ∧ AllAt ρ' (L s) ∧ ds' = ds ∧ Mem base w' (R' s)) → K ρ' ds' w' := by
    rintro ρ' ds' w' ⟨s, hs, hl, rfl, hw'⟩
    have := hb s ρ' hs w' hw'
    rw [ovr_eq ρ' _ hl] at this
    exact this
  intro e ρ' ds' w' hq
  cases e with
  | normal => exact hn _ _ _ hq
  | exit id' =>
    simp only [InB] at hq ⊢
    split
    · next he => rw [if_pos he] at hq; exact hn _ _ _ hq
    · next he => rw [if_neg he] at hq; exact hq
  | _ => exact hq
/-- the ways through a piece, brought together -/
theorem At_mergeU {K : (Nat → Value) → List Deferred → World → Prop} {c : Code} {σ : Type u} (L : σ → List (Nat × Value)) (R' : σ → List Res) (φ : σ → Prop) (h : ∀ K' : (Nat → Value) → List Deferred → World → Prop, (∀ s ρ', φ s → AllAt ρ' (L s) → At base (R' s) (K' ρ' ds)) → At base R (X F P n (Then K' Q) c ρ ds)) (hb : ∀ s ρ0, φ s → At base (R' s) (K (ovr ρ0 (L s)) ds)) :
    At base R (X F P n (Then K Q) c ρ ds) := fun w hw => by
  refine X_mono (h (fun ρ' ds' w' => ∃ s, φ s ∧ AllAt ρ' (L s) ∧ ds' = ds ∧ Mem base w' (R' s)) (fun s ρ' hs hl w' hw' => ⟨s, hs, hl, rfl, hw'⟩) w hw) ?_
  intro e ρ' ds' w' hq
  cases e with
  | normal =>
    obtain ⟨s, hs, hl, rfl, hw'⟩ := hq
    have := hb s ρ' hs w' hw'
    rw [ovr_eq ρ' _ hl] at this
    exact this
  | _ => exact hq
/-- a loop along which the memory held behind the rest grows -/
theorem At_loopT {c : Code} {α : Type} (L : α → List (Nat × Value)) (RR : α → List Res → List Res) (φ : α → List Res → Prop) (m : α → Nat) (x : α) (T : List Res) (hs : (RR x T).Sublist R) (hL : AllAt ρ (L x)) (h0 : φ x T)
    (hr : ∀ x T, φ x T → ∀ K : (Nat → Value) → List Deferred → World → Prop, (∀ y T' ρ', φ y T' → m y < m x → AllAt ρ' (L y) → At base (RR y T') (K ρ' ds)) → ∀ ρ0, At base (RR x T) (X F P n (Then K Q) c (ovr ρ0 (L x)) ds)) : At base R (X F P n Q (.loop c) ρ ds) := fun w hw => by
  refine X_loop (fun x ρ ds' w' => ∃ T, φ x T ∧ AllAt ρ (L x) ∧ ds' = ds ∧ Mem base w' (RR x T)) m x ⟨T, h0, hL, rfl, hw.sub hs⟩ ?_
  rintro x ρ ds' w' ⟨T, h1, h2, rfl, h3⟩ K hK
  have := hr x T h1 K (fun y T' ρ' hy hm hl w'' hw'' => hK ρ' ds' w'' ⟨y, ⟨T', hy, hl, rfl, hw''⟩, hm⟩) ρ
  rw [ovr_eq ρ _ h2] at this
  exact this w' h3
/-- the frame told anew by what is still wanted of it -/
theorem AL.fr {ops : Array Oper} {l : List Oper} (L : List (Nat × Value)) (hL : AllAt ρ L) (h : ∀ ρ0, AL F P n Q ops l (ovr ρ0 L) ds base R) : AL F P n Q ops l ρ ds base R := by
  have := h ρ
  rwa [ovr_eq ρ L hL] at this
end
end XW
