/- Rows that come in, as cells that lie one behind the other. -/
import Derived.Test.YtmilnlcegcdolaaXSpread
import Derived.Test.YtmilnlcegcdolaaWWords
namespace XW
open Go Go.RowKit Go.Proofs.YtmilnlcegcdolaaW.PrintWords
theorem lies_C {α : Type} {enc : α → List Value} {w : World} {A : Option Addr} {xs : List α} {d : Kd α} (hd : ∀ w x cs, d.K w x cs → cs = enc x) (h : d.C w A xs.length xs) : Lies w A (xs.flatMap enc) := by
  rcases Nat.eq_zero_or_pos xs.length with h0 | h0
  · exact .inl (by rw [List.eq_nil_of_length_eq_zero h0]; rfl)
  · obtain ⟨ad, hA, hc⟩ := h.2.2 h0
    refine .inr ⟨ad, hA, ?_⟩
    have hsz : ∀ x ∈ xs, (enc x).length = d.sz := fun x hx => by
      obtain ⟨j, hj⟩ := List.getElem?_of_mem hx
      obtain ⟨c, h1, h2, _⟩ := hc j x hj
      rw [← hd _ _ _ h2]; exact h1
    have key : ∀ (ys : List α) (o : Nat), (∀ x ∈ ys, (enc x).length = d.sz) → (∀ j p, ys[j]? = some p → ∀ i u, (enc p)[i]? = some u → w.cell? (ad.add ((o + j) * d.sz + i)) = some u) → ∀ j u, (ys.flatMap enc)[j]? = some u → w.cell? (ad.add (o * d.sz + j)) = some u := by
      intro ys
      induction ys with
      | nil => intro o _ _ j u hu; simp at hu
      | cons y ys ih =>
        intro o h1 h2 j u hu
        rw [List.flatMap_cons] at hu
        rcases Nat.lt_or_ge j (enc y).length with hj | hj
        · rw [List.getElem?_append_left hj] at hu
          exact h2 0 y rfl j u hu
        · rw [List.getElem?_append_right hj] at hu
          have hy := h1 y (by simp)
          have := ih (o + 1) (fun x hx => h1 x (by simp [hx])) (fun j p hp i v hv => by have := h2 (j + 1) p hp i v hv; rwa [show o + (j + 1) = o + 1 + j by omega] at this) _ u hu
          rw [hy] at this
          rwa [show (o + 1) * d.sz + (j - d.sz) = o * d.sz + j by rw [Nat.succ_mul]; omega] at this
    intro j u hu
    have := key xs 0 hsz (fun j p hp i v hv => by
      obtain ⟨c, h1, h2, h3⟩ := hc j p hp
      rw [Nat.zero_add]
      exact h3 i v (by rw [hd _ _ _ h2]; exact hv)) j u hu
    rwa [Nat.zero_mul, Nat.zero_add] at this
end XW
