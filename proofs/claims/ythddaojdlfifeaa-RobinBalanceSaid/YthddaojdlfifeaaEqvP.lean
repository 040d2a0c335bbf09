import Derived.Test.YthddaojdlfifeaaP12
/- The reference's functions, in plain Lean. -/
namespace Go.Proofs.Ythddaojdlfifeaa.P
open Go.RowKit Go.Proofs.YthddaojdlfifeaaW.PrintWords Go.Proofs.YthddaojdlfifeaaW.PrintLast Go.Proofs.YthddaojdlfifeaaW.PrintMore
set_option linter.unusedSimpArgs false
set_option linter.unusedVariables false

/-- with rounds enough, g tells v -/
def Ev {α : Type} (g : Nat → Option α) (v : α) : Prop := ∃ K, ∀ k, K ≤ k → g k = some v
theorem Ev.succ {α : Type} {g : Nat → Option α} {v : α} (h : Ev (fun k => g (k + 1)) v) : Ev g v := by
  obtain ⟨K, h⟩ := h
  exact ⟨K + 1, fun k hk => by obtain ⟨k', rfl⟩ : ∃ k', k = k' + 1 := ⟨k - 1, by omega⟩; exact h k' (by omega)⟩
theorem Ev.bind {α β : Type} {g : Nat → Option α} {h : Nat → α → Option β} {a : α} {v : β} (h1 : Ev g a) (h2 : Ev (fun k => h k a) v) : Ev (fun k => (g k).bind (h k)) v := by
  obtain ⟨K, h1⟩ := h1
  obtain ⟨L, h2⟩ := h2
  exact ⟨max K L, fun k hk => by
    show (g k).bind (h k) = some v
    rw [h1 k (by omega)]
    exact h2 k (by omega)⟩
theorem Ev.const {α : Type} (v : α) : Ev (fun _ => some v) v := ⟨0, fun _ _ => rfl⟩
theorem Ev.congr {α : Type} {g g' : Nat → Option α} {v : α} (h : Ev g' v) (e : ∀ k, g k = g' k) : Ev g v := by
  obtain ⟨K, h⟩ := h
  exact ⟨K, fun k hk => by rw [e, h k hk]⟩
theorem w1 (i : Nat) (h : i ≤ 1000000000) : wrap64 ((i : Int) + 1) = ((i + 1 : Nat) : Int) := by unfold wrap64; omega
/-! ### Put, moved -/
def insR (x : S37) : List S37 → List S37
  | [] => [x]
  | y :: l => if bef x y then x :: y :: l else y :: insR x l
def mvd (r : Int) (turn : Bool) (x : S37) : S37 := if turn then trn r x else setR r x
def movM (l : List S37) (r : Int) (turn : Bool) : List S37 := l.foldl (fun acc y => insR (mvd r turn y) acc) []
/-! ### Of, Same, plays -/
end Go.Proofs.Ythddaojdlfifeaa.P

/- The reference's Check, in plain Lean. -/
namespace Go.Proofs.Ythddaojdlfifeaa.P
open Go.RowKit Go.Proofs.YthddaojdlfifeaaW.PrintWords Go.Proofs.YthddaojdlfifeaaW.PrintLast Go.Proofs.YthddaojdlfifeaaW.PrintMore
set_option linter.unusedSimpArgs false
set_option linter.unusedVariables false

def onceP (n : Nat) (l : List S37) : Prop := (l.map pr).Nodup ∧ l.length = n * (n - 1) / 2
instance (n : Nat) (l : List S37) : Decidable (onceP n l) := inferInstanceAs (Decidable (_ ∧ _))
end Go.Proofs.Ythddaojdlfifeaa.P

/- The reference's Check answers as the program's does. -/
namespace Go.Proofs.Ythddaojdlfifeaa.P
open Go.RowKit Go.Proofs.YthddaojdlfifeaaW.PrintWords Go.Proofs.YthddaojdlfifeaaW.PrintLast Go.Proofs.YthddaojdlfifeaaW.PrintMore
set_option linter.unusedSimpArgs false
set_option linter.unusedVariables false

/-- the single round robin that the reference gathers -/
def sglL (m : List S37) (R : Nat) (kind : Int) : Nat → List S37
  | 0 => []
  | r + 1 => sglL m R kind r ++ movM (byR m (mkA R kind r)) r false
def turnOk (m : List S37) (R : Nat) (kind : Int) (r : Nat) : Prop := byR m (mkB R kind r) = movM (byR m (mkA R kind r)) (mkB R kind r) true
instance (m : List S37) (R : Nat) (kind : Int) (r : Nat) : Decidable (turnOk m R kind r) := inferInstanceAs (Decidable (_ = _))
def refOk (n R : Nat) (kind : Int) (m : List S37) : Prop := m.length ≤ n * (n - 1) ∧ (∀ i, i < m.length → okI n (rndsQ R kind) m i) ∧ (if kind = 1 then onceP n m else (∀ r, r < R → turnOk m R kind r) ∧ onceP n (sglL m R kind R))
instance (n R : Nat) (kind : Int) (m : List S37) : Decidable (refOk n R kind m) := inferInstanceAs (Decidable (_ ∧ _ ∧ ite _ _ _))
end Go.Proofs.Ythddaojdlfifeaa.P

/- The two Checks decide alike; RobinCheckSpec, the plain law. -/
namespace Go.Proofs.Ythddaojdlfifeaa.P
open Go.RowKit Go.Proofs.YthddaojdlfifeaaW.PrintWords Go.Proofs.YthddaojdlfifeaaW.PrintLast Go.Proofs.YthddaojdlfifeaaW.PrintMore
set_option linter.unusedSimpArgs false
set_option linter.unusedVariables false

theorem met_sub (m : List S37) (R : Nat) (kind : Int) : ∀ d r, (metL m R kind r).Sublist (metL m R kind (r + d))
  | 0, r => List.Sublist.refl _
  | d + 1, r => (met_sub m R kind d r).trans (by rw [show r + (d + 1) = (r + d) + 1 from rfl, metL]; exact List.sublist_append_left _ _)
end Go.Proofs.Ythddaojdlfifeaa.P
