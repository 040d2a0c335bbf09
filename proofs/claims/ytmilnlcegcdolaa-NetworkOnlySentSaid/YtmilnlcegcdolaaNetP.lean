/- Packets, links, nets: what they are, and what each function computes. Plain. -/
import Derived.Test.YtmilnlcegcdolaaXTy
import Derived.Test.YtmilnlcegcdolaaXStruct
import Derived.Test.YtmilnlcegcdolaaXGuard
import Derived.Test.YtmilnlcegcdolaaXSpread
import Derived.Test.YtmilnlcegcdolaaWWords
namespace Go.Proofs.Ytmilnlcegcdolaa.P
open Go.RowKit Go.Proofs.YtmilnlcegcdolaaW.PrintWords
open XW RegInv
set_option linter.unusedSimpArgs false
set_option linter.unusedVariables false

theorem getD_mem' {α : Type} {l : List α} {k : Nat} {d : α} (h : k < l.length) : l.getD k d ∈ l := by
  rw [List.getD_eq_getElem?_getD, List.getElem?_eq_getElem h]; exact List.getElem_mem h
/-- a packet: from, to, and where its data lie -/
structure PKT where
  f : Int
  t : Int
  A : Option Addr
  l : Nat
  c : Nat
def zP : PKT := ⟨0, 0, none, 0, 0⟩
def PKT.v (p : PKT) : Value := .agg #[.int .i64 p.f, .int .i64 p.t, .slice p.A p.l p.c]
def encP (p : PKT) : List Value := [.int .i64 p.f, .int .i64 p.t, .slice p.A p.l p.c]
theorem encP_len (p : PKT) : (encP p).length = 3 := rfl
/-- the data can be read -/
def PKT.rd (w : World) (p : PKT) : Prop := p.l ≤ p.c ∧ ∃ bs, Kd.C (Kd.int .u8) w p.A p.l bs
theorem PKT.rd.below {w w1 : World} {p : PKT} (h : p.rd w) (hb : Below w.heap.size w w1) : p.rd w1 := ⟨h.1, by
  obtain ⟨bs, h2⟩ := h.2
  exact ⟨bs, Kd.C_below h2 hb⟩⟩
theorem zP_rd (w : World) : zP.rd w := ⟨Nat.le_refl _, [], rfl, by simp [zP], fun h => absurd h (by simp [zP])⟩
def kP : Kd PKT where
  sz := 3
  E := []
  K w p cs := cs = encP p ∧ p.rd w
  M w base ok p cs := False
  K_len := by rintro w x cs ⟨rfl, _⟩; rfl
  K_one := by
    rintro w x cs ⟨rfl, _⟩ u hu
    simp only [encP, List.mem_cons, List.not_mem_nil, or_false] at hu
    rcases hu with rfl | rfl | rfl <;> rfl
  K_below := by rintro w w1 x cs hb ⟨rfl, h⟩; exact ⟨rfl, h.below hb⟩
  K_of_M := fun h => h.elim
  M_mono := fun _ h => h.elim
  M_bound := fun h => h.elim
  M_move := fun _ h => h.elim
  M_lower := fun _ h => h.elim
/-- a link -/
def encL (x : Int × Int) : List Value := [.int .i64 x.1, .int .i64 x.2]
theorem encL_len (x : Int × Int) : (encL x).length = 2 := rfl
def lv (x : Int × Int) : Value := .agg #[.int .i64 x.1, .int .i64 x.2]
def kL : Kd (Int × Int) where
  sz := 2
  E := []
  K w p cs := cs = encL p
  M w base ok p cs := False
  K_len := by rintro w x cs rfl; rfl
  K_one := by
    rintro w x cs rfl u hu
    simp only [encL, List.mem_cons, List.not_mem_nil, or_false] at hu
    rcases hu with rfl | rfl <;> rfl
  K_below := by rintro w w1 x cs hb rfl; rfl
  K_of_M := fun h => h.elim
  M_mono := fun _ h => h.elim
  M_bound := fun h => h.elim
  M_move := fun _ h => h.elim
  M_lower := fun _ h => h.elim
/-- a net, as a value and what it holds -/
structure NET where
  A : Option Addr
  c : Nat
  B : Option Addr
  d : Nat
  q : List PKT
  a : List (Int × Int)
def zN : NET := ⟨none, 0, none, 0, [], []⟩
def NET.v (n : NET) : Value := .agg #[.slice n.A n.q.length n.c, .slice n.B n.a.length n.d]
structure NET.ok (w : World) (n : NET) : Prop where
  qc : n.q.length ≤ n.c
  ac : n.a.length ≤ n.d
  cm : n.c ≤ maxLen
  q : Kd.C kP w n.A n.q.length n.q
  a : Kd.C kL w n.B n.a.length n.a
theorem C_nil {α : Type} (d : Kd α) (w : World) : Kd.C d w none 0 [] := ⟨rfl, by simp, fun h => absurd h (by simp)⟩
theorem zN_ok (w : World) : zN.ok w := ⟨Nat.le_refl _, Nat.le_refl _, by decide, C_nil _ _, C_nil _ _⟩
theorem NET.ok.below {w w1 : World} {n : NET} (h : n.ok w) (hb : Below w.heap.size w w1) : n.ok w1 := ⟨h.qc, h.ac, h.cm, Kd.C_below h.q hb, Kd.C_below h.a hb⟩
theorem C_flat {α : Type} {d : Kd α} {enc : α → List Value} (ho : ∀ {w x cs}, d.K w x cs → cs = enc x) {w : World} {A : Option Addr} {n : Nat} {xs : List α} (h : Kd.C d w A n xs) (z : α) (k : Nat) (hk : k < n) :
    ∃ ad, A = some ad ∧ d.K w (xs.getD k z) (enc (xs.getD k z)) ∧ ∀ j u, (enc (xs.getD k z))[j]? = some u → w.cell? ((ad.add (k * d.sz)).add j) = some u := by
  obtain ⟨ad, c, hA, _, hK, hc⟩ := Kd.C_get h z (k : Int) (by omega) (by omega)
  rw [Int.toNat_natCast] at hK hc
  refine ⟨ad, hA, by rw [← ho hK]; exact hK, fun j u hj => ?_⟩
  rw [addr_add_add]
  exact hc j u (by rw [ho hK]; exact hj)
/-- a packet out of a row -/
theorem CP {w : World} {A : Option Addr} {n : Nat} {q : List PKT} (h : Kd.C kP w A n q) (k : Nat) (hk : k < n) : ∃ ad, A = some ad ∧ (q.getD k zP).rd w ∧ ∀ j u, ([.int .i64 (q.getD k zP).f, .int .i64 (q.getD k zP).t, .slice (q.getD k zP).A (q.getD k zP).l (q.getD k zP).c] : List Value)[j]? = some u → w.cell? ((ad.add (k * 3)).add j) = some u := by
  obtain ⟨ad, hA, hK, hc⟩ := C_flat (d := kP) (enc := encP) (fun h => h.1) h zP k hk
  exact ⟨ad, hA, hK.2, hc⟩
/-- a link out of a row -/
theorem CLk {w : World} {A : Option Addr} {n : Nat} {q : List (Int × Int)} (h : Kd.C kL w A n q) (k : Nat) (hk : k < n) : ∃ ad, A = some ad ∧ ∀ j u, ([.int .i64 (q.getD k (0, 0)).1, .int .i64 (q.getD k (0, 0)).2] : List Value)[j]? = some u → w.cell? ((ad.add (k * 2)).add j) = some u := by
  obtain ⟨ad, hA, hK, hc⟩ := C_flat (d := kL) (enc := encL) (fun h => h) h (0, 0) k hk
  exact ⟨ad, hA, hc⟩
/-! ### what is valid -/
def okL (x : Int × Int) : Prop := 0 ≤ x.1 ∧ x.1 < x.2 ∧ x.2 < 24
instance (x : Int × Int) : Decidable (okL x) := inferInstanceAs (Decidable (_ ∧ _))
def btw (a b : Int) : Int × Int := (min a b, max a b)
def okP (p : PKT) : Prop := okL (btw p.f p.t) ∧ p.l ≤ 1048576
instance (p : PKT) : Decidable (okP p) := inferInstanceAs (Decidable (_ ∧ _))
/-- one link ahead of another -/
def befL (x y : Int × Int) : Prop := x.1 < y.1 ∨ (x.1 = y.1 ∧ x.2 < y.2)
instance (x y : Int × Int) : Decidable (befL x y) := inferInstanceAs (Decidable (_ ∨ _))
def okA (a : List (Int × Int)) (i : Nat) : Prop := okL (a.getD i (0, 0)) ∧ (0 < i → befL (a.getD (i - 1) (0, 0)) (a.getD i (0, 0)))
instance (a : List (Int × Int)) (i : Nat) : Decidable (okA a i) := inferInstanceAs (Decidable (_ ∧ _))
def okN (q : List PKT) (a : List (Int × Int)) : Prop := q.length ≤ 4096 ∧ (∀ p ∈ q, okP p) ∧ ∀ i, i < a.length → okA a i
instance (q : List PKT) (a : List (Int × Int)) : Decidable (okN q a) := inferInstanceAs (Decidable (_ ∧ _))
/-- Check -/
def chkN (q : List PKT) (a : List (Int × Int)) : Int := if okN q a then 0 else 60
/-- Send -/
def sendF (q : List PKT) (a : List (Int × Int)) (p : PKT) : (List PKT × List (Int × Int)) × Int :=
  if ¬ okN q a ∨ ¬ okP p then (([], []), 60) else if q.length = 4096 then (([], []), 2) else ((q ++ [p], a), 0)
/-- what goes ahead of Deliver, Lose, Repeat -/
def atE (q : List PKT) (a : List (Int × Int)) (i : Int) : Int := if ¬ okN q a then 60 else if i < 0 ∨ i ≥ q.length then 1 else 0
def delF (q : List PKT) (a : List (Int × Int)) (i : Int) : PKT × (List PKT × List (Int × Int)) × Int :=
  if atE q a i ≠ 0 then (zP, ([], []), atE q a i) else (if btw (q.getD i.toNat zP).f (q.getD i.toNat zP).t ∈ a then zP else q.getD i.toNat zP, (q.eraseIdx i.toNat, a), 0)
def losF (q : List PKT) (a : List (Int × Int)) (i : Int) : (List PKT × List (Int × Int)) × Int :=
  if atE q a i ≠ 0 then (([], []), atE q a i) else ((q.eraseIdx i.toNat, a), 0)
def repF (q : List PKT) (a : List (Int × Int)) (i : Int) : (List PKT × List (Int × Int)) × Int :=
  if atE q a i ≠ 0 then (([], []), atE q a i) else sendF q a (q.getD i.toNat zP)
/-- Cut: all links there are, in order -/
def allL : List (Int × Int) := (List.range 24).flatMap fun x : Nat => ((List.range 24).filter fun y => decide (x < y)).map fun y : Nat => ((x : Int), (y : Int))
def keepL (a : List (Int × Int)) (l : Int × Int) (on : Bool) (x : Int × Int) : Bool := if x = l then on else decide (x ∈ a)
def cutsL (a : List (Int × Int)) (l : Int × Int) (on : Bool) : List (Int × Int) := allL.filter (keepL a l on)
def cutF (q : List PKT) (a : List (Int × Int)) (x y : Int) (on : Bool) : (List PKT × List (Int × Int)) × Int :=
  if ¬ okN q a then (([], []), 60) else if ¬ okL (btw x y) then (([], []), 1) else ((q, cutsL a (btw x y) on), 0)
end Go.Proofs.Ytmilnlcegcdolaa.P
