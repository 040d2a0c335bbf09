/- Own rows, over XW: append to a slice of one's own. -/
import Derived.Test.YtbbffpgnjdejiaaXReg
import Derived.Laws.AppendOwn
namespace XW
open Go Go.RowKit
set_option linter.unusedSimpArgs false
set_option linter.unusedVariables false

section
variable {F : Fence} {P : Program} {n : Nat} {Q : Post} {ρ : Nat → Value} {ds : List Deferred} {w : World} {ops : Array Oper}

theorem one_cell {u : Value} (h : u.one1 = true) : u.oneCell' = true := by cases u <;> first | rfl | cases h

/-- append, with where the row lies behind it -/
theorem run_app (base : Nat) (t ty e : TypeId) (i : TypeInfo) (z : Value) (ht : P.underlying t = some (.slice e)) (hi : P.info? e = some i) (hz : i.zero = some z) (hzs : z.cells.size = i.size) (hsz : 0 < i.size)
    (v : Value) (k : Nat) (xs : List Value) (hown : w.ownsRow base e i.size v k xs) (a : Addr) (m c : Nat) (news : List Value) (hl : news.length = m * i.size) (hnews : ∀ j u, news[j]? = some u → w.cell? (a.add j) = some u) (h1 : ∀ u ∈ news, u.oneCell' = true)
    (h63 : k + m ≤ maxLen) (hbytes : (k + m) * i.bytes ≤ 140737488355328) (hbase : base ≤ w.heap.size) :
    ∃ v' w', (Builtin.append_ #[t, t] ty #[v, .slice (some a) m c]).run P w = .ok v' w' ∧ w'.ownsRow base e i.size v' (k + m) (xs ++ news) ∧ w.grownBy w' v.ownBlock ∧ (v'.ownBlock = v.ownBlock ∨ v'.ownBlock = some w.heap.size) := by
  obtain ⟨v', w', hr, h2, h3, h4⟩ := run_append_own (P := P) w base t ty e i z i.size i.bytes ht hi hz rfl rfl hzs hsz v k xs hown a m c news hl hnews h1 h63 hbytes hbase
  refine ⟨v', w', hr, h2, h3, ?_⟩
  have hmx : maxLen ≤ 9223372036854775807 := by decide
  have hinj : ∀ {v1 : Value} {w1 : World}, (Builtin.append_ #[t, t] ty #[v, .slice (some a) m c]).run P w = .ok v1 w1 → v' = v1 := by
    intro v1 w1 h'
    have := hr.symm.trans h'
    cases this; rfl
  have hown2 := hown.2
  rcases hown2 with ⟨rfl, rfl⟩ | ⟨g, cap, cur, rfl, hbg, hg, hnc, hcm, hcs, htake⟩
  · by_cases hm : m = 0
    · have := h4.2 ⟨rfl, hm⟩
      exact .inl (by rw [this])
    · have hr' := run_append_nil (P := P) w t ty e i z ht hi hz a m c news hl hnews (by omega) (by omega) (by have hb := hbytes; simp only [Nat.zero_add] at hb; omega)
      rw [hinj hr']; exact .inr rfl
  · by_cases hroom : k + m ≤ cap
    · have hfit : k * i.size + news.length ≤ cur.size := by rw [hl, hcs, ← Nat.add_mul]; exact Nat.mul_le_mul_right _ hroom
      have hr' := run_append_room (P := P) w t ty e i ht hi g k cap cur hg a m c news hl hnews h1 hroom hfit
      rw [hinj hr']; exact .inl rfl
    · have holds : ∀ j u, xs[j]? = some u → w.cell? ((⟨g, 0, none⟩ : Addr).add j) = some u := hown.cells (g := g) rfl
      have hr' := run_append_grow (P := P) w t ty e i z ht hi hz ⟨g, 0, none⟩ k cap xs hown.1 holds a m c news hl hnews (by omega) (by omega) (growslice_fits (by omega) hbytes)
      rw [hinj hr']; exact .inr rfl

/-- what an append leaves: the row, and all other blocks as they were -/
structure App (base : Nat) (e : TypeId) (size : Nat) (v : Value) (w : World) (v' : Value) (w' : World) (k : Nat) (xs : List Value) : Prop where
  row : w'.ownsRow base e size v' k xs
  chg : Chg (fun b => v.ownBlock = some b) w w'
  place : v'.ownBlock = v.ownBlock ∨ v'.ownBlock = some w.heap.size

theorem XL_append (hF : Wide F) {dst : Option Tmp} {t e ty : TypeId} {s x : Operand} {pos : String} {af : Array Edge} {rest : List Oper} {i : TypeInfo} {z : Value} {base : Nat} {v : Value} {k : Nat} {xs news : List Value} {a : Addr} {m c : Nat}
    (hu : P.underlying t = some (.slice e)) (hi : P.info? e = some i) (hz : i.zero = some z) (hzs : z.cells.size = i.size) (hsz : 0 < i.size)
    (hown : w.ownsRow base e i.size v k xs) (hb : base ≤ w.heap.size) (hs : xv n ρ s = v) (hx : xv n ρ x = .slice (some a) m c) (hl : news.length = m * i.size) (hnews : ∀ j u, news[j]? = some u → w.cell? (a.add j) = some u) (h1 : ∀ u ∈ news, u.oneCell' = true)
    (h63 : k + m ≤ maxLen) (hbytes : (k + m) * i.bytes ≤ 140737488355328)
    (h : ∀ v' w', App base e i.size v w v' w' (k + m) (xs ++ news) → XL F P n Q ops rest (updO ρ dst v') ds w') :
    XL F P n Q ops (⟨dst, .call { callee := .builtin .append, args := #[s, x], argTypes := #[t, t] }, ty, pos, af, none⟩ :: rest) ρ ds w := by
  obtain ⟨v', w', hr, h2, h3, h4⟩ := run_app (P := P) (w := w) base t ty e i z hu hi hz hzs hsz v k xs hown a m c news hl hnews h1 h63 hbytes hb
  refine XL_gives hF rfl (by simp) (.inl ?_) (h v' w' ⟨h2, ⟨h3.os, h3.tape, h3.output, h3.size, fun k hk hn => h3.block k hk (fun e => hn e.symm)⟩, h4⟩)
  simp [execOp, resolve, invoke, builtin, hs, hx, hr, Sem.run_bind, Sem.run_pure, Result.andThen]

theorem ownsRow_chg {w w' : World} {base : Nat} {e : TypeId} {size : Nat} {v : Value} {k : Nat} {xs : List Value} {S : Nat → Prop} (h : w.ownsRow base e size v k xs) (hc : Chg S w w') (hS : ∀ b, v.ownBlock = some b → ¬ S b) : w'.ownsRow base e size v k xs := by
  refine ⟨h.1, ?_⟩
  rcases h.2 with hn | ⟨g, cap, cur, rfl, hb, hgg, rest⟩
  · exact .inl hn
  · exact .inr ⟨g, cap, cur, rfl, hb, hc.get hgg (hS g rfl), rest⟩
theorem ownsRow_lt {w : World} {base : Nat} {e : TypeId} {size : Nat} {v : Value} {k : Nat} {xs : List Value} (h : w.ownsRow base e size v k xs) {b : Nat} (hb : v.ownBlock = some b) : base ≤ b ∧ b < w.heap.size := h.lt b hb
/-- a row as a value: its address, and its cells -/
theorem ownsRow_view {w : World} {base : Nat} {e : TypeId} {size : Nat} {v : Value} {k : Nat} {xs : List Value} (h : w.ownsRow base e size v k xs) : ∃ A c, v = .slice A k c ∧ k ≤ c ∧ xs.length = k * size ∧ k ≤ maxLen ∧ (0 < k → ∃ g, A = some ⟨g, 0, none⟩ ∧ ∀ j u, xs[j]? = some u → w.cell? ⟨g, j, none⟩ = some u) := by
  have h2 := h.2
  rcases h2 with ⟨rfl, rfl⟩ | ⟨g, cap, cur, rfl, hb, hgg, hnc, hcm, hcs, ht⟩
  · exact ⟨none, 0, rfl, Nat.le_refl _, by simpa using h.1, by decide, fun h => by omega⟩
  · refine ⟨some ⟨g, 0, none⟩, cap, rfl, hnc, h.1, Nat.le_trans hnc hcm, fun _ => ⟨g, rfl, fun j u hj => ?_⟩⟩
    refine cell_of hgg ?_
    rw [← ht] at hj
    have hj2 : j < k * size := by
      have := (List.getElem?_eq_some_iff.1 hj).1
      rw [List.length_take] at this; omega
    rw [List.getElem?_take, if_pos hj2] at hj
    simpa using hj
/-- a statement between, of one's own choice -/
theorem X_mid {K : (Nat → Value) → List Deferred → World → Prop} (A : (Nat → Value) → List Deferred → World → Prop) {c : Code} (h : X F P n (Then A Q) c ρ ds w) (hb : ∀ ρ ds w, A ρ ds w → K ρ ds w) : X F P n (Then K Q) c ρ ds w :=
  X_mono h fun e ρ ds w hq => by cases e <;> first | exact hb _ _ _ hq | exact hq
theorem XL_max (hF : Wide F) {dst : Option Tmp} {ty : TypeId} {x y : Operand} {ats : Array TypeId} {pos : String} {af : Array Edge} {rest : List Oper} {k : IntKind} {a b : Int} (hx : xv n ρ x = .int k a) (hy : xv n ρ y = .int k b)
    (h : XL F P n Q ops rest (updO ρ dst (.int k (if a < b then b else a))) ds w) : XL F P n Q ops (⟨dst, .call { callee := .builtin .max, args := #[x, y], argTypes := ats }, ty, pos, af, none⟩ :: rest) ρ ds w :=
  XL_gives hF rfl (by simp) (.inl (by simp [execOp, resolve, invoke, builtin, Builtin.max_, Builtin.max2, hx, hy, Sem.run_bind, Sem.run, Result.andThen])) h
theorem XL_min (hF : Wide F) {dst : Option Tmp} {ty : TypeId} {x y : Operand} {ats : Array TypeId} {pos : String} {af : Array Edge} {rest : List Oper} {k : IntKind} {a b : Int} (hx : xv n ρ x = .int k a) (hy : xv n ρ y = .int k b)
    (h : XL F P n Q ops rest (updO ρ dst (.int k (if b < a then b else a))) ds w) : XL F P n Q ops (⟨dst, .call { callee := .builtin .min, args := #[x, y], argTypes := ats }, ty, pos, af, none⟩ :: rest) ρ ds w :=
  XL_gives hF rfl (by simp) (.inl (by simp [execOp, resolve, invoke, builtin, Builtin.min_, Builtin.min2, hx, hy, Sem.run_bind, Sem.run, Result.andThen])) h
end
end XW
