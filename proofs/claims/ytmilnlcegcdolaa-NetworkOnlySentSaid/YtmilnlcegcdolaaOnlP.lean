/- Moves as arguments; the region in which a move is made, by an invariant over what is done. -/
import Derived.Test.YtmilnlcegcdolaaHapW
import Derived.Test.YtmilnlcegcdolaaOpen
import Derived.Test.YtmilnlcegcdolaaXDrawI
namespace Go.Proofs.Ytmilnlcegcdolaa.P
open Go.RowKit Go.Proofs.YtmilnlcegcdolaaW.PrintWords
open XW RegInv
attribute [local irreducible] Addr.add
set_option linter.unusedSimpArgs false
set_option linter.unusedVariables false

structure MOV where
  k : Int
  a : Int
  x : Int
  y : Int
  d : Int
def zM : MOV := ⟨0, 0, 0, 0, 0⟩
def encM (m : MOV) : List Value := [.int .u8 m.k, .int .u8 m.a, .int .u8 m.x, .int .u8 m.y, .int .u8 m.d]
def MOV.bd (m : MOV) : Prop := (0 ≤ m.k ∧ m.k ≤ 255) ∧ (0 ≤ m.a ∧ m.a ≤ 255) ∧ (0 ≤ m.x ∧ m.x ≤ 255) ∧ (0 ≤ m.y ∧ m.y ≤ 255)
def kM : Kd MOV where
  sz := 5
  E := []
  K w m cs := cs = encM m ∧ m.bd
  M w base ok p cs := False
  K_len := by rintro w x cs ⟨rfl, _⟩; rfl
  K_one := by
    rintro w x cs ⟨rfl, _⟩ u hu
    simp only [encM, List.mem_cons, List.not_mem_nil, or_false] at hu
    rcases hu with rfl | rfl | rfl | rfl | rfl <;> rfl
  K_below := by rintro w w1 x cs hb ⟨rfl, h⟩; exact ⟨rfl, h⟩
  K_of_M := fun h => h.elim
  M_mono := fun _ h => h.elim
  M_bound := fun h => h.elim
  M_move := fun _ h => h.elim
  M_lower := fun _ h => h.elim
theorem CM {w : World} {A : Option Addr} {n : Nat} {l : List MOV} (h : Kd.C kM w A n l) (k : Nat) (hk : k < n) : ∃ ad, A = some ad ∧ (l.getD k zM).bd ∧ ∀ j u, ([.int .u8 (l.getD k zM).k, .int .u8 (l.getD k zM).a, .int .u8 (l.getD k zM).x, .int .u8 (l.getD k zM).y, .int .u8 (l.getD k zM).d] : List Value)[j]? = some u → w.cell? ((ad.add (k * 5)).add j) = some u := by
  obtain ⟨ad, hA, hK, hc⟩ := C_flat (d := kM) (enc := encM) (fun h => h.1) h zM k hk
  exact ⟨ad, hA, hK.2, hc⟩
section
variable {H : Type} {enc : TypeId × Value → H} {W : World} {base : Nat} {spare : Nat → Bool} {held : Bool}
theorem open_mov (n : Nat) (cs : List Value) (y : DataW H × List MemPlace) (h : DataW.trod enc Try.prog W base spare held n 52 cs = some y) : ∃ p : MOV, kM.K W p cs := by
  obtain ⟨xs, m, _, _, hl, hlen, hh⟩ := DataW.trod_struct Try.underlying52 h
  have hc : Try.prog.cellsOf 52 = 5 := by kernel_rfl
  have hc5 : Try.prog.cellsOf 5 = 1 := by kernel_rfl
  rw [hc] at hl
  match cs, hl with
  | [u0, u1, u2, u3, u4], _ =>
    match xs, hlen with
    | [y0, y1, y2, y3, y4], _ =>
      have h0 : DataW.trod enc Try.prog W base spare held m 5 (([u0, u1, u2, u3, u4].drop 0).take (Try.prog.cellsOf 5)) = some y0 := hh 0 _ rfl
      have h1 : DataW.trod enc Try.prog W base spare held m 5 (([u0, u1, u2, u3, u4].drop 1).take (Try.prog.cellsOf 5)) = some y1 := hh 1 _ rfl
      have h2 : DataW.trod enc Try.prog W base spare held m 5 (([u0, u1, u2, u3, u4].drop 2).take (Try.prog.cellsOf 5)) = some y2 := hh 2 _ rfl
      have h3 : DataW.trod enc Try.prog W base spare held m 5 (([u0, u1, u2, u3, u4].drop 3).take (Try.prog.cellsOf 5)) = some y3 := hh 3 _ rfl
      have h4 : DataW.trod enc Try.prog W base spare held m 5 (([u0, u1, u2, u3, u4].drop 4).take (Try.prog.cellsOf 5)) = some y4 := hh 4 _ rfl
      rw [hc5] at h0 h1 h2 h3 h4
      obtain ⟨m0, e0, _, w0⟩ := DataW.trod_int Try.underlying5 h0
      obtain ⟨m1, e1, _, w1⟩ := DataW.trod_int Try.underlying5 h1
      obtain ⟨m2, e2, _, w2⟩ := DataW.trod_int Try.underlying5 h2
      obtain ⟨m3, e3, _, w3⟩ := DataW.trod_int Try.underlying5 h3
      obtain ⟨m4, e4, _, _⟩ := DataW.trod_int Try.underlying5 h4
      obtain rfl : u0 = _ := (List.cons.inj (show [u0] = _ from e0)).1
      obtain rfl : u1 = _ := (List.cons.inj (show [u1] = _ from e1)).1
      obtain rfl : u2 = _ := (List.cons.inj (show [u2] = _ from e2)).1
      obtain rfl : u3 = _ := (List.cons.inj (show [u3] = _ from e3)).1
      obtain rfl : u4 = _ := (List.cons.inj (show [u4] = _ from e4)).1
      simp only [Lit.wf, Bool.and_eq_true, decide_eq_true_eq] at w0 w1 w2 w3
      exact ⟨⟨m0, m1, m2, m3, m4⟩, rfl, w0, w1, w2, w3⟩
theorem open_movsA {a : Option Addr} {len cap : Nat} {d : DataW H} {ps : List MemPlace} (h : DataW.Trod enc Try.prog W base spare held 48 (.slice a len cap) d ps) : ∃ l : List MOV, l.length = len ∧ len ≤ cap ∧ cap ≤ maxLen ∧ Kd.C kM W a len l := by
  obtain ⟨fuel, hf⟩ := h
  obtain ⟨a', c', l, e, h1, h2, h3⟩ := open_sl zM kM Try.underlying48 (by kernel_rfl) open_mov (cs := [.slice a len cap]) hf
  cases e
  exact ⟨l, rfl, h1, h2, h3⟩
end
/-! ### the region -/
abbrev HS.net (s : HS) : Value := .agg #[.slice s.A s.q.length s.c, .slice s.B s.a.length s.d]
abbrev HS.pk (s : HS) : Value := .agg #[.int .i64 s.p.f, .int .i64 s.p.t, .slice s.p.A s.p.l s.p.c]
abbrev HS.tup (s : HS) : Value := .tuple #[s.net, s.pk, .int .i64 s.e]
def box7 (d : Bool) (s : HS) (b : Option Nat) : List Res := b.toList.map fun b => if d = true then nH b s.A s.c s.B s.d s.q s.a else nH b none 0 none 0 [] []
def box8 (d : Bool) (s : HS) (b : Option Nat) : List Res := b.toList.map fun b => if d = true then bx3 b s.p else bx3 b zP
structure OI (w : World) (m : Int) (q : List PKT) (a : List (Int × Int)) (T Bx : List Res) (L : List (Nat × Value)) (done : List Nat) (ρ : Nat → Value) (R : List Res) (s : HS) (b7 b8 : Option Nat) : Prop where
  fr : AllAt ρ L
  hR : R = box7 (done.contains 12) s b7 ++ (box8 (done.contains 13) s b8 ++ (Bx ++ s.Rs))
  n5 : done.contains 5 = false → s.Rs = T ∧ done.contains 12 = false ∧ done.contains 13 = false ∧ done.contains 6 = false ∧ done.contains 7 = false ∧ done.contains 8 = false ∧ done.contains 9 = false
  c5 : done.contains 5 = true → (T.Sublist s.Rs ∧ HapOk m q a s.q s.a s.p s.e ∧ Kn w s.Rs ⟨s.A, s.c, s.B, s.d, s.q, s.a⟩ ∧ Kp w s.Rs s.p) ∧ ρ 30 = s.tup
  c6 : done.contains 6 = true → ρ 24 = s.tup
  c7 : done.contains 7 = true → ρ 31 = s.net
  c8 : done.contains 8 = true → ρ 32 = s.pk
  c9 : done.contains 9 = true → ρ 33 = .int .i64 s.e
  c10 : done.contains 10 = true → ∃ b, b7 = some b ∧ ρ 7 = .pointer (some ⟨b, 0, none⟩)
  n10 : done.contains 10 = false → b7 = none ∧ done.contains 12 = false
  c11 : done.contains 11 = true → ∃ b, b8 = some b ∧ ρ 8 = .pointer (some ⟨b, 0, none⟩)
  n11 : done.contains 11 = false → b8 = none ∧ done.contains 13 = false
theorem perm5 (A B C Rs T : List Res) : (A ++ (B ++ (C ++ (Rs ++ T)))).Perm (Rs ++ (A ++ (B ++ (C ++ T)))) := by
  have e1 : A ++ (B ++ (C ++ (Rs ++ T))) = (A ++ B ++ C ++ Rs) ++ T := by simp only [List.append_assoc]
  have e2 : Rs ++ (A ++ (B ++ (C ++ T))) = (Rs ++ (A ++ B ++ C)) ++ T := by simp only [List.append_assoc]
  rw [e1, e2]
  exact List.perm_append_comm.append_right T
end Go.Proofs.Ytmilnlcegcdolaa.P
