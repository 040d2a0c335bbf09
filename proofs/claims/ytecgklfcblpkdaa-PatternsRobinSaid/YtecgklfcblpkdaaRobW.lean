import Derived.Test.YtecgklfcblpkdaaCutP
import Derived.Test.YtecgklfcblpkdaaGOrd
import Derived.Test.YtecgklfcblpkdaaGSane
import Derived.Test.YtecgklfcblpkdaaRRT
import Derived.Test.YtecgklfcblpkdaaXStr
/- Patterns with the rounds in another order: plain. -/
namespace Go.Proofs.Ytecgklfcblpkdaa.P
open Go.RowKit Go.Proofs.YtecgklfcblpkdaaW.PrintWords Go.Proofs.YtecgklfcblpkdaaW.PrintLast Go.Proofs.YtecgklfcblpkdaaW.PrintMore
open XW
set_option linter.unusedSimpArgs false
set_option linter.unusedVariables false

def get2 (M : List (List Int)) (t r : Nat) : Int := (M.getD t []).getD r 0
theorem getD_set {α : Type} (l : List α) (k j : Nat) (x d : α) : (l.set k x).getD j d = if k = j ∧ j < l.length then x else l.getD j d := by
  rw [List.getD_eq_getElem?_getD, List.getElem?_set, List.getD_eq_getElem?_getD]
  by_cases h : k = j
  · subst h
    by_cases h2 : k < l.length
    · rw [if_pos rfl, if_pos h2, if_pos ⟨rfl, h2⟩]; rfl
    · rw [if_pos rfl, if_neg h2, if_neg (fun h => h2 h.2), List.getElem?_eq_none (by omega)]
  · rw [if_neg h, if_neg (fun h2 => h h2.1)]
theorem get2_set {R N : Nat} {M : List (List Int)} (hM : Rect R N M) {a b : Nat} (ha : a < N) (hb : b < R) (v : Int) (t r : Nat) : get2 (M.set a ((M.getD a []).set b v)) t r = if a = t ∧ b = r then v else get2 M t r := by
  unfold get2
  rw [getD_set]
  by_cases h : a = t
  · subst h
    rw [if_pos ⟨rfl, by rw [hM.1]; exact ha⟩, getD_set]
    have := hM.get ha
    by_cases h2 : b = r
    · subst h2; rw [if_pos ⟨rfl, by omega⟩, if_pos ⟨rfl, rfl⟩]
    · rw [if_neg (fun h => h2 h.1), if_neg (fun h => h2 h.2)]
  · rw [if_neg (fun h2 => h h2.1), if_neg (fun h2 => h h2.1)]
theorem get2_setP {R N : Nat} {M : List (List Int)} (hM : Rect R N M) {x : S44} (hx : ¬ bad N x) (hr : x.f0.toNat < R) (t r : Nat) : get2 (setP M x) t r = if x.f2.toNat = t ∧ x.f0.toNat = r then -1 else if x.f1.toNat = t ∧ x.f0.toNat = r then 1 else get2 M t r := by
  unfold bad at hx
  have r1 : Rect R N (M.set x.f1.toNat ((M.getD x.f1.toNat []).set x.f0.toNat 1)) := hM.set (by rw [List.length_set]; exact hM.get (by omega))
  show get2 ((M.set x.f1.toNat ((M.getD x.f1.toNat []).set x.f0.toNat 1)).set x.f2.toNat (((M.set x.f1.toNat ((M.getD x.f1.toNat []).set x.f0.toNat 1)).getD x.f2.toNat []).set x.f0.toNat (-1))) t r = _
  rw [get2_set r1 (by omega) hr, get2_set hM (by omega) hr]
theorem get2_Z0 (R N t r : Nat) : get2 (Z0 R N) t r = 0 := by
  unfold get2 Z0
  have e : (List.replicate N (List.replicate R (0 : Int))).getD t [] = if t < N then List.replicate R 0 else [] := by
    rw [List.getD_eq_getElem?_getD, List.getElem?_replicate]; split <;> rfl
  rw [e]
  split
  · rw [List.getD_eq_getElem?_getD, List.getElem?_replicate]; split <;> rfl
  · rfl
theorem Rect.in_ {R N : Nat} {M : List (List Int)} (hM : Rect R N M) (h : ∀ t r, t < N → r < R → -1 ≤ get2 M t r ∧ get2 M t r ≤ 1) : ∀ row ∈ M, ∀ x ∈ row, -1 ≤ x ∧ x ≤ 1 := by
  intro row hrow x hx
  obtain ⟨t, ht⟩ := List.getElem?_of_mem hrow
  obtain ⟨r, hr⟩ := List.getElem?_of_mem hx
  have htl := (List.getElem?_eq_some_iff.1 ht).1
  have hrl := (List.getElem?_eq_some_iff.1 hr).1
  have := h t r (by rw [← hM.1]; exact htl) (by rw [← hM.2 _ hrow]; exact hrl)
  have e1 : M.getD t [] = row := by rw [List.getD_eq_getElem?_getD, ht]; rfl
  have e2 : row.getD r 0 = x := by rw [List.getD_eq_getElem?_getD, hr]; rfl
  rw [get2, e1, e2] at this
  exact this
/-- what all of a fold keeps -/
theorem fold_rect {R N : Nat} (l : List S44) (hb : ∀ x ∈ l, ¬ bad N x) : ∀ (M : List (List Int)), Rect R N M → Rect R N (l.foldl setP M) := by
  induction l with
  | nil => intro M hM; exact hM
  | cons x l ih =>
    intro M hM
    have hx := hb x (by simp)
    unfold bad at hx
    exact ih (fun y hy => hb y (by simp [hy])) _ (hM.pat (by omega) (by omega))
theorem fold_in {R N : Nat} (l : List S44) (hb : ∀ x ∈ l, ¬ bad N x) (hr : ∀ x ∈ l, x.f0.toNat < R) : ∀ (M : List (List Int)), Rect R N M → (∀ t r, -1 ≤ get2 M t r ∧ get2 M t r ≤ 1) → ∀ t r, -1 ≤ get2 (l.foldl setP M) t r ∧ get2 (l.foldl setP M) t r ≤ 1 := by
  induction l with
  | nil => intro M _ h; exact h
  | cons x l ih =>
    intro M hM h
    have hx := hb x (by simp)
    have hrx := hr x (by simp)
    have hx2 := hx
    unfold bad at hx2
    refine ih (fun y hy => hb y (by simp [hy])) (fun y hy => hr y (by simp [hy])) _ (hM.pat (by omega) (by omega)) (fun t r => ?_)
    rw [get2_setP hM hx hrx]
    split
    · decide
    · split
      · decide
      · exact h t r
theorem nodup_mapI {α β : Type} {f : α → β} {l : List α} (h : ∀ a ∈ l, ∀ b ∈ l, f a = f b → a = b) (hn : l.Nodup) : (l.map f).Nodup :=
  List.pairwise_map.2 (List.Pairwise.imp_of_mem (fun {a b} ha hb hab e => hab (h a ha b hb e)) hn)
theorem nodup_getI {α : Type} {l : List α} (hn : l.Nodup) {i j : Nat} (hi : i < l.length) (hj : j < l.length) (e : l[i] = l[j]) : i = j := by
  rcases Nat.lt_trichotomy i j with h | h | h
  · exact absurd e (List.pairwise_iff_getElem.1 hn i j hi hj h)
  · exact h
  · exact absurd e.symm (List.pairwise_iff_getElem.1 hn j i hj hi h)
/-- an order of R numbers -/
structure OrdOk (R : Nat) (tos : List Int) : Prop where
  len : tos.length = R
  bd : ∀ r, r < R → 0 ≤ tos.getD r 0 ∧ tos.getD r 0 < R
  inj : ∀ r s, r < R → s < R → tos.getD r 0 = tos.getD s 0 → r = s
theorem ordOk {R : Nat} {tos : List Int} (h : tos.Perm ((List.range R).map fun x : Nat => (x : Int))) : OrdOk R tos := by
  have hl : tos.length = R := by rw [h.length_eq]; simp
  have hn : tos.Nodup := h.nodup_iff.2 (nodup_mapI (fun a _ b _ e => Int.ofNat.inj e) List.nodup_range)
  refine ⟨hl, fun r hr => ?_, fun r s hr hs e => ?_⟩
  · have := h.mem_iff.1 (getD_mem' (d := (0 : Int)) (k := r) (by omega))
    obtain ⟨x, hx, e⟩ := List.mem_map.1 this
    have := List.mem_range.1 hx
    omega
  · rw [List.getD_eq_getElem?_getD, List.getD_eq_getElem?_getD, List.getElem?_eq_getElem (by omega), List.getElem?_eq_getElem (by omega), Option.getD_some, Option.getD_some] at e
    exact nodup_getI hn (by omega) (by omega) e
theorem last_mem {m : List S44} (h : ∀ x ∈ m, 0 ≤ x.f0 ∧ x.f0 < 64) : ∀ x ∈ m, x.f0 ≤ lastR m := (last_bd m h (-1) (by omega) (by omega)).2.2
/-! ### sums -/
def sumN (f : Nat → Int) : Nat → Int
  | 0 => 0
  | n + 1 => sumN f n + f n
end Go.Proofs.Ytecgklfcblpkdaa.P

/- PatternsRobin: the plain law. Breaks and games of a round robin. -/
namespace Go.Proofs.Ytecgklfcblpkdaa.P
open Go.RowKit Go.Proofs.YtecgklfcblpkdaaW.PrintWords Go.Proofs.YtecgklfcblpkdaaW.PrintLast Go.Proofs.YtecgklfcblpkdaaW.PrintMore
open XW
set_option linter.unusedSimpArgs false
set_option linter.unusedVariables false
set_option linter.unusedSectionVars false

/-! ### entries of patterns -/
theorem fold_keep {R N : Nat} (l : List S44) (hb : ∀ x ∈ l, ¬ bad N x) (hr : ∀ x ∈ l, x.f0.toNat < R) {t r : Nat} (hne : ((t : Int), (r : Int)) ∉ ks l) : ∀ (M : List (List Int)), Rect R N M → get2 (l.foldl setP M) t r = get2 M t r := by
  induction l with
  | nil => intro M _; rfl
  | cons x l ih =>
    intro M hM
    have hx := hb x (by simp)
    have hrx := hr x (by simp)
    have hx2 := hx
    unfold bad at hx2
    have e : ks (x :: l) = (x.f1, x.f0) :: (x.f2, x.f0) :: ks l := rfl
    rw [e, List.mem_cons, List.mem_cons, not_or, not_or] at hne
    obtain ⟨n1, n2, n3⟩ := hne
    refine (ih (fun y hy => hb y (by simp [hy])) (fun y hy => hr y (by simp [hy])) n3 _ (hM.pat (by omega) (by omega))).trans ?_
    rw [get2_setP hM hx hrx, if_neg (fun h => n2 (Prod.ext (by simp only; omega) (by simp only; omega))), if_neg (fun h => n1 (Prod.ext (by simp only; omega) (by simp only; omega)))]
theorem pat_get {N : Nat} {m : List S44} (h : okM N m) {x : S44} (hx : x ∈ m) : get2 (patM N m) x.f1.toNat x.f0.toNat = 1 ∧ get2 (patM N m) x.f2.toNat x.f0.toNat = -1 := by
  obtain ⟨a, b, rfl⟩ := List.append_of_mem hx
  have h1 := h.1
  have h64 : ∀ y ∈ a ++ x :: b, 0 ≤ y.f0 ∧ y.f0 < 64 := fun y hy => by have := h1 y hy; unfold bad at this; omega
  have hR : ∀ y ∈ a ++ x :: b, y.f0.toNat < (lastR (a ++ x :: b) + 1).toNat := fun y hy => by
    have := last_mem h64 y hy
    have := h64 y hy
    omega
  have h2 := h.2
  rw [ks_app, List.nodup_append] at h2
  have h3 := h2.2.1
  have e : ks (x :: b) = (x.f1, x.f0) :: (x.f2, x.f0) :: ks b := rfl
  rw [e, List.nodup_cons, List.nodup_cons, List.mem_cons, not_or] at h3
  obtain ⟨⟨n0, n1⟩, n2, _⟩ := h3
  have hbx := h1 x (by simp)
  have hbx2 := hbx
  unfold bad at hbx2
  have hM : Rect (lastR (a ++ x :: b) + 1).toNat N (a.foldl setP (Z0 (lastR (a ++ x :: b) + 1).toNat N)) := fold_rect a (fun y hy => h1 y (by simp [hy])) _ (Rect.rep _ _)
  have hrx := hR x (by simp)
  unfold patM
  rw [List.foldl_append, List.foldl_cons]
  have key : ∀ t : Nat, ((t : Int), x.f0) ∉ ks b → get2 (b.foldl setP (setP (a.foldl setP (Z0 (lastR (a ++ x :: b) + 1).toNat N)) x)) t x.f0.toNat = get2 (setP (a.foldl setP (Z0 (lastR (a ++ x :: b) + 1).toNat N)) x) t x.f0.toNat := fun t ht =>
    fold_keep b (fun y hy => h1 y (by simp [hy])) (fun y hy => hR y (by simp [hy])) (by rw [Int.toNat_of_nonneg (by omega)]; exact ht) _ (hM.pat (by omega) (by omega))
  rw [key _ (by rw [Int.toNat_of_nonneg (by omega)]; exact n1), key _ (by rw [Int.toNat_of_nonneg (by omega)]; exact n2), get2_setP hM hbx hrx, get2_setP hM hbx hrx]
  exact ⟨by rw [if_neg (by omega), if_pos ⟨rfl, rfl⟩], by rw [if_pos ⟨rfl, rfl⟩]⟩
/-! ### a round robin as meetings -/
theorem ks_slots (m : List S44) : ks m = (RB.slots m).map fun p => (p.2, p.1) := by
  induction m with
  | nil => rfl
  | cons y m ih =>
    have e1 : ks (y :: m) = (y.f1, y.f0) :: (y.f2, y.f0) :: ks m := rfl
    have e2 : RB.slots (y :: m) = (y.f0, y.f1) :: (y.f0, y.f2) :: RB.slots m := rfl
    rw [e1, e2, ih]; rfl
section
variable {N : Nat} {kind : Int} {m : List S44} (hn : 2 ≤ N ∧ N ≤ 12) (hk : 1 ≤ kind ∧ kind ≤ 3) (h : RB.RR N (RB.rndsN N) kind m)
include hn hk h
theorem rr_Q : RB.rndsQ (RB.rndsN N) kind ≤ 22 ∧ 1 ≤ RB.rndsN N ∧ RB.rndsN N ≤ 11 := by
  unfold RB.rndsQ RB.rndsN
  have : N - 1 + N % 2 ≤ 11 := by omega
  split <;> omega
theorem rr_okM : okM N m := by
  have hq := rr_Q hn hk h
  refine ⟨fun x hx => ?_, ?_⟩
  · obtain ⟨h1, h2, h3, h4, h5⟩ := h.inX x hx
    unfold bad; omega
  · rw [ks_slots]
    exact nodup_mapI (fun a _ b _ e => by simp only [Prod.mk.injEq] at e; exact Prod.ext e.2 e.1) h.slt
theorem rr_x {x : S44} (hx : x ∈ m) : (0 ≤ x.f0 ∧ x.f0 < (RB.rndsQ (RB.rndsN N) kind : Nat)) ∧ (0 ≤ x.f1 ∧ x.f1 < N) ∧ (0 ≤ x.f2 ∧ x.f2 < N) ∧ x.f1 ≠ x.f2 := by
  obtain ⟨h1, h2, h3, h4, h5⟩ := h.inX x hx
  exact ⟨⟨h1, h2⟩, h3, h4, h5⟩
def allQ (N R : Nat) : List (Int × Int) := (List.range R).flatMap fun r : Nat => (List.range N).map fun t : Nat => ((t : Int), (r : Int))
omit hn hk h in
theorem allQ_len (N R : Nat) : (allQ N R).length = R * N := by
  unfold allQ
  induction R with
  | zero => simp
  | succ R ih => rw [List.range_succ, List.flatMap_append, List.length_append, ih]; simp [Nat.succ_mul]
omit hn hk h in
theorem allQ_mem {N R : Nat} {k : Int × Int} (h1 : 0 ≤ k.1 ∧ k.1 < N) (h2 : 0 ≤ k.2 ∧ k.2 < R) : k ∈ allQ N R :=
  List.mem_flatMap.2 ⟨k.2.toNat, List.mem_range.2 (by omega), List.mem_map.2 ⟨k.1.toNat, List.mem_range.2 (by omega), Prod.ext (by simp only; omega) (by simp only; omega)⟩⟩
/-- with an even number of teams everybody plays in each round -/
theorem rr_full (he : N % 2 = 0) (t r : Int) (ht : 0 ≤ t ∧ t < N) (hr : 0 ≤ r ∧ r < (RB.rndsQ (RB.rndsN N) kind : Nat)) : ∃ x ∈ m, x.f0 = r ∧ (x.f1 = t ∨ x.f2 = t) := by
  have hq := rr_Q hn hk h
  have hmem : (t, r) ∈ ks m := by
    refine Classical.byContradiction fun hc => ?_
    have h3 : ((t, r) :: ks m).Nodup := List.nodup_cons.2 ⟨hc, (rr_okM hn hk h).2⟩
    have h4 := h3.length_le_of_subset (l₂ := allQ N (RB.rndsQ (RB.rndsN N) kind)) (fun y hy => by
      rcases List.mem_cons.1 hy with rfl | hy
      · exact allQ_mem ht hr
      · obtain ⟨x, hx, hxy⟩ := mem_ks.1 hy
        obtain ⟨a, b, c, _⟩ := rr_x hn hk h hx
        rcases hxy with rfl | rfl
        · exact allQ_mem b a
        · exact allQ_mem c a)
    rw [List.length_cons, ks_len, RB.rr_len hq.2.1 hk h, allQ_len] at h4
    have h5 : RB.rndsN N * N = N * (N - 1) := by unfold RB.rndsN; rw [he, Nat.add_zero, Nat.mul_comm]
    have h6 : 2 * (N * (N - 1) / 2) = N * (N - 1) := by
      have : N * (N - 1) % 2 = 0 := by rw [Nat.mul_mod, he, Nat.zero_mul, Nat.zero_mod]
      omega
    unfold RB.rndsQ at h4
    split at h4
    · rw [h5] at h4; omega
    · rw [Nat.mul_assoc 2 (RB.rndsN N) N, h5] at h4; omega
  obtain ⟨x, hx, hxy⟩ := mem_ks.1 hmem
  simp only [Prod.mk.injEq] at hxy
  rcases hxy with ⟨e1, e2⟩ | ⟨e1, e2⟩
  · exact ⟨x, hx, e2.symm, .inl e1.symm⟩
  · exact ⟨x, hx, e2.symm, .inr e1.symm⟩
def allPr (N : Nat) : List (Int × Int) := (List.range N).flatMap fun b : Nat => (List.range b).map fun a : Nat => ((a : Int), (b : Int))
omit hn hk h in
theorem allPr_len : ∀ N : Nat, 2 * (allPr N).length = N * (N - 1)
  | 0 => rfl
  | N + 1 => by
    have ih := allPr_len N
    unfold allPr at ih ⊢
    rw [List.range_succ, List.flatMap_append, List.length_append]
    have e : ([N].flatMap fun b : Nat => (List.range b).map fun a : Nat => ((a : Int), (b : Int))).length = N := by simp
    rw [e, Nat.mul_add, ih, Nat.add_sub_cancel]
    cases N with
    | zero => rfl
    | succ N => rw [Nat.add_sub_cancel, Nat.mul_comm (N + 1) N, ← Nat.add_mul]
omit hn hk h in
theorem allPr_mem {N : Nat} {k : Int × Int} (h0 : 0 ≤ k.1) (h1 : k.1 < k.2) (h2 : k.2 < N) : k ∈ allPr N :=
  List.mem_flatMap.2 ⟨k.2.toNat, List.mem_range.2 (by omega), List.mem_map.2 ⟨k.1.toNat, List.mem_range.2 (by omega), Prod.ext (by simp only; omega) (by simp only; omega)⟩⟩
omit hn hk in
theorem rr_met_in : ∀ p ∈ RB.metL m (RB.rndsN N) kind (RB.rndsN N), ∃ x ∈ m, p = RB.pr x := fun p hp => by
  rw [RB.met_cat] at hp
  obtain ⟨x, hx, rfl⟩ := List.mem_map.1 hp
  exact ⟨x, RB.cat_mem _ hx, rfl⟩
/-- everybody meets everybody -/
theorem rr_meet (s t : Int) (hs : 0 ≤ s ∧ s < N) (ht : 0 ≤ t ∧ t < N) (hne : s ≠ t) : ∃ x ∈ m, RB.pr x = (min s t, max s t) := by
  have hmem : (min s t, max s t) ∈ RB.metL m (RB.rndsN N) kind (RB.rndsN N) := by
    refine Classical.byContradiction fun hc => ?_
    have h3 : ((min s t, max s t) :: RB.metL m (RB.rndsN N) kind (RB.rndsN N)).Nodup := List.nodup_cons.2 ⟨hc, h.met⟩
    have h4 := h3.length_le_of_subset (l₂ := allPr N) (fun y hy => by
      rcases List.mem_cons.1 hy with rfl | hy
      · exact allPr_mem (by simp only; omega) (by simp only; omega) (by simp only; omega)
      · obtain ⟨x, hx, rfl⟩ := rr_met_in h y hy
        obtain ⟨a, b, c, d⟩ := rr_x hn hk h hx
        exact allPr_mem (by unfold RB.pr; simp only; omega) (by unfold RB.pr; simp only; omega) (by unfold RB.pr; simp only; omega))
    rw [List.length_cons, h.cnt] at h4
    have := allPr_len N
    omega
  obtain ⟨x, hx, e⟩ := rr_met_in h _ hmem
  exact ⟨x, hx, e.symm⟩
/-- no two teams have the same pattern -/
theorem rr_diff (s t : Nat) (hs : s < N) (ht : t < N) (hne : s ≠ t) : ∃ r : Nat, (r : Int) < (RB.rndsQ (RB.rndsN N) kind : Nat) ∧ (r : Int) ≤ lastR m ∧ get2 (patM N m) s r = - get2 (patM N m) t r ∧ get2 (patM N m) t r ≠ 0 := by
  obtain ⟨x, hx, e⟩ := rr_meet hn hk h s t (by omega) (by omega) (by omega)
  have hok := rr_okM hn hk h
  obtain ⟨h1, h2⟩ := pat_get hok hx
  have hxx := rr_x hn hk h hx
  have hl := last_mem (fun y hy => by have := hok.1 y hy; unfold bad at this; omega) x hx
  unfold RB.pr at e
  rw [Prod.mk.injEq] at e
  refine ⟨x.f0.toNat, by omega, by omega, ?_⟩
  have e2 : (x.f1.toNat = s ∧ x.f2.toNat = t) ∨ (x.f1.toNat = t ∧ x.f2.toNat = s) := by omega
  rcases e2 with ⟨e2, e3⟩ | ⟨e2, e3⟩
  · rw [e2] at h1; rw [e3] at h2; rw [h1, h2]; decide
  · rw [e2] at h1; rw [e3] at h2; rw [h1, h2]; decide
theorem rr_last (he : N % 2 = 0) : (lastR m + 1).toNat = RB.rndsQ (RB.rndsN N) kind := by
  have hq := rr_Q hn hk h
  have hQ : 1 ≤ RB.rndsQ (RB.rndsN N) kind := by unfold RB.rndsQ; split <;> omega
  have hok := rr_okM hn hk h
  have h64 : ∀ y ∈ m, 0 ≤ y.f0 ∧ y.f0 < 64 := fun y hy => by have := hok.1 y hy; unfold bad at this; omega
  obtain ⟨x, hx, e, _⟩ := rr_full hn hk h he 0 ((RB.rndsQ (RB.rndsN N) kind : Nat) - 1 : Int) (by omega) (by omega)
  have h1 := last_mem h64 x hx
  have h2 : ∀ (l : List S44), (∀ y ∈ l, y.f0 < (RB.rndsQ (RB.rndsN N) kind : Nat)) → ∀ s : Int, s < (RB.rndsQ (RB.rndsN N) kind : Nat) → l.foldl lastF s < (RB.rndsQ (RB.rndsN N) kind : Nat) := fun l => by
    induction l with
    | nil => intro _ s hs; exact hs
    | cons y l ih =>
      intro hl s hs
      have := hl y (by simp)
      exact ih (fun z hz => hl z (by simp [hz])) _ (by unfold lastF; omega)
  have h3 := h2 m (fun y hy => (rr_x hn hk h hy).1.2) (-1) (by omega)
  have h4 : lastR m = m.foldl lastF (-1) := rfl
  omega
theorem rr_pm (he : N % 2 = 0) (t r : Nat) (ht : t < N) (hr : r < RB.rndsQ (RB.rndsN N) kind) : get2 (patM N m) t r = 1 ∨ get2 (patM N m) t r = -1 := by
  obtain ⟨x, hx, e, h2⟩ := rr_full hn hk h he t r (by omega) (by omega)
  obtain ⟨h3, h4⟩ := pat_get (rr_okM hn hk h) hx
  have er : x.f0.toNat = r := by omega
  rw [er] at h3 h4
  rcases h2 with h2 | h2
  · have : x.f1.toNat = t := by omega
    rw [this] at h3; exact .inl h3
  · have : x.f2.toNat = t := by omega
    rw [this] at h4; exact .inr h4
/-- mirrored: the second half has all venues exchanged -/
theorem rr_mir (hk3 : kind = 3) (he : N % 2 = 0) (t r : Nat) (ht : t < N) (hr : r < RB.rndsN N) : get2 (patM N m) t (RB.rndsN N + r) = - get2 (patM N m) t r := by
  have hok := rr_okM hn hk h
  have hA : RB.mkA (RB.rndsN N) kind r = r := by unfold RB.mkA; rw [if_neg (by omega)]
  have hB : RB.mkB (RB.rndsN N) kind r = (RB.rndsN N : Int) + r := by unfold RB.mkB; rw [if_neg (by omega), if_pos hk3]
  have hQ : RB.rndsQ (RB.rndsN N) kind = 2 * RB.rndsN N := by unfold RB.rndsQ; rw [if_neg (by omega)]
  obtain ⟨x, hx, e, h2⟩ := rr_full hn hk h he t r (by omega) (by omega)
  have hp := h.trns r hr (by rw [hB]; omega)
  rw [hA, hB] at hp
  have hx2 : RB.trn ((RB.rndsN N : Int) + r) x ∈ m := by
    have : RB.trn ((RB.rndsN N : Int) + r) x ∈ RB.byR m ((RB.rndsN N : Int) + r) := hp.symm.subset (List.mem_map.2 ⟨x, List.mem_filter.2 ⟨hx, by simp [e]⟩, rfl⟩)
    exact (List.mem_filter.1 this).1
  obtain ⟨a1, a2⟩ := pat_get hok hx
  obtain ⟨b1, b2⟩ := pat_get hok hx2
  have e0 : (RB.trn ((RB.rndsN N : Int) + r) x).f0.toNat = RB.rndsN N + r := by show ((RB.rndsN N : Int) + r).toNat = _; omega
  have e1 : (RB.trn ((RB.rndsN N : Int) + r) x).f1 = x.f2 := rfl
  have e2 : (RB.trn ((RB.rndsN N : Int) + r) x).f2 = x.f1 := rfl
  rw [e0, e1] at b1
  rw [e0, e2] at b2
  have er : x.f0.toNat = r := by omega
  rw [er] at a1 a2
  rcases h2 with h2 | h2
  · have : x.f1.toNat = t := by omega
    rw [this] at a1 b2; rw [a1, b2]
  · have : x.f2.toNat = t := by omega
    rw [this] at a2 b1; rw [a2, b1]; decide
end
/-! ### breaks of a row of ones -/
theorem pm_alt {l : List Int} {Q : Nat} (h : ∀ j, j < Q → l.getD j 0 = 1 ∨ l.getD j 0 = -1) : ∀ j, j < Q → l.getD j 0 = if ((j : Int) + cntB l (j + 1)) % 2 = 0 then l.getD 0 0 else - l.getD 0 0
  | 0, h0 => by simp [cntB]
  | j + 1, hj => by
    have ih := pm_alt h j (by omega)
    have h1 := h j (by omega)
    have h2 := h (j + 1) hj
    by_cases e : l.getD (j + 1) 0 = l.getD j 0
    · have hb : cntB l (j + 1 + 1) = cntB l (j + 1) + 1 := by rw [cntB.eq_2 l (j + 1), Nat.add_sub_cancel, if_pos ⟨by omega, by omega, e⟩]
      rw [hb, e, ih]
      by_cases hp : ((j : Int) + cntB l (j + 1)) % 2 = 0
      · rw [if_pos hp, if_pos (by omega)]
      · rw [if_neg hp, if_neg (by omega)]
    · have hb : cntB l (j + 1 + 1) = cntB l (j + 1) := by rw [cntB.eq_2 l (j + 1), Nat.add_sub_cancel, if_neg (fun h => e h.2.2), Int.add_zero]
      have e2 : l.getD (j + 1) 0 = - l.getD j 0 := by omega
      rw [hb, e2, ih]
      by_cases hp : ((j : Int) + cntB l (j + 1)) % 2 = 0
      · rw [if_pos hp, if_neg (by omega)]
      · rw [if_neg hp, if_pos (by omega)]; omega
theorem cntB_mono (l : List Int) : ∀ d j, cntB l j ≤ cntB l (j + d)
  | 0, j => Int.le_refl _
  | d + 1, j => by
    have := cntB_mono l d j
    rw [← Nat.add_assoc, cntB]; split <;> omega
/-- without a break a row of ones is told by its first entry -/
theorem pm_zero {l : List Int} (h : ∀ j, j < l.length → l.getD j 0 = 1 ∨ l.getD j 0 = -1) (hz : brk l = 0) : ∀ j, j < l.length → l.getD j 0 = if (j : Int) % 2 = 0 then l.getD 0 0 else - l.getD 0 0 := fun j hj => by
  have h1 := pm_alt h j hj
  have h2 := cntB_mono l (l.length - (j + 1)) (j + 1)
  have h3 := cntB_bd l (j + 1)
  rw [show j + 1 + (l.length - (j + 1)) = l.length by omega] at h2
  unfold brk at hz
  rw [show cntB l (j + 1) = 0 by omega, Int.add_zero] at h1
  exact h1
theorem cntB_neg {l k : List Int} {R : Nat} (h : ∀ j, j < R → k.getD j 0 = - l.getD j 0) : ∀ j, j ≤ R → cntB k j = cntB l j
  | 0, _ => rfl
  | j + 1, hj => by
    have ih := cntB_neg h j (by omega)
    rw [cntB, cntB, ih, h j (by omega), h (j - 1) (by omega)]
    congr 1
    by_cases e : 0 < j ∧ l.getD j 0 ≠ 0 ∧ l.getD j 0 = l.getD (j - 1) 0
    · rw [if_pos e, if_pos ⟨e.1, by omega, by omega⟩]
    · rw [if_neg e, if_neg (fun h => e ⟨h.1, by omega, by omega⟩)]
/-- mirrored, and an odd number of rounds in a half: no break, or three -/
theorem mir_3 {l : List Int} {R : Nat} (hR : R % 2 = 1) (hl : l.length = 2 * R) (h : ∀ j, j < l.length → l.getD j 0 = 1 ∨ l.getD j 0 = -1) (hm : ∀ j, j < R → l.getD (R + j) 0 = - l.getD j 0) : brk l = 0 ∨ 3 ≤ brk l := by
  have hc := brk_cut l R (by omega)
  have hb1 : brk (l.take R) = cntB l R := by
    unfold brk; rw [List.length_take, Nat.min_eq_left (by omega), cntB_take l R R (Nat.le_refl _)]
  have hb2 : brk (l.drop R) = cntB l R := by
    unfold brk
    rw [List.length_drop, show l.length - R = R by omega]
    refine cntB_neg (fun j hj => ?_) R (Nat.le_refl _)
    rw [List.getD_eq_getElem?_getD, List.getElem?_drop, ← List.getD_eq_getElem?_getD]
    exact hm j hj
  have hbd := cntB_bd l R
  rw [hb1, hb2] at hc
  have hmo : 0 ≤ moreB l R := by unfold moreB; split <;> omega
  have ha := pm_alt h (R - 1) (by omega)
  rw [show R - 1 + 1 = R by omega] at ha
  have h0 := hm 0 (by omega)
  rw [Nat.add_zero] at h0
  have h1 := h 0 (by omega)
  by_cases e0 : cntB l R = 0
  · left
    rw [e0, if_pos (by omega)] at ha
    have : moreB l R = 0 := by unfold moreB; rw [if_neg (by omega)]
    omega
  · right
    by_cases e1 : cntB l R = 1
    · rw [e1, if_neg (by omega)] at ha
      have : moreB l R = 1 := by unfold moreB; rw [if_pos ⟨by omega, by omega, by omega, by omega⟩]
      omega
    · omega
/-! ### how many teams have no break -/
theorem sum_ge (c : Int) (hc : 0 ≤ c) (b : Nat → Int) : ∀ n, (∀ t, t < n → b t = 0 ∨ c ≤ b t) → c * (n : Int) ≤ sumN b n + c * (((List.range n).filter fun t => decide (b t = 0)).length : Int)
  | 0, _ => by simp [sumN]
  | n + 1, h => by
    have ih := sum_ge c hc b n (fun t ht => h t (by omega))
    rw [List.range_succ, List.filter_append, List.length_append, sumN]
    have e1 : c * ((n + 1 : Nat) : Int) = c * (n : Int) + c := by rw [Int.natCast_add, Int.mul_add]; simp
    by_cases e : b n = 0
    · have e2 : ([n].filter fun t => decide (b t = 0)).length = 1 := by simp [e]
      rw [e2, e1, Int.natCast_add, Int.mul_add, e]; simp; omega
    · have e2 : ([n].filter fun t => decide (b t = 0)).length = 0 := by simp [e]
      have := (h n (by omega)).resolve_left e
      rw [e2, e1, Nat.add_zero]; omega
theorem two_at_most (Z : List Nat) (hZ : Z.Nodup) (v : Nat → Int) (h1 : ∀ t ∈ Z, v t = 1 ∨ v t = -1) (h2 : ∀ s ∈ Z, ∀ t ∈ Z, s ≠ t → v s ≠ v t) : Z.length ≤ 2 := by
  have h3 : (Z.map v).Nodup := nodup_mapI (fun a ha b hb e => Classical.byContradiction fun hne => h2 a ha b hb hne e) hZ
  have h4 := h3.length_le_of_subset (l₂ := [1, -1]) (fun y hy => by
    obtain ⟨t, ht, rfl⟩ := List.mem_map.1 hy
    rcases h1 t ht with e | e <;> simp [e])
  simpa using h4
/-- no round robin has fewer breaks than Least says -/
theorem rr_breaks {N : Nat} {kind : Int} {m : List S44} (hn : 2 ≤ N ∧ N ≤ 12) (hk : 1 ≤ kind ∧ kind ≤ 3) (h : RB.RR N (RB.rndsN N) kind m) : (leastF N kind).1 ≤ sumN (fun t => brk ((patM N m).getD t [])) N := by
  have hnn : ∀ n, 0 ≤ sumN (fun t => brk ((patM N m).getD t [])) n := fun n => by
    induction n with
    | zero => exact Int.le_refl 0
    | succ n ih => have := (brk_bd ((patM N m).getD n [])).1; rw [sumN]; omega
  have hok := rr_okM hn hk h
  by_cases he : N % 2 = 0
  · have hlast := rr_last hn hk h he
    have hrect := patM_rect (by omega) hok
    rw [hlast] at hrect
    have hQ1 : 1 ≤ RB.rndsQ (RB.rndsN N) kind := by unfold RB.rndsQ RB.rndsN; split <;> omega
    have hlen : ∀ t, t < N → ((patM N m).getD t []).length = RB.rndsQ (RB.rndsN N) kind := fun t ht => hrect.get ht
    have hpm : ∀ t, t < N → ∀ j, j < ((patM N m).getD t []).length → ((patM N m).getD t []).getD j 0 = 1 ∨ ((patM N m).getD t []).getD j 0 = -1 := fun t ht j hj => rr_pm hn hk h he t j ht (by rw [hlen t ht] at hj; exact hj)
    have hz : ((List.range N).filter fun t => decide (brk ((patM N m).getD t []) = 0)).length ≤ 2 := by
      refine two_at_most _ (List.nodup_range.filter _) (fun t => ((patM N m).getD t []).getD 0 0) (fun t ht => ?_) (fun s hs t ht hne e => ?_)
      · have ht := List.mem_range.1 (List.mem_filter.1 ht).1
        exact hpm t ht 0 (by rw [hlen t ht]; omega)
      · have s1 := List.mem_range.1 (List.mem_filter.1 hs).1
        have t1 := List.mem_range.1 (List.mem_filter.1 ht).1
        have s2 := of_decide_eq_true (List.mem_filter.1 hs).2
        have t2 := of_decide_eq_true (List.mem_filter.1 ht).2
        obtain ⟨r, hr, _, e1, e2⟩ := rr_diff hn hk h s t s1 t1 hne
        have a1 := pm_zero (hpm s s1) s2 r (by rw [hlen s s1]; omega)
        have a2 := pm_zero (hpm t t1) t2 r (by rw [hlen t t1]; omega)
        unfold get2 at e1 e2
        rw [a1, a2, e] at e1
        rw [a2] at e2
        split at e1 <;> rename_i hp
        · rw [if_pos hp] at e2; omega
        · rw [if_neg hp] at e2; omega
    by_cases hk3 : kind = 3
    · have h3 := sum_ge 3 (by decide) (fun t => brk ((patM N m).getD t [])) N (fun t ht => by
        have hQ : RB.rndsQ (RB.rndsN N) kind = 2 * RB.rndsN N := by unfold RB.rndsQ; rw [if_neg (by omega)]
        refine mir_3 (R := RB.rndsN N) (by unfold RB.rndsN; omega) (by rw [hlen t ht, hQ]) (hpm t ht) (fun j hj => ?_)
        exact rr_mir hn hk h hk3 he t j ht hj)
      have : (leastF N kind).1 = 3 * N - 6 := by unfold leastF; rw [if_neg (by omega), if_neg (by omega), if_pos hk3, if_neg (by omega)]
      rw [this]; omega
    · have h3 := sum_ge 1 (by decide) (fun t => brk ((patM N m).getD t [])) N (fun t ht => by
        have := (brk_bd ((patM N m).getD t [])).1
        omega)
      have : (leastF N kind).1 = N - 2 := by unfold leastF; rw [if_neg (by omega), if_pos (by omega), if_neg (by omega)]
      rw [this]; omega
  · have : (leastF N kind).1 = 0 := by
      unfold leastF
      rw [if_neg (by omega)]
      split
      · rw [if_pos (by omega)]
      · split
        · rw [if_pos (by omega)]
        · rfl
    rw [this]; exact hnn N
/-! ### games within a set -/
def inB (l : List Int) (x : S44) : Bool := decide (x.f1 ∈ l) && decide (x.f2 ∈ l)
def pairsL : List Int → List (Int × Int)
  | [] => []
  | a :: l => l.map (fun b => (min a b, max a b)) ++ pairsL l
theorem pairsL_len : ∀ l : List Int, 2 * (pairsL l).length = l.length * (l.length - 1)
  | [] => rfl
  | a :: l => by
    have ih := pairsL_len l
    rw [pairsL, List.length_append, List.length_map, List.length_cons, Nat.mul_add, ih, Nat.add_sub_cancel]
    cases l.length with
    | zero => rfl
    | succ n => rw [Nat.add_sub_cancel, Nat.mul_comm (n + 1) n, ← Nat.add_mul, Nat.add_comm 2 n]
theorem pairsL_mem : ∀ {l : List Int} {p : Int × Int}, p ∈ pairsL l → p.1 ∈ l ∧ p.2 ∈ l
  | [], p, h => by cases h
  | a :: l, p, h => by
    rw [pairsL] at h
    rcases List.mem_append.1 h with h | h
    · obtain ⟨b, hb, rfl⟩ := List.mem_map.1 h
      have h1 : min a b = a ∨ min a b = b := by omega
      have h2 : max a b = a ∨ max a b = b := by omega
      constructor
      · rcases h1 with e | e <;> simp [e, hb]
      · rcases h2 with e | e <;> simp [e, hb]
    · have := pairsL_mem h
      exact ⟨List.mem_cons_of_mem _ this.1, List.mem_cons_of_mem _ this.2⟩
theorem pairsL_ex : ∀ {l : List Int} {p : Int × Int}, l.Nodup → p ∈ pairsL l → ∃ s ∈ l, ∃ t ∈ l, s ≠ t ∧ p = (min s t, max s t)
  | [], p, _, h => by cases h
  | a :: l, p, hn, h => by
    rw [pairsL] at h
    have hn2 := List.nodup_cons.1 hn
    rcases List.mem_append.1 h with h | h
    · obtain ⟨b, hb, rfl⟩ := List.mem_map.1 h
      exact ⟨a, by simp, b, by simp [hb], fun e => hn2.1 (e ▸ hb), rfl⟩
    · obtain ⟨s, hs, t, ht, r⟩ := pairsL_ex hn2.2 h
      exact ⟨s, by simp [hs], t, by simp [ht], r⟩
theorem pairsL_nd : ∀ {l : List Int}, l.Nodup → (pairsL l).Nodup
  | [], _ => List.nodup_nil
  | a :: l, hn => by
    have hn2 := List.nodup_cons.1 hn
    rw [pairsL, List.nodup_append]
    refine ⟨nodup_mapI (fun b hb c hc e => ?_) hn2.2, pairsL_nd hn2.2, fun p hp q hq e => ?_⟩
    · rw [Prod.mk.injEq] at e; omega
    · subst e
      obtain ⟨b, hb, rfl⟩ := List.mem_map.1 hp
      have := pairsL_mem hq
      have h1 : min a b = a ∨ max a b = a := by omega
      rcases h1 with e | e
      · rw [e] at this; exact hn2.1 this.1
      · rw [e] at this; exact hn2.1 this.2
theorem round_games {N : Nat} {kind : Int} {m : List S44} (hn : 2 ≤ N ∧ N ≤ 12) (hk : 1 ≤ kind ∧ kind ≤ 3) (h : RB.RR N (RB.rndsN N) kind m) (l : List Int) (r : Nat) :
    ((m.filter (inB l)).filter fun x => x.f0 == (r : Int)).length ≤ cntV (patM N m) l r 1 ∧ ((m.filter (inB l)).filter fun x => x.f0 == (r : Int)).length ≤ cntV (patM N m) l r (-1) := by
  have hok := rr_okM hn hk h
  have hmem : ∀ x ∈ (m.filter (inB l)).filter fun x => x.f0 == (r : Int), x ∈ m ∧ x.f1 ∈ l ∧ x.f2 ∈ l ∧ x.f0 = r := fun x hx => by
    obtain ⟨h1, h2⟩ := List.mem_filter.1 hx
    obtain ⟨h3, h4⟩ := List.mem_filter.1 h1
    simp only [inB, Bool.and_eq_true, decide_eq_true_eq] at h4
    exact ⟨h3, h4.1, h4.2, by simpa using h2⟩
  have hnd : ((m.filter (inB l)).filter fun x => x.f0 == (r : Int)).Pairwise fun x y => (x.f1, x.f0) ≠ (y.f1, y.f0) ∧ (x.f2, x.f0) ≠ (y.f2, y.f0) := by
    refine List.Pairwise.filter _ (List.Pairwise.filter _ ?_)
    have := hok.2
    clear hmem hok h
    induction m with
    | nil => exact List.Pairwise.nil
    | cons x m ih =>
      have e : ks (x :: m) = (x.f1, x.f0) :: (x.f2, x.f0) :: ks m := rfl
      rw [e, List.nodup_cons, List.nodup_cons, List.mem_cons, not_or] at this
      obtain ⟨⟨_, h1⟩, h2, h3⟩ := this
      refine List.pairwise_cons.2 ⟨fun y hy => ⟨fun e => h1 (mem_ks.2 ⟨y, hy, .inl e⟩), fun e => h2 (mem_ks.2 ⟨y, hy, .inr e⟩)⟩, ih h3⟩
  have h1 : (((m.filter (inB l)).filter fun x => x.f0 == (r : Int)).map (·.f1)).Nodup := List.pairwise_map.2 (hnd.imp_of_mem fun {x y} hx hy hxy e => hxy.1 (by rw [(hmem x hx).2.2.2, (hmem y hy).2.2.2]; exact congrArg (fun a => (a, (r : Int))) e))
  have h2 : (((m.filter (inB l)).filter fun x => x.f0 == (r : Int)).map (·.f2)).Nodup := List.pairwise_map.2 (hnd.imp_of_mem fun {x y} hx hy hxy e => hxy.2 (by rw [(hmem x hx).2.2.2, (hmem y hy).2.2.2]; exact congrArg (fun a => (a, (r : Int))) e))
  constructor
  · have := h1.length_le_of_subset (l₂ := l.filter fun t => decide (((patM N m).getD t.toNat []).getD r 0 = 1)) (fun y hy => by
      obtain ⟨x, hx, rfl⟩ := List.mem_map.1 hy
      obtain ⟨a, b, c, d⟩ := hmem x hx
      refine List.mem_filter.2 ⟨b, decide_eq_true ?_⟩
      have := (pat_get hok a).1
      rw [d, Int.toNat_natCast] at this
      exact this)
    rwa [List.length_map] at this
  · have := h2.length_le_of_subset (l₂ := l.filter fun t => decide (((patM N m).getD t.toNat []).getD r 0 = -1)) (fun y hy => by
      obtain ⟨x, hx, rfl⟩ := List.mem_map.1 hy
      obtain ⟨a, b, c, d⟩ := hmem x hx
      refine List.mem_filter.2 ⟨c, decide_eq_true ?_⟩
      have := (pat_get hok a).2
      rw [d, Int.toNat_natCast] at this
      exact this)
    rwa [List.length_map] at this
theorem games_le {N : Nat} {kind : Int} {m : List S44} (hn : 2 ≤ N ∧ N ≤ 12) (hk : 1 ≤ kind ∧ kind ≤ 3) (h : RB.RR N (RB.rndsN N) kind m) (l : List Int) : ∀ r : Nat, (((m.filter (inB l)).filter fun x => decide (x.f0 < (r : Int))).length : Int) ≤ sumG (patM N m) l r
  | 0 => by
    rw [List.filter_eq_nil_iff.2]
    · exact Int.le_refl 0
    · intro x hx
      have := (rr_x hn hk h (List.mem_filter.1 hx).1).1.1
      simp; omega
  | r + 1 => by
    have ih := games_le hn hk h l r
    have h1 := round_games hn hk h l r
    have hp := RB.filter_or (p := fun x : S44 => decide (x.f0 < ((r + 1 : Nat) : Int))) (q := fun x => decide (x.f0 < (r : Int))) (r := fun x => x.f0 == (r : Int)) (fun x => by rw [Bool.eq_iff_iff]; simp; omega) (fun x => by rw [Bool.eq_false_iff]; simp; omega) (m.filter (inB l))
    have := hp.length_eq
    rw [List.length_append] at this
    rw [sumG]
    omega
/-- a set of teams is not short of games -/
theorem rr_games {N : Nat} {kind : Int} {m : List S44} (hn : 2 ≤ N ∧ N ≤ 12) (hk : 1 ≤ kind ∧ kind ≤ 3) (h : RB.RR N (RB.rndsN N) kind m) (l : List Int) (hl : l.Nodup) (hin : ∀ t ∈ l, 0 ≤ t ∧ t < N) : (l.length : Int) * ((l.length : Int) - 1) ≤ 2 * sumG (patM N m) l (lastR m + 1).toNat := by
  have hok := rr_okM hn hk h
  have h64 : ∀ y ∈ m, 0 ≤ y.f0 ∧ y.f0 < 64 := fun y hy => by have := hok.1 y hy; unfold bad at this; omega
  have h1 := games_le hn hk h l (lastR m + 1).toNat
  have h2 : ((m.filter (inB l)).filter fun x => decide (x.f0 < ((lastR m + 1).toNat : Int))) = m.filter (inB l) := List.filter_eq_self.2 fun x hx => by
    have := last_mem h64 x (List.mem_filter.1 hx).1
    have := h64 x (List.mem_filter.1 hx).1
    simp; omega
  rw [h2] at h1
  have h3 := (pairsL_nd hl).length_le_of_subset (l₂ := (m.filter (inB l)).map RB.pr) (fun p hp => by
    obtain ⟨s, hs, t, ht, hne, rfl⟩ := pairsL_ex hl hp
    obtain ⟨x, hx, e⟩ := rr_meet hn hk h s t (hin s hs) (hin t ht) hne
    refine List.mem_map.2 ⟨x, List.mem_filter.2 ⟨hx, ?_⟩, e⟩
    unfold RB.pr at e
    rw [Prod.mk.injEq] at e
    have e2 : (x.f1 = s ∧ x.f2 = t) ∨ (x.f1 = t ∧ x.f2 = s) := by omega
    rcases e2 with ⟨e2, e3⟩ | ⟨e2, e3⟩ <;> simp [inB, e2, e3, hs, ht])
  rw [List.length_map] at h3
  have h4 := pairsL_len l
  have h5 : (l.length : Int) * ((l.length : Int) - 1) = ((l.length * (l.length - 1) : Nat) : Int) := by
    cases l.length with
    | zero => rfl
    | succ n => rw [Nat.add_sub_cancel, Int.natCast_mul]; congr 1; omega
  rw [h5]
  omega
theorem membs_nd (n set : Nat) : (membs n set).Nodup := nodup_mapI (fun a _ b _ e => by omega) (List.nodup_range.filter _)
theorem rr_patOk {N : Nat} {kind : Int} {m : List S44} (hn : 2 ≤ N ∧ N ≤ 12) (hk : 1 ≤ kind ∧ kind ≤ 3) (h : RB.RR N (RB.rndsN N) kind m) : patOk (patM N m) := by
  have hok := rr_okM hn hk h
  have hrect := patM_rect (by omega) hok
  have hl := lastR_bd hok
  have h64 : ∀ y ∈ m, 0 ≤ y.f0 ∧ y.f0 < 64 := fun y hy => by have := hok.1 y hy; unfold bad at this; omega
  have hin := hrect.in_ (fun t r _ _ => fold_in m hok.1 (fun x hx => by
    have := last_mem h64 x hx
    have := h64 x hx
    show x.f0.toNat < (lastR m + 1).toNat
    omega) _ (Rect.rep _ _) (fun t r => by rw [get2_Z0]; decide) t r)
  refine ⟨by rw [hrect.1]; omega, fun row hr => ⟨?_, ?_, hin row hr⟩⟩
  · rw [hrect.2 row hr, hrect.get (by omega)]
  · rw [hrect.2 row hr]; omega
theorem rr_vio {N : Nat} {kind : Int} {m : List S44} (hn : 2 ≤ N ∧ N ≤ 10) (hk : 1 ≤ kind ∧ kind ≤ 3) (h : RB.RR N (RB.rndsN N) kind m) : vioF (patM N m) = ([], false, 0) := by
  have hn' : 2 ≤ N ∧ N ≤ 12 := by omega
  have hok := rr_okM hn' hk h
  have hrect := patM_rect (by omega) hok
  have hlen : (patM N m).length = N := hrect.1
  have h0 : ((patM N m).getD 0 []).length = (lastR m + 1).toNat := hrect.get (by omega)
  unfold vioF
  split
  · rename_i hc
    have hpk := rr_patOk hn' hk h
    rcases hc with hc | hc | hc
    · omega
    · omega
    · exact absurd hpk hc
  · split
    · rename_i hc set hs
      exfalso
      have h1 := List.find?_some hs
      have h2 := List.mem_of_find?_eq_some hs
      rw [hlen] at h2
      have h3 := (sets_mem hn.2).1 h2
      rw [short_eq _ _ (by rw [hlen]; exact hn.2) (by rw [hlen]; exact h3.1), hlen, h0] at h1
      have h4 := of_decide_eq_true h1
      have h5 := rr_games hn' hk h (membs N set) (membs_nd _ _) (fun t ht => membs_mem ht)
      omega
    · rfl
end Go.Proofs.Ytecgklfcblpkdaa.P

/- made: how a plan turns a round robin; insertion sort. Plain. -/
namespace Go.Proofs.Ytecgklfcblpkdaa.P
open Go.RowKit Go.Proofs.YtecgklfcblpkdaaW.PrintWords Go.Proofs.YtecgklfcblpkdaaW.PrintLast Go.Proofs.YtecgklfcblpkdaaW.PrintMore
open XW
set_option linter.unusedSimpArgs false
set_option linter.unusedVariables false
def rI (R : Nat) (kind v : Int) : Int := if kind = 2 then v / 2 else v % (R : Int)
def bkB (R : Nat) (kind v : Int) : Bool := if kind = 2 then v % 2 == 1 else decide (v ≥ (R : Int))
def rhoZ (R : Nat) (kind : Int) (b : Bool) (x : Int) : Int := if kind = 2 then (if b = true then 2 * x + 1 else x * 2) else if b = true then x + R else x
def rhoF (R : Nat) (kind : Int) (tu : List Int) (v : Int) : Int := rhoZ R kind (bkB R kind v) (tu.getD (rI R kind v).toNat 0)
def piF (te : List Int) (t : Int) : Int := te.getD t.toNat 0
def swF (N : Nat) (tn : List Bool) (s t : Int) : Bool := tn.getD ((N : Int) * min s t + max s t).toNat false
def zF (N R : Nat) (kind : Int) (te tu : List Int) (tn : List Bool) (x : S44) : S44 := RB.trnZ (rhoF R kind tu) (piF te) (swF N tn) x
theorem ord_surj {R : Nat} {tos : List Int} (h : tos.Perm ((List.range R).map fun x : Nat => (x : Int))) (r : Nat) (hr : r < R) : ∃ q, q < R ∧ (tos.getD q 0).toNat = r := by
  have hm : (r : Int) ∈ tos := h.symm.subset (List.mem_map.2 ⟨r, List.mem_range.2 hr, rfl⟩)
  obtain ⟨q, hq, e⟩ := List.getElem_of_mem hm
  have hl : tos.length = R := by rw [h.length_eq]; simp
  exact ⟨q, by omega, by rw [List.getD_eq_getElem?_getD, List.getElem?_eq_getElem hq, Option.getD_some, e, Int.toNat_natCast]⟩
theorem made_rr {N : Nat} {kind : Int} {te tu : List Int} {tn : List Bool} {l : List S44} (hk : 1 ≤ kind ∧ kind ≤ 3) (h : RB.RR N (RB.rndsN N) kind l) (hte : te.Perm ((List.range N).map fun x : Nat => (x : Int))) (htu : tu.Perm ((List.range (RB.rndsN N)).map fun x : Nat => (x : Int))) :
    RB.RR N (RB.rndsN N) kind (l.map (zF N (RB.rndsN N) kind te tu tn)) := by
  have o1 := ordOk hte
  have o2 := ordOk htu
  refine RB.rr_turn (τ := fun r => (tu.getD r 0).toNat) hk h (fun t h1 h2 => ?_) (fun s t h1 h2 h3 h4 e => ?_) (fun s t => ?_) (fun r hr => ?_) (fun r s hr hs e => ?_) (fun r hr => ord_surj htu r hr) (fun r hr => ?_) (fun r hr hb => ?_)
  · have := o1.bd t.toNat (by omega)
    exact this
  · have := o1.inj s.toNat t.toNat (by omega) (by omega) e
    omega
  · unfold swF; rw [Int.min_comm, Int.max_comm]
  · have := o2.bd r hr
    show (tu.getD r 0).toNat < _
    omega
  · have h1 := o2.bd r hr
    have h2 := o2.bd s hs
    have e' : (tu.getD r 0).toNat = (tu.getD s 0).toNat := e
    exact o2.inj r s hr hs (by omega)
  · have h1 := o2.bd r hr
    unfold rhoF rhoZ bkB rI RB.mkA
    by_cases h2 : kind = 2
    · simp only [if_pos h2]
      rw [show (2 * (r : Int) % 2 == 1) = false by rw [beq_eq_false_iff_ne]; omega, show (2 * (r : Int) / 2) = r by omega, Int.toNat_natCast, if_neg (by simp)]
      omega
    · simp only [if_neg h2]
      rw [decide_eq_false (by omega), if_neg (by simp), Int.emod_eq_of_lt (by omega) (by omega), Int.toNat_natCast]
      omega
  · have h1 := o2.bd r hr
    unfold rhoF rhoZ bkB rI RB.mkB at *
    by_cases h2 : kind = 2
    · simp only [if_pos h2] at hb ⊢
      rw [show ((2 * (r : Int) + 1) % 2 == 1) = true by rw [beq_iff_eq]; omega, show ((2 * (r : Int) + 1) / 2) = r by omega, Int.toNat_natCast, if_pos rfl]
      omega
    · simp only [if_neg h2] at hb ⊢
      by_cases h3 : kind = 3
      · simp only [if_pos h3] at hb ⊢
        rw [decide_eq_true (by omega), if_pos rfl, show ((RB.rndsN N : Int) + r) % (RB.rndsN N : Int) = r by rw [Int.add_emod_left, Int.emod_eq_of_lt (by omega) (by omega)], Int.toNat_natCast]
        omega
      · rw [if_neg h3] at hb; omega
def turnL (f : S44 → S44) (l : List S44) (i : Nat) : List S44 := (l.take i).map f ++ l.drop i
theorem turnL_len (f : S44 → S44) (l : List S44) (i : Nat) : (turnL f l i).length = l.length := by unfold turnL; rw [List.length_append, List.length_map, ← List.length_append, List.take_append_drop]
theorem turnL_step (f : S44 → S44) (l : List S44) (i : Nat) (h : i < l.length) : (turnL f l i).take i ++ (f (l.getD i z44) :: (turnL f l i).drop (i + 1)) = turnL f l (i + 1) := by
  have e1 : ((l.take i).map f).length = i := by rw [List.length_map, List.length_take]; omega
  have h1 : (turnL f l i).take i = (l.take i).map f := by unfold turnL; exact List.take_left' e1
  have h2 : (turnL f l i).drop (i + 1) = l.drop (i + 1) := by
    unfold turnL
    rw [List.drop_append, e1, List.drop_of_length_le (by omega), List.nil_append, List.drop_drop]
    congr 1; omega
  rw [h1, h2]
  unfold turnL
  rw [RB.take_snocS l i z44 h, List.map_append, List.append_assoc]
  rfl
theorem turnL_zero (f : S44 → S44) (l : List S44) : turnL f l 0 = l := by simp [turnL]
theorem turnL_all (f : S44 → S44) (l : List S44) : turnL f l l.length = l.map f := by simp [turnL]
def leM (x y : S44) : Prop := x.f0 < y.f0 ∨ (x.f0 = y.f0 ∧ x.f1 ≤ y.f1)
theorem srtL_def (l : List S44) : RB.SrtL l = l.Pairwise leM := rfl
theorem leM_trans {x y z : S44} (h1 : leM x y) (h2 : leM y z) : leM x z := by unfold leM at *; omega
def Ins (zs xs : List S44) (i k : Nat) (a : List S44) (x : S44) (b c : List S44) : Prop := xs.Perm zs ∧ xs = a ++ x :: (b ++ c) ∧ a.length = k ∧ a.length + b.length = i ∧ RB.SrtL (a ++ b) ∧ ∀ y ∈ b, leM x y
theorem ins_start {zs xs : List S44} {i : Nat} (hp : xs.Perm zs) (hi : i < xs.length) (hs : RB.SrtL (xs.take i)) : Ins zs xs i i (xs.take i) (xs.getD i z44) [] (xs.drop (i + 1)) := by
  have e : (xs.take i).length = i := by rw [List.length_take]; omega
  refine ⟨hp, ?_, e, by rw [e]; rfl, by rw [List.append_nil]; exact hs, by simp⟩
  have h1 := RB.take_snocS xs i z44 hi
  have h2 := List.take_append_drop (i + 1) xs
  rw [h1, List.append_assoc] at h2
  exact h2.symm
theorem ins_get {zs xs : List S44} {i k : Nat} {a b c : List S44} {x : S44} (h : Ins zs xs i k a x b c) : xs.getD k z44 = x ∧ k < xs.length := by
  obtain ⟨_, rfl, rfl, h4, _, _⟩ := h
  refine ⟨?_, by simp⟩
  rw [List.getD_eq_getElem?_getD, List.getElem?_append_right (Nat.le_refl _), Nat.sub_self]; rfl
theorem ins_step {zs xs : List S44} {i k : Nat} {a b c : List S44} {x : S44} (h : Ins zs xs i (k + 1) a x b c) (hlt : ¬ leM (xs.getD k z44) x) : ∃ a' y, Ins zs ((xs.set (k + 1) (xs.getD k z44)).set k x) i k a' x (y :: b) c := by
  obtain ⟨h1, rfl, h3, h4, h5, h6⟩ := h
  obtain ⟨a', y, rfl⟩ : ∃ a' y, a = a' ++ [y] := by
    rcases List.eq_nil_or_concat a with rfl | ⟨a', y, e⟩
    · simp at h3
    · exact ⟨a', y, by rw [e, List.concat_eq_append]⟩
  have hk : a'.length = k := by simpa using h3
  have hg : ((a' ++ [y]) ++ x :: (b ++ c)).getD k z44 = y := by
    rw [List.append_assoc, List.getD_eq_getElem?_getD, List.getElem?_append_right (by omega), hk, Nat.sub_self]; rfl
  rw [hg] at hlt ⊢
  have e : (((a' ++ [y]) ++ x :: (b ++ c)).set (k + 1) y).set k x = a' ++ x :: ((y :: b) ++ c) := by
    rw [List.append_assoc, List.set_append_right _ _ (by omega), hk, show k + 1 - k = 1 by omega, List.set_append_right _ _ (by omega), hk, Nat.sub_self]
    rfl
  refine ⟨a', y, ?_, e, hk, by simp at h4 ⊢; omega, by simpa using h5, fun z hz => ?_⟩
  · rw [e]
    refine List.Perm.trans ?_ h1
    rw [List.append_assoc]
    refine List.Perm.append_left a' ?_
    exact List.Perm.swap ..
  · rcases List.mem_cons.1 hz with rfl | hz
    · unfold leM at *; omega
    · exact h6 z hz
theorem ins_end {zs xs : List S44} {i k : Nat} {a b c : List S44} {x : S44} (h : Ins zs xs i k a x b c) (hle : k = 0 ∨ leM (xs.getD (k - 1) z44) x) : xs.Perm zs ∧ RB.SrtL (xs.take (i + 1)) := by
  obtain ⟨h1, rfl, h3, h4, h5, h6⟩ := h
  refine ⟨h1, ?_⟩
  have e : (a ++ x :: (b ++ c)).take (i + 1) = a ++ x :: b := by
    rw [show a ++ x :: (b ++ c) = (a ++ x :: b) ++ c by simp]
    exact List.take_left' (by simp; omega)
  rw [e]
  rw [srtL_def] at h5 ⊢
  have h7 := List.pairwise_append.1 h5
  refine List.pairwise_append.2 ⟨h7.1, List.pairwise_cons.2 ⟨h6, h7.2.1⟩, fun z hz y hy => ?_⟩
  have hzx : leM z x := by
    rcases hle with h0 | hle
    · rw [h0] at h3
      rw [List.eq_nil_of_length_eq_zero h3] at hz; cases hz
    · obtain ⟨a', w, rfl⟩ : ∃ a' w, a = a' ++ [w] := by
        rcases List.eq_nil_or_concat a with rfl | ⟨a', w, e⟩
        · cases hz
        · exact ⟨a', w, by rw [e, List.concat_eq_append]⟩
      have hk : a'.length + 1 = k := by simpa using h3
      have hg : ((a' ++ [w]) ++ x :: (b ++ c)).getD (k - 1) z44 = w := by
        rw [List.append_assoc, List.getD_eq_getElem?_getD, List.getElem?_append_right (by omega), show k - 1 - a'.length = 0 by omega]; rfl
      rw [hg] at hle
      rcases List.mem_append.1 hz with hz | hz
      · have := (List.pairwise_append.1 h7.1).2.2 z hz w (by simp)
        exact leM_trans this hle
      · rw [List.mem_singleton] at hz; subst hz; exact hle
  rcases List.mem_cons.1 hy with rfl | hy
  · exact hzx
  · exact h7.2.2 z hz y hy
end Go.Proofs.Ytecgklfcblpkdaa.P

/- made: the walk. -/
namespace Go.Proofs.Ytecgklfcblpkdaa.P
open Go.RowKit Go.Proofs.YtecgklfcblpkdaaW.PrintWords Go.Proofs.YtecgklfcblpkdaaW.PrintLast Go.Proofs.YtecgklfcblpkdaaW.PrintMore
open XW RegInv
attribute [local irreducible] Addr.add
set_option linter.unusedSimpArgs false
set_option linter.unusedVariables false

theorem E22m : Enters Try.prog 22 := enters Try.func22 (by kernel_rfl) rfl
theorem E32m : Enters Try.prog 32 := enters Try.func32 (by kernel_rfl) rfl
theorem E33m : Enters Try.prog 33 := enters Try.func33 (by kernel_rfl) rfl
theorem E34m : Enters Try.prog 34 := enters Try.func34 (by kernel_rfl) rfl
theorem rounds_1 {N : Nat} (hn : 2 ≤ N ∧ N ≤ 20) (w : World) : Rets Try.prog 33 #[.int .i64 N, .int .i64 1] w fun u w' => u = .tuple #[.int .i64 (RB.rndsN N), .int .i64 0] ∧ Below w.heap.size w w' := by
  refine (RB.robin_Rounds.calls N 1 (RB.rndsN N) 0 w ?_).mono (by rintro e w' ⟨rfl, hb⟩; exact ⟨_, rfl, rfl, hb⟩)
  unfold RB.robin_Rounds.f
  rw [RB.robin_of.val]
  simp only [Option.bind_some]
  rw [decide_eq_true (by omega), if_pos rfl, if_pos trivial, Int.tmod_eq_emod_of_nonneg (by omega), w64 (x := (N : Int) - 1) (by omega), w64 (by omega)]
  congr 2
  unfold RB.rndsN; omega
def planV (n0 k0 : Int) (A1 : Option Addr) (c1 : Nat) (l1 : List Int) (A2 : Option Addr) (c2 : Nat) (l2 : List Int) (A3 : Option Addr) (c3 : Nat) (l3 : List Bool) : Array Value := #[.int .u8 n0, .int .u8 k0, .slice A1 l1.length c1, .slice A2 l2.length c2, .slice A3 l3.length c3]

theorem C_boolv {w : World} {A : Option Addr} {n : Nat} {xs : List Bool} (h : Kd.C Kd.bool w A n xs) (k : Nat) (hk : k < n) : ∃ ad, A = some ad ∧ w.cell? (ad.add k) = some (.bool (xs.getD k false)) := by
  obtain ⟨ad, c, hA, _, hK, hc⟩ := Kd.C_get h false (k : Int) (by omega) (by omega)
  rw [Int.toNat_natCast] at hK hc
  obtain rfl : c = [Value.bool (xs.getD k false)] := hK
  refine ⟨ad, hA, ?_⟩
  have := hc 0 _ rfl
  rw [show Kd.bool.sz = 1 from rfl, Nat.mul_one, Nat.add_zero] at this
  exact this
theorem e44_len : ∀ x : S44, (enc44 x).length = 3 := fun _ => rfl
theorem meets_get {l : List S44} {junk : List Value} {j : Nat} {u : Value} (o : Nat) (ho : o ≤ l.length) (h : ((l.drop o).flatMap enc44)[j]? = some u) : (buf enc44 l junk)[o * 3 + j]? = some u := by
  have e : ((l.take o).flatMap enc44).length = o * 3 := by rw [len_flat e44_len, List.length_take, Nat.min_eq_left ho]
  have e2 : l.flatMap enc44 = (l.take o).flatMap enc44 ++ (l.drop o).flatMap enc44 := by rw [← List.flatMap_append, List.take_append_drop]
  unfold buf
  rw [List.getElem?_toArray, List.getElem?_append_left, e2, List.getElem?_append_right (by omega), e, Nat.add_sub_cancel_left]
  · exact h
  · rw [e2, List.length_append, e]
    have := (List.getElem?_eq_some_iff.1 h).1
    omega
theorem meets_take {l : List S44} {junk : List Value} {j k : Nat} {u : Value} (h : ((l.take k).flatMap enc44)[j]? = some u) : (buf enc44 l junk)[0 + j]? = some u := by
  have e2 : l.flatMap enc44 = (l.take k).flatMap enc44 ++ (l.drop k).flatMap enc44 := by rw [← List.flatMap_append, List.take_append_drop]
  have := (List.getElem?_eq_some_iff.1 h).1
  unfold buf
  rw [Nat.zero_add, List.getElem?_toArray, List.getElem?_append_left, e2, List.getElem?_append_left this]
  · exact h
  · rw [e2, List.length_append]; omega
theorem lies_row {base w : World} {R : List Res} {b c : Nat} {l : List S44} (hw : Mem base w R) (hm : Res.row 44 3 enc44 (some b) c l ∈ R) : Lies w (some ⟨b, 0, none⟩) (l.flatMap enc44) := by
  obtain ⟨_, _, _, junk, hh, _⟩ := (hw.ok _ hm : RowOk 44 3 enc44 (some b) c l w)
  exact Lies.obj hh fun j u hu => meets_take (k := l.length) (by rw [List.take_length]; exact hu)
theorem cut_at3 (b l m : Nat) (h : m ≠ l) : cutA (some ⟨b, 0, none⟩) l m 3 = some ⟨b, l * 3, none⟩ := by
  unfold cutA; rw [if_neg h]
  show some ((⟨b, 0, none⟩ : Addr).add (l * 3)) = _
  rw [XW.add_plain]; simp
section
variable {F : Fence} {P : Program} {n : Nat} {ρ : Nat → Value} {ds : List Deferred} {base : World} {R : List Res}
theorem res_run4 {fn : Func} {r s t q : Tmp} {w : World} (hr : fn.results = #[.tmp r, .tmp s, .tmp t, .tmp q]) (h1 : r < n) (h2 : s < n) (h3 : t < n) (h4 : q < n) : (results fn (fr n ρ ds).tmps).run P w = .ok (.tuple #[ρ r, ρ s, ρ t, ρ q]) w := by
  have e1 : (fr n ρ ds).tmps[r]?.getD undef = ρ r := by rw [fr_get h1]; rfl
  have e2 : (fr n ρ ds).tmps[s]?.getD undef = ρ s := by rw [fr_get h2]; rfl
  have e3 : (fr n ρ ds).tmps[t]?.getD undef = ρ t := by rw [fr_get h3]; rfl
  have e4 : (fr n ρ ds).tmps[q]?.getD undef = ρ q := by rw [fr_get h4]; rfl
  simp [results, hr, Array.getD_eq_getD_getElem?, Sem.run_bind, Result.andThen, e1, e2, e3, e4]
theorem At_ret4 {fn : Func} {Rp : Ending → World → Prop} {r s t q : Tmp} (hr : fn.results = #[.tmp r, .tmp s, .tmp t, .tmp q]) (h1 : r < n) (h2 : s < n) (h3 : t < n) (h4 : q < n) (hR : At base R (Rp (.returned (.tuple #[ρ r, ρ s, ρ t, ρ q])))) : At base R (Body F P n fn Rp .ret ρ []) :=
  At_end [] R rfl (by simp) (fun W hW => res_run4 hr h1 h2 h3 h4) hR
end
theorem C44_of_row {base w : World} {R : List Res} {A : Option Nat} {c : Nat} {xs : List S44} (hw : Mem base w R) (hm : Res.row 44 3 enc44 A c xs ∈ R) : Kd.C k44 w (A.map fun b => ⟨b, 0, none⟩) xs.length xs := (Kd.R_reads' (RB.R_row44 hw hm)).2.2
def v6F (bo len co : Nat) : Option (Nat × Nat) → Value
  | none => .slice (some ⟨bo, 0, none⟩) len co
  | some (b, c) => .slice (some ⟨b, 0, none⟩) len c
def t6F (xs : List S44) : Option (Nat × Nat) → List Res
  | none => []
  | some (b, c) => [.row 44 3 enc44 (some b) c xs]

set_option maxHeartbeats 8000000 in
theorem made_rets {base : World} (n0 k0 : Int) (A1 : Option Addr) (c1 : Nat) (l1 : List Int) (A2 : Option Addr) (c2 : Nat) (l2 : List Int) (A3 : Option Addr) (c3 : Nat) (l3 : List Bool) (N : Nat) (kind : Int) (h0 : 0 ≤ n0 ∧ n0 ≤ 255) (h1 : 0 ≤ k0 ∧ k0 ≤ 255) (hN : (N : Int) = 2 + n0 % 11) (hk : kind = 1 + k0 % 3)
    (hr1 : Kd.C (Kd.int .u8) base A1 l1.length l1) (hc1 : l1.length ≤ c1) (hl1 : ∀ x ∈ l1, 0 ≤ x ∧ x ≤ 255) (hr2 : Kd.C (Kd.int .u8) base A2 l2.length l2) (hc2 : l2.length ≤ c2) (hl2 : ∀ x ∈ l2, 0 ≤ x ∧ x ≤ 255) (hr3 : Kd.C Kd.bool base A3 l3.length l3) (hc3 : l3.length ≤ c3) :
    Rets Try.prog 23 #[.agg (planV n0 k0 A1 c1 l1 A2 c2 l2 A3 c3 l3)] base fun u w' => ∃ Rs, (∃ A c m, u = .tuple #[.int .i64 N, .int .i64 kind, rowV A m.length c, .bool true] ∧ RB.RR N (RB.rndsN N) kind m ∧ m.length ≤ 1000 ∧ Rs = [.row 44 3 enc44 A c m]) ∧ Mem base w' Rs := by
  have hF := wide_wide
  have hmx1 := hr1.2.1
  have hmx2 := hr2.2.1
  have hmx3 := hr3.2.1
  have hn : 2 ≤ N ∧ N ≤ 12 := by omega
  have hkk : 1 ≤ kind ∧ kind ≤ 3 := by omega
  refine rets_at (n := 289) Try.func23 rfl Try.ntmps23 (by simp) ?_
  unfold planV
  ((repeat (first | ((with_reducible refine is_AL ?_); (first | ((with_reducible refine is_assign ?_); (refine At_plain hF (by (first | exact (rfl : _ = some (Value.int _ _)) | exact (rfl : _ = some (Value.bool _)) | exact (rfl : _ = some (Value.slice _ _ _)))) ?_)) | with_reducible refine At_nil ?_)) | ((with_reducible refine is_At ?_); (first | with_reducible refine At_seq ?_; intro K hK | with_reducible refine At_region ?_ | with_reducible refine At_then_n ?_ | with_reducible refine At_go (by assumption) ?_)))); ((with_reducible refine is_box ?_); (refine At_boxA hF rfl ?_; intro b1)); (repeat (first | ((with_reducible refine is_AL ?_); (first | ((with_reducible refine is_assign ?_); (refine At_plain hF (by (first | exact (rfl : _ = some (Value.int _ _)) | exact (rfl : _ = some (Value.bool _)) | exact (rfl : _ = some (Value.slice _ _ _)))) ?_)) | with_reducible refine At_nil ?_)) | ((with_reducible refine is_At ?_); (first | with_reducible refine At_seq ?_; intro K hK | with_reducible refine At_region ?_ | with_reducible refine At_then_n ?_ | with_reducible refine At_go (by assumption) ?_)))))
  refine At_merge [(1, .pointer (some ⟨b1, 0, none⟩)), (2, .int .i64 N), (3, .int .i64 kind)] [.obj b1 (.cells #[.int .u8 n0, .int .u8 k0, .slice A1 l1.length c1, .slice A2 l2.length c2, .slice A3 l3.length c3] 50 (0, 0))] ?_ ?_
  · intro K' hK'
    have hwn : IntKind.i64.wrap n0 = n0 := wrap64_ino (by omega) (by omega)
    obtain ⟨kq, hkq⟩ : ∃ kq : Nat, k0 % 3 = kq := ⟨(k0 % 3).toNat, by omega⟩
    have hk3 : kq < 3 := by omega
    have hkt : Int.tmod k0 3 = kq := by rw [Int.tmod_eq_emod_of_nonneg (by omega)]; exact hkq
    have hld : (buf (sc fun x : Int => Value.int .i64 x) [1, 2, 3] [])[kq]? = some (.int .i64 kind) := by
      have : kq = 0 ∨ kq = 1 ∨ kq = 2 := by omega
      rcases this with rfl | rfl | rfl <;> (rw [hkq] at hk; subst hk; rfl)
    have hN' : 2 + n0 % 11 = (N : Int) := hN.symm
    refine At_drawF hF 12 [0, 1, 2, 3, 4, 6, 7, 8] [] [5, 9, 10, 11] (.obj b1 (.cells #[.int .u8 n0, .int .u8 k0, .slice A1 l1.length c1, .slice A2 l2.length c2, .slice A3 l3.length c3] 50 (0, 0)) :: []) (by kernel_rfl) (by decide +kernel) (by decide +kernel) ?_; simp only [List.drop_succ_cons, List.drop_zero]; (repeat ((with_reducible refine is_AQF ?_); first | refine AQF_early (by decide) (by exact (rfl : _ = some (Oper.mk _ _ _ _ _ _))) (by intro K Q hK; (repeat (first | ((with_reducible refine is_field ?_); (refine At_field hF rfl ?_)) | ((with_reducible refine is_load ?_); (refine At_load hF 0 (by exact rfl) rfl (by (exact (rfl : _ = some (Value.int _ _)))) ?_)))); exact At_nilK hK) ?_ | refine AQF_late (by decide) (by exact (rfl : _ = some (Oper.mk _ _ _ _ _ _))) (by intro E K Q hK; simp only [List.cons_append, List.nil_append] at hK ⊢; (repeat (first | ((with_reducible refine is_field ?_); (refine At_field hF rfl ?_)) | ((with_reducible refine is_load ?_); (refine At_load hF 0 (by exact rfl) rfl (by (exact (rfl : _ = some (Value.int _ _)))) ?_)))); exact At_nilK hK) ?_))
    refine AQF_late (by decide) (by exact (rfl : _ = some (Oper.mk _ _ _ _ _ _))) (by intro E K Q hK; simp only [List.cons_append, List.nil_append] at hK ⊢; refine At_conv hF Try.underlying5 Try.underlying3 (by exact rfl) ?_; exact At_nilK hK) ?_
    rw [hwn]
    (repeat ((with_reducible refine is_AQF ?_); first | refine AQF_early (by decide) (by exact (rfl : _ = some (Oper.mk _ _ _ _ _ _))) (by intro K Q hK; (repeat (first | ((with_reducible refine is_bin ?_); (first | ((with_reducible refine is_badd ?_); (refine At_add hF rfl rfl (by omega) ?_)) | ((with_reducible refine is_brem ?_); (refine At_rem hF rfl rfl (by omega) ?_)) | refine At_plain hF (by (exact (rfl : _ = some (Value.int _ _)))) ?_)) | ((with_reducible refine is_field ?_); (refine At_field hF rfl ?_)) | ((with_reducible refine is_load ?_); (refine At_load hF 0 (by exact rfl) rfl (by (exact (rfl : _ = some (Value.int _ _)))) ?_)))); exact At_nilK hK) ?_ | refine AQF_late (by decide) (by exact (rfl : _ = some (Oper.mk _ _ _ _ _ _))) (by intro E K Q hK; simp only [List.cons_append, List.nil_append] at hK ⊢; (repeat (first | ((with_reducible refine is_bin ?_); (first | ((with_reducible refine is_badd ?_); (refine At_add hF rfl rfl (by omega) ?_)) | ((with_reducible refine is_brem ?_); (refine At_rem hF rfl rfl (by omega) ?_)) | refine At_plain hF (by (exact (rfl : _ = some (Value.int _ _)))) ?_)) | ((with_reducible refine is_field ?_); (refine At_field hF rfl ?_)) | ((with_reducible refine is_load ?_); (refine At_load hF 0 (by exact rfl) rfl (by (exact (rfl : _ = some (Value.int _ _)))) ?_)))); exact At_nilK hK) ?_))
    rw [hkt]
    refine AQF_doneF ?_
    refine FAt_step (l := [5, 11]) (by (repeat (first | exact List.Sublist.refl _ | exact List.Sublist.slnil | refine List.Sublist.cons_cons _ ?_ | refine List.Sublist.cons _ ?_))) (by decide +kernel) ?_
    refine AT_all ?_ ?_
    · refine FAt_op (by exact (rfl : _ = some (Oper.mk _ _ _ _ _ _))) ?_
      intro K Q' hK
      (refine At_slice1G hF (fun x : Int => Value.int .i64 x) [1, 2, 3] (by decide) (fun _ => rfl) rfl (by decide) (by exact rfl) ?_; intro bq)
      refine At_nilK (hK _ _ ?_)
      refine FAt_step (l := [9, 11]) (by (repeat (first | exact List.Sublist.refl _ | exact List.Sublist.slnil | refine List.Sublist.cons_cons _ ?_ | refine List.Sublist.cons _ ?_))) (by decide +kernel) ?_
      refine AT_all ?_ ?_
      · refine FAt_op (by exact (rfl : _ = some (Oper.mk _ _ _ _ _ _))) ?_
        intro K Q' hK
        (repeat ((with_reducible refine is_index ?_); (refine At_indexS1 hF rfl rfl rfl (by omega) ?_)))
        refine At_nilK (hK _ _ ?_)
        refine FAt_step (l := [10, 11]) (by (repeat (first | exact List.Sublist.refl _ | exact List.Sublist.slnil | refine List.Sublist.cons_cons _ ?_ | refine List.Sublist.cons _ ?_))) (by decide +kernel) ?_
        refine AT_all ?_ ?_
        · refine FAt_op (by exact (rfl : _ = some (Oper.mk _ _ _ _ _ _))) ?_
          intro K Q' hK
          (refine At_load hF 0 (by exact rfl) rfl (by exact hld) ?_)
          refine At_nilK (hK _ _ ?_)
          refine FAt_step (l := [11]) (by (repeat (first | exact List.Sublist.refl _ | exact List.Sublist.slnil | refine List.Sublist.cons_cons _ ?_ | refine List.Sublist.cons _ ?_))) (by decide +kernel) ?_
          refine AT_all1 ?_
          · refine FAt_op (by exact (rfl : _ = some (Oper.mk _ _ _ _ _ _))) ?_
            intro K Q' hK
            (repeat ((with_reducible refine is_assign ?_); (refine At_plain hF (by (exact (rfl : _ = some (Value.int _ _)))) ?_)))
            refine At_nilK (hK _ _ ?_)
            refine FAt_done (by (repeat (first | exact List.Sublist.refl _ | exact List.Sublist.slnil | refine List.Sublist.cons_cons _ ?_ | refine List.Sublist.cons _ ?_))) (by decide +kernel) ?_
            (repeat (first | ((with_reducible refine is_AL ?_); (first | ((with_reducible refine is_assign ?_); (refine At_plain hF (by (exact (rfl : _ = some (Value.int _ _)))) ?_)) | with_reducible refine At_nil ?_)) | ((with_reducible refine is_At ?_); (with_reducible refine At_then_n ?_))))
            rw [hN']
            refine At.sub ?_ (hK' _ ?_)
            focus (repeat (first | exact List.Sublist.refl _ | exact List.Sublist.slnil | refine List.Sublist.cons_cons _ ?_ | refine List.Sublist.cons _ ?_))
            (repeat (first | exact True.intro | (refine And.intro ?_ ?_; focus (show _ = (_ : Value); first | exact rfl | (refine Eq.trans (b := Value.int IntKind.i64 _) rfl (congrArg (Value.int IntKind.i64) ?_); omega)))))
        refine AT_all1 ?_
        · refine FAt_op (by exact (rfl : _ = some (Oper.mk _ _ _ _ _ _))) ?_
          intro K Q' hK
          (repeat ((with_reducible refine is_assign ?_); (refine At_plain hF (by (exact (rfl : _ = some (Value.int _ _)))) ?_)))
          refine At_nilK (hK _ _ ?_)
          refine FAt_step (l := [10]) (by (repeat (first | exact List.Sublist.refl _ | exact List.Sublist.slnil | refine List.Sublist.cons_cons _ ?_ | refine List.Sublist.cons _ ?_))) (by decide +kernel) ?_
          refine AT_all1 ?_
          · refine FAt_op (by exact (rfl : _ = some (Oper.mk _ _ _ _ _ _))) ?_
            intro K Q' hK
            (refine At_load hF 0 (by exact rfl) rfl (by exact hld) ?_)
            refine At_nilK (hK _ _ ?_)
            refine FAt_done (by (repeat (first | exact List.Sublist.refl _ | exact List.Sublist.slnil | refine List.Sublist.cons_cons _ ?_ | refine List.Sublist.cons _ ?_))) (by decide +kernel) ?_
            (repeat (first | ((with_reducible refine is_AL ?_); (first | ((with_reducible refine is_assign ?_); (refine At_plain hF (by (exact (rfl : _ = some (Value.int _ _)))) ?_)) | with_reducible refine At_nil ?_)) | ((with_reducible refine is_At ?_); (with_reducible refine At_then_n ?_))))
            rw [hN']
            refine At.sub ?_ (hK' _ ?_)
            focus (repeat (first | exact List.Sublist.refl _ | exact List.Sublist.slnil | refine List.Sublist.cons_cons _ ?_ | refine List.Sublist.cons _ ?_))
            (repeat (first | exact True.intro | (refine And.intro ?_ ?_; focus (show _ = (_ : Value); first | exact rfl | (refine Eq.trans (b := Value.int IntKind.i64 _) rfl (congrArg (Value.int IntKind.i64) ?_); omega)))))
      refine AT_all1 ?_
      · refine FAt_op (by exact (rfl : _ = some (Oper.mk _ _ _ _ _ _))) ?_
        intro K Q' hK
        (repeat ((with_reducible refine is_assign ?_); (refine At_plain hF (by (exact (rfl : _ = some (Value.int _ _)))) ?_)))
        refine At_nilK (hK _ _ ?_)
        refine FAt_step (l := [9]) (by (repeat (first | exact List.Sublist.refl _ | exact List.Sublist.slnil | refine List.Sublist.cons_cons _ ?_ | refine List.Sublist.cons _ ?_))) (by decide +kernel) ?_
        refine AT_all1 ?_
        · refine FAt_op (by exact (rfl : _ = some (Oper.mk _ _ _ _ _ _))) ?_
          intro K Q' hK
          (repeat ((with_reducible refine is_index ?_); (refine At_indexS1 hF rfl rfl rfl (by omega) ?_)))
          refine At_nilK (hK _ _ ?_)
          refine FAt_step (l := [10]) (by (repeat (first | exact List.Sublist.refl _ | exact List.Sublist.slnil | refine List.Sublist.cons_cons _ ?_ | refine List.Sublist.cons _ ?_))) (by decide +kernel) ?_
          refine AT_all1 ?_
          · refine FAt_op (by exact (rfl : _ = some (Oper.mk _ _ _ _ _ _))) ?_
            intro K Q' hK
            (refine At_load hF 0 (by exact rfl) rfl (by exact hld) ?_)
            refine At_nilK (hK _ _ ?_)
            refine FAt_done (by (repeat (first | exact List.Sublist.refl _ | exact List.Sublist.slnil | refine List.Sublist.cons_cons _ ?_ | refine List.Sublist.cons _ ?_))) (by decide +kernel) ?_
            (repeat (first | ((with_reducible refine is_AL ?_); (first | ((with_reducible refine is_assign ?_); (refine At_plain hF (by (exact (rfl : _ = some (Value.int _ _)))) ?_)) | with_reducible refine At_nil ?_)) | ((with_reducible refine is_At ?_); (with_reducible refine At_then_n ?_))))
            rw [hN']
            refine At.sub ?_ (hK' _ ?_)
            focus (repeat (first | exact List.Sublist.refl _ | exact List.Sublist.slnil | refine List.Sublist.cons_cons _ ?_ | refine List.Sublist.cons _ ?_))
            (repeat (first | exact True.intro | (refine And.intro ?_ ?_; focus (show _ = (_ : Value); first | exact rfl | (refine Eq.trans (b := Value.int IntKind.i64 _) rfl (congrArg (Value.int IntKind.i64) ?_); omega)))))
    refine AT_all1 ?_
    · refine FAt_op (by exact (rfl : _ = some (Oper.mk _ _ _ _ _ _))) ?_
      intro K Q' hK
      (repeat ((with_reducible refine is_assign ?_); (refine At_plain hF (by (exact (rfl : _ = some (Value.int _ _)))) ?_)))
      refine At_nilK (hK _ _ ?_)
      refine FAt_step (l := [5]) (by (repeat (first | exact List.Sublist.refl _ | exact List.Sublist.slnil | refine List.Sublist.cons_cons _ ?_ | refine List.Sublist.cons _ ?_))) (by decide +kernel) ?_
      refine AT_all1 ?_
      · refine FAt_op (by exact (rfl : _ = some (Oper.mk _ _ _ _ _ _))) ?_
        intro K Q' hK
        (refine At_slice1G hF (fun x : Int => Value.int .i64 x) [1, 2, 3] (by decide) (fun _ => rfl) rfl (by decide) (by exact rfl) ?_; intro bq)
        refine At_nilK (hK _ _ ?_)
        refine FAt_step (l := [9]) (by (repeat (first | exact List.Sublist.refl _ | exact List.Sublist.slnil | refine List.Sublist.cons_cons _ ?_ | refine List.Sublist.cons _ ?_))) (by decide +kernel) ?_
        refine AT_all1 ?_
        · refine FAt_op (by exact (rfl : _ = some (Oper.mk _ _ _ _ _ _))) ?_
          intro K Q' hK
          (repeat ((with_reducible refine is_index ?_); (refine At_indexS1 hF rfl rfl rfl (by omega) ?_)))
          refine At_nilK (hK _ _ ?_)
          refine FAt_step (l := [10]) (by (repeat (first | exact List.Sublist.refl _ | exact List.Sublist.slnil | refine List.Sublist.cons_cons _ ?_ | refine List.Sublist.cons _ ?_))) (by decide +kernel) ?_
          refine AT_all1 ?_
          · refine FAt_op (by exact (rfl : _ = some (Oper.mk _ _ _ _ _ _))) ?_
            intro K Q' hK
            (refine At_load hF 0 (by exact rfl) rfl (by exact hld) ?_)
            refine At_nilK (hK _ _ ?_)
            refine FAt_done (by (repeat (first | exact List.Sublist.refl _ | exact List.Sublist.slnil | refine List.Sublist.cons_cons _ ?_ | refine List.Sublist.cons _ ?_))) (by decide +kernel) ?_
            (repeat (first | ((with_reducible refine is_AL ?_); (first | ((with_reducible refine is_assign ?_); (refine At_plain hF (by (exact (rfl : _ = some (Value.int _ _)))) ?_)) | with_reducible refine At_nil ?_)) | ((with_reducible refine is_At ?_); (with_reducible refine At_then_n ?_))))
            rw [hN']
            refine At.sub ?_ (hK' _ ?_)
            focus (repeat (first | exact List.Sublist.refl _ | exact List.Sublist.slnil | refine List.Sublist.cons_cons _ ?_ | refine List.Sublist.cons _ ?_))
            (repeat (first | exact True.intro | (refine And.intro ?_ ?_; focus (show _ = (_ : Value); first | exact rfl | (refine Eq.trans (b := Value.int IntKind.i64 _) rfl (congrArg (Value.int IntKind.i64) ?_); omega)))))
  intro ρ0
  try dsimp only
  have hn20 : 2 ≤ N ∧ N ≤ 20 := by omega
  obtain ⟨hRR, hol⟩ := RB.rr_mk (n := N) (kind := kind) hn20 hkk
  (repeat (first | ((with_reducible refine is_AL ?_); ((with_reducible refine is_move ?_); (refine At_plain hF (by (exact (rfl : _ = some (Value.int _ _)))) ?_))) | ((with_reducible refine is_At ?_); (first | with_reducible refine At_seq ?_; intro K hK | with_reducible refine At_region ?_ | with_reducible refine At_go (by assumption) ?_))))
  refine At_callM (Post := fun u Rs => ∃ A' c', u = .tuple #[rowV A' (RB.mkM N kind).length c', .int .i64 0] ∧ Rs = [Res.row 44 3 enc44 A' c' (RB.mkM N kind)]) hF E32m rfl (arg2 (by (first | exact (rfl : _ = (Value.int _ _)) | exact (rfl : _ = (Value.bool _)) | exact (rfl : _ = (Value.pointer _)) | exact (rfl : _ = (Value.slice _ _ _)) | exact (rfl : _ = (Value.map _)) | exact (rfl : _ = (Value.func _ _ _)) | exact (rfl : _ = (Value.tuple _)) | exact (rfl : _ = (Value.agg _)) | exact (rfl : _ = (Value.string _)) | exact (rfl : _ = (Value.nilFunc)) | exact (rfl : _ = (Value.nilIface)))) (by (first | exact (rfl : _ = (Value.int _ _)) | exact (rfl : _ = (Value.bool _)) | exact (rfl : _ = (Value.pointer _)) | exact (rfl : _ = (Value.slice _ _ _)) | exact (rfl : _ = (Value.map _)) | exact (rfl : _ = (Value.func _ _ _)) | exact (rfl : _ = (Value.tuple _)) | exact (rfl : _ = (Value.agg _)) | exact (rfl : _ = (Value.string _)) | exact (rfl : _ = (Value.nilFunc)) | exact (rfl : _ = (Value.nilIface))))) (fun w' hw' => (RB.mkM_rets w' N kind hn20 hkk).mono (by rintro e w'' ⟨u, rfl, A', c', rfl, h⟩; exact ⟨_, rfl, _, ⟨A', c', rfl, rfl⟩, h⟩)) ?_
  rintro u Rs ⟨Ao, co, rfl, rfl⟩
  simp only [List.cons_append, List.nil_append]
  generalize RB.mkM N kind = own at *
  have hQ := rr_Q hn hkk hRR
  have hlen := RB.rr_len hQ.2.1 hkk hRR
  have hxx := fun x (hx : x ∈ own) => rr_x hn hkk hRR hx
  have ho1 : 1 ≤ own.length := by
    have h2 := allPr_len N
    have h3 : 1 ≤ N * (N - 1) / 2 := by
      have : 2 * 1 ≤ N * (N - 1) := Nat.mul_le_mul hn.1 (by omega)
      omega
    split at hlen <;> omega
  (repeat (first | ((with_reducible refine is_AL ?_); (first | ((with_reducible refine is_move ?_); (refine At_plain hF (by (first | exact (rfl : _ = some (Value.int _ _)) | exact (rfl : _ = some (Value.tuple _)))) ?_)) | ((with_reducible refine is_assign ?_); (refine At_plain hF (by (first | exact (rfl : _ = some (Value.int _ _)) | exact (rfl : _ = some (Value.slice _ _ _)))) ?_)) | ((with_reducible refine is_extract ?_); (refine At_plain hF (by (first | exact (rfl : _ = some (Value.int _ _)) | exact (rfl : _ = some (Value.slice _ _ _)))) ?_)) | with_reducible refine At_nil ?_)) | ((with_reducible refine is_At ?_); (first | with_reducible refine At_seq ?_; intro K hK | with_reducible refine At_region ?_ | with_reducible refine At_then_n ?_ | with_reducible refine At_go (by assumption) ?_))))
  refine At_callB hF E33m rfl (arg2 (by (first | exact (rfl : _ = (Value.int _ _)) | exact (rfl : _ = (Value.bool _)) | exact (rfl : _ = (Value.pointer _)) | exact (rfl : _ = (Value.slice _ _ _)) | exact (rfl : _ = (Value.map _)) | exact (rfl : _ = (Value.func _ _ _)) | exact (rfl : _ = (Value.tuple _)) | exact (rfl : _ = (Value.agg _)) | exact (rfl : _ = (Value.string _)) | exact (rfl : _ = (Value.nilFunc)) | exact (rfl : _ = (Value.nilIface)))) (by (first | exact (rfl : _ = (Value.int _ _)) | exact (rfl : _ = (Value.bool _)) | exact (rfl : _ = (Value.pointer _)) | exact (rfl : _ = (Value.slice _ _ _)) | exact (rfl : _ = (Value.map _)) | exact (rfl : _ = (Value.func _ _ _)) | exact (rfl : _ = (Value.tuple _)) | exact (rfl : _ = (Value.agg _)) | exact (rfl : _ = (Value.string _)) | exact (rfl : _ = (Value.nilFunc)) | exact (rfl : _ = (Value.nilIface))))) (fun w' hw' => rounds_1 hn20 w') ?_
  (repeat (first | ((with_reducible refine is_AL ?_); (first | ((with_reducible refine is_guarded ?_); (refine At_guard_t rfl (by decide) rfl ?_)) | ((with_reducible refine is_move ?_); (refine At_plain hF (by (first | exact (rfl : _ = some (Value.int _ _)) | exact (rfl : _ = some (Value.bool _)) | exact (rfl : _ = some (Value.tuple _)))) ?_)) | ((with_reducible refine is_bin ?_); (refine At_plain hF (by (exact (rfl : _ = some (Value.bool _)))) ?_)) | ((with_reducible refine is_assign ?_); (refine At_plain hF (by (exact (rfl : _ = some (Value.int _ _)))) ?_)) | ((with_reducible refine is_pick ?_); (refine At_plain hF (by (exact (rfl : _ = some (Value.bool _)))) ?_)) | ((with_reducible refine is_extract ?_); (refine At_plain hF (by (exact (rfl : _ = some (Value.int _ _)))) ?_)) | with_reducible refine At_nil ?_)) | ((with_reducible refine is_At ?_); (first | with_reducible refine At_seq ?_; intro K hK | with_reducible refine At_region ?_ | with_reducible refine At_then_n ?_ | with_reducible refine At_go (by assumption) ?_))))
  generalize hR : RB.rndsN N = R at *
  have hR20 : 1 ≤ R ∧ R ≤ 11 := hQ.2
  have hQ2 : RB.rndsQ R kind ≤ 2 * R := by unfold RB.rndsQ; split <;> omega
  (repeat' (first | ((with_reducible refine is_AL ?_); (first | ((with_reducible refine is_guarded ?_); (refine At_guard_t rfl (by decide) rfl ?_)) | ((with_reducible refine is_move ?_); (refine At_plain hF (by (exact (rfl : _ = some (Value.int _ _)))) ?_)) | ((with_reducible refine is_bin ?_); (refine At_plain hF (by (exact (rfl : _ = some (Value.bool _)))) ?_)) | ((with_reducible refine is_pick ?_); (refine At_plain hF (by (exact (rfl : _ = some (Value.bool _)))) ?_)) | with_reducible refine At_nil ?_)) | ((with_reducible refine is_At ?_); (first | with_reducible refine At_seq ?_; intro K hK | with_reducible refine At_skip ?_ | with_reducible refine At_then_n ?_ | with_reducible refine At_go (by assumption) ?_)) | (first | ((with_reducible refine is_guarded ?_); (refine At_guard hF rfl (by decide) rfl ?_ ?_ <;> (intro hg; try (simp only [decide_eq_true_eq, decide_eq_false_iff_not, beq_iff_eq, bne_iff_ne, beq_eq_false_iff_ne, bne_eq_false_iff_eq, ne_eq, Bool.not_eq_true', Bool.not_eq_false', Bool.not_true, Bool.not_false, Decidable.not_not] at hg); try (exfalso; first | omega | exact hg True.intro)))) | ((with_reducible refine is_cond ?_); (refine At_cond rfl ?_ ?_ <;> (intro hg; try (simp only [decide_eq_true_eq, decide_eq_false_iff_not, beq_iff_eq, bne_iff_ne, beq_eq_false_iff_ne, bne_eq_false_iff_eq, ne_eq, Bool.not_eq_true', Bool.not_eq_false', Bool.not_true, Bool.not_false, Decidable.not_not] at hg); try (exfalso; first | omega | exact hg True.intro)))))))
  refine At_drawE hF 8 [0, 1, 2, 4, 5, 6] [] [3, 7] (.row 44 3 enc44 Ao co own :: .obj b1 (.cells #[.int .u8 n0, .int .u8 k0, .slice A1 l1.length c1, .slice A2 l2.length c2, .slice A3 l3.length c3] 50 (0, 0)) :: []) (by kernel_rfl) (by decide +kernel) (by decide +kernel) ?_; simp only [List.drop_succ_cons, List.drop_zero]; (repeat ((with_reducible refine is_AQF ?_); first | refine AQF_early (by decide) (by exact (rfl : _ = some (Oper.mk _ _ _ _ _ _))) (by intro K Q hK; (repeat (first | ((with_reducible refine is_move ?_); (refine At_plain hF (by (exact (rfl : _ = some (Value.int _ _)))) ?_)) | ((with_reducible refine is_field ?_); (refine At_field hF rfl ?_)) | ((with_reducible refine is_load ?_); (refine At_load hF 1 (by exact rfl) rfl (by (exact (rfl : _ = some (Value.slice _ _ _)))) ?_)))); exact At_nilK hK) ?_ | refine AQF_late (by decide) (by exact (rfl : _ = some (Oper.mk _ _ _ _ _ _))) (by intro E K Q hK; simp only [List.cons_append, List.nil_append] at hK ⊢; (repeat (first | ((with_reducible refine is_move ?_); (refine At_plain hF (by (exact (rfl : _ = some (Value.int _ _)))) ?_)) | ((with_reducible refine is_field ?_); (refine At_field hF rfl ?_)) | ((with_reducible refine is_load ?_); (refine At_load hF 1 (by exact rfl) rfl (by (exact (rfl : _ = some (Value.slice _ _ _)))) ?_)))); exact At_nilK hK) ?_))
  refine AQF_done ?_
  (refine WAt_cons ?_ (by exact (rfl : _ = some (Oper.mk _ _ _ _ _ _))) ?_; (focus (repeat (first | exact List.Sublist.refl _ | exact List.Sublist.slnil | refine List.Sublist.cons_cons _ ?_ | refine List.Sublist.cons _ ?_))); intro K Q hK)
  refine At_callM (Post := fun u Rs => ∃ A' c', u = rowV A' N c' ∧ Rs = [Res.row 3 1 (sc (Value.int .i64)) A' c' (ordF N l1)]) hF E22m rfl (arg2 (by (first | exact (rfl : _ = (Value.int _ _)) | exact (rfl : _ = (Value.bool _)) | exact (rfl : _ = (Value.pointer _)) | exact (rfl : _ = (Value.slice _ _ _)) | exact (rfl : _ = (Value.map _)) | exact (rfl : _ = (Value.func _ _ _)) | exact (rfl : _ = (Value.tuple _)) | exact (rfl : _ = (Value.agg _)) | exact (rfl : _ = (Value.string _)) | exact (rfl : _ = (Value.nilFunc)) | exact (rfl : _ = (Value.nilIface)))) (by (first | exact (rfl : _ = (Value.int _ _)) | exact (rfl : _ = (Value.bool _)) | exact (rfl : _ = (Value.pointer _)) | exact (rfl : _ = (Value.slice _ _ _)) | exact (rfl : _ = (Value.map _)) | exact (rfl : _ = (Value.func _ _ _)) | exact (rfl : _ = (Value.tuple _)) | exact (rfl : _ = (Value.agg _)) | exact (rfl : _ = (Value.string _)) | exact (rfl : _ = (Value.nilFunc)) | exact (rfl : _ = (Value.nilIface))))) (fun w' hw' => (order_walk N (by omega) A1 c1 l1 (Kd.C_below hr1 hw'.below) hc1 hl1).mono (by rintro e w'' ⟨u, rfl, A', c', rfl, h⟩; exact ⟨_, rfl, _, ⟨A', c', rfl, rfl⟩, h⟩)) ?_
  rintro u Rs ⟨Ate, cte, rfl, rfl⟩
  simp only [List.cons_append, List.nil_append]
  refine At_nilK (hK _ _ ?_)
  (refine WAt_cons ?_ (by exact (rfl : _ = some (Oper.mk _ _ _ _ _ _))) ?_; (focus (repeat (first | exact List.Sublist.refl _ | exact List.Sublist.slnil | refine List.Sublist.cons_cons _ ?_ | refine List.Sublist.cons _ ?_))); intro K Q hK)
  refine At_callM (Post := fun u Rs => ∃ A' c', u = rowV A' R c' ∧ Rs = [Res.row 3 1 (sc (Value.int .i64)) A' c' (ordF R l2)]) hF E22m rfl (arg2 (by (first | exact (rfl : _ = (Value.int _ _)) | exact (rfl : _ = (Value.bool _)) | exact (rfl : _ = (Value.pointer _)) | exact (rfl : _ = (Value.slice _ _ _)) | exact (rfl : _ = (Value.map _)) | exact (rfl : _ = (Value.func _ _ _)) | exact (rfl : _ = (Value.tuple _)) | exact (rfl : _ = (Value.agg _)) | exact (rfl : _ = (Value.string _)) | exact (rfl : _ = (Value.nilFunc)) | exact (rfl : _ = (Value.nilIface)))) (by (first | exact (rfl : _ = (Value.int _ _)) | exact (rfl : _ = (Value.bool _)) | exact (rfl : _ = (Value.pointer _)) | exact (rfl : _ = (Value.slice _ _ _)) | exact (rfl : _ = (Value.map _)) | exact (rfl : _ = (Value.func _ _ _)) | exact (rfl : _ = (Value.tuple _)) | exact (rfl : _ = (Value.agg _)) | exact (rfl : _ = (Value.string _)) | exact (rfl : _ = (Value.nilFunc)) | exact (rfl : _ = (Value.nilIface))))) (fun w' hw' => (order_walk R (by omega) A2 c2 l2 (Kd.C_below hr2 hw'.below) hc2 hl2).mono (by rintro e w'' ⟨u, rfl, A', c', rfl, h⟩; exact ⟨_, rfl, _, ⟨A', c', rfl, rfl⟩, h⟩)) ?_
  rintro u Rs ⟨Atu, ctu, rfl, rfl⟩
  simp only [List.cons_append, List.nil_append]
  refine At_nilK (hK _ _ ?_)
  (refine WAt_nil ?_ ?_; (focus (repeat (first | exact List.Sublist.refl _ | exact List.Sublist.slnil | refine List.Sublist.cons_cons _ ?_ | refine List.Sublist.cons _ ?_))))
  have hte := ordF_perm N l1 hl1
  have htu := ordF_perm R l2 hl2
  have htel := ordF_len N l1 hl1
  have htul := ordF_len R l2 hl2
  generalize ordF N l1 = te at *
  generalize ordF R l2 = tu at *
  clear hr1 hc1 hl1 hr2 hc2 hl2
  (repeat (first | ((with_reducible refine is_AL ?_); (first | ((with_reducible refine is_move ?_); (refine At_plain hF (by (first | exact (rfl : _ = some (Value.int _ _)) | exact (rfl : _ = some (Value.slice _ _ _)))) ?_)) | ((with_reducible refine is_assign ?_); (refine At_plain hF (by (exact (rfl : _ = some (Value.slice _ _ _)))) ?_)) | ((with_reducible refine is_call ?_); (refine At_len hF rfl ?_)) | with_reducible refine At_nil ?_)) | ((with_reducible refine is_At ?_); (first | with_reducible refine At_seq ?_; intro K hK | with_reducible refine At_block ?_ | with_reducible refine At_region ?_ | with_reducible refine At_then_n ?_ | with_reducible refine At_go (by assumption) ?_))))
  refine At_open 0 rfl (by omega) ?_
  rintro bu ju rfl hu1 hu2 hu3
  refine At_open 1 rfl (by omega) ?_
  rintro bt jt rfl ht1 ht2 ht3
  refine At_open 2 rfl (by omega) ?_
  rintro bo jo rfl ho1' ho2 ho3
  simp only [List.set_cons_succ, List.set_cons_zero]
  refine At_loop (fun st : Nat × Option (Nat × Nat) => [(1, .pointer (some ⟨b1, 0, none⟩)), (2, .int .i64 N), (3, .int .i64 kind), (6, v6F bo own.length co st.2), (8, .int .i64 R), (10, .slice (some ⟨bt, 0, none⟩) N cte), (11, .slice (some ⟨bu, 0, none⟩) R ctu), (68, .slice (some ⟨bo, 0, none⟩) own.length co), (69, .int .i64 own.length), (70, .int .i64 st.1)])
    (fun st => .obj bu (.cells (buf (sc (Value.int .i64)) tu ju) 3) :: .obj bt (.cells (buf (sc (Value.int .i64)) te jt) 3) :: .obj bo (.cells (buf enc44 own jo) 44) :: .obj b1 (.cells #[.int .u8 n0, .int .u8 k0, .slice A1 l1.length c1, .slice A2 l2.length c2, .slice A3 l3.length c3] 50 (0, 0)) :: t6F (turnL (zF N R kind te tu l3) own st.1) st.2) (fun st => st.1 ≤ own.length ∧ (st.2 = none ↔ st.1 = 0)) (fun st => own.length - st.1) (0, none) ?_ ?_ ⟨Nat.zero_le _, by simp⟩ ?_
  · (repeat (first | exact List.Sublist.refl _ | exact List.Sublist.slnil | refine List.Sublist.cons_cons _ ?_ | refine List.Sublist.cons _ ?_))
  · (repeat (first | exact True.intro | (refine And.intro ?_ ?_; focus (show _ = (_ : Value); first | exact rfl | (refine Eq.trans (b := Value.int IntKind.i64 _) rfl (congrArg (Value.int IntKind.i64) ?_); omega)))))
  rintro ⟨i, s⟩ ⟨hi, hs⟩ K hL ρ1
  simp only at hi hs
  try dsimp only
  (repeat (first | ((with_reducible refine is_AL ?_); (first | ((with_reducible refine is_bin ?_); (refine At_plain hF (by (exact (rfl : _ = some (Value.bool _)))) ?_)) | with_reducible refine At_nil ?_)) | ((with_reducible refine is_At ?_); (first | with_reducible refine At_seq ?_; intro K hK | with_reducible refine At_region ?_ | with_reducible refine At_then_n ?_ | with_reducible refine At_go (by assumption) ?_))))
  ((with_reducible refine is_cond ?_); (refine At_cond rfl ?_ ?_ <;> (intro hg; try (simp only [decide_eq_true_eq, decide_eq_false_iff_not, beq_iff_eq, bne_iff_ne, beq_eq_false_iff_ne, bne_eq_false_iff_eq, ne_eq, Bool.not_eq_true', Bool.not_eq_false', Bool.not_true, Bool.not_false, Decidable.not_not] at hg); try (exfalso; first | omega | exact hg True.intro))))
  · have hil : i < own.length := by omega
    have hmem : own.getD i z44 ∈ own := getD_mem' hil
    obtain ⟨⟨x1, x2⟩, ⟨x3, x4⟩, ⟨x5, x6⟩, x7⟩ := hxx _ hmem
    have hst := turnL_step (zF N R kind te tu l3) own i hil
    have htl := turnL_len (zF N R kind te tu l3) own i
    generalize hv6 : v6F bo own.length co s = v6
    generalize hT6 : t6F (turnL (zF N R kind te tu l3) own i) s = T6
    generalize hyd : own.getD i z44 = y at *
    obtain ⟨f0, f1, f2⟩ := y
    dsimp only at x1 x2 x3 x4 x5 x6 x7
    obtain ⟨f1, rfl⟩ : ∃ n : Nat, f1 = n := ⟨f1.toNat, by omega⟩
    obtain ⟨f2, rfl⟩ : ∃ n : Nat, f2 = n := ⟨f2.toNat, by omega⟩
    (repeat (first | ((with_reducible refine is_AL ?_); (first | ((with_reducible refine is_move ?_); (refine At_plain hF (by (exact (rfl : _ = some (Value.int _ _)))) ?_)) | ((with_reducible refine is_index ?_); (refine At_indexS hF rfl rfl (by omega) ?_)))) | ((with_reducible refine is_At ?_); (first | with_reducible refine At_seq ?_; intro K hK | with_reducible refine At_block ?_ | with_reducible refine At_region ?_ | with_reducible refine At_skip ?_ | with_reducible refine At_then_n ?_ | with_reducible refine At_go (by assumption) ?_))))
    refine At_loadS hF 2 [.int .i64 f0, .int .i64 f1, .int .i64 f2] (by exact rfl) rfl (by exact rfl) (fun q u hq => buf_get (sz := 3) RB.enc44_len z44 hil (by rw [hyd]; exact hq)) ?_
    ((repeat (first | ((with_reducible refine is_AL ?_); (first | ((with_reducible refine is_guarded ?_); (refine At_guard_t rfl (by decide) rfl ?_)) | ((with_reducible refine is_move ?_); (refine At_plain hF (by (first | exact (rfl : _ = some (Value.int _ _)) | exact (rfl : _ = some (Value.bool _)))) ?_)) | ((with_reducible refine is_bin ?_); (refine At_plain hF (by (exact (rfl : _ = some (Value.bool _)))) ?_)) | ((with_reducible refine is_assign ?_); (refine At_plain hF (by (exact (rfl : _ = some (Value.int _ _)))) ?_)) | ((with_reducible refine is_pick ?_); (refine At_plain hF (by (exact (rfl : _ = some (Value.bool _)))) ?_)) | ((with_reducible refine is_field ?_); (refine At_field hF rfl ?_)) | ((with_reducible refine is_load ?_); (refine At_load hF 0 (by exact rfl) rfl (by (exact (rfl : _ = some (Value.int _ _)))) ?_)) | ((with_reducible refine is_store ?_); (refine At_storeB_0 hF rfl rfl rfl rfl (by simp [Value.one1, epair]) ?_)) | with_reducible refine At_nil ?_)) | ((with_reducible refine is_At ?_); (first | with_reducible refine At_seq ?_; intro K hK | with_reducible refine At_region ?_ | with_reducible refine At_then_n ?_ | with_reducible refine At_go (by assumption) ?_)))); ((with_reducible refine is_alloc ?_); (refine At_alloc hF (by (exact (rfl : _ = List.toArray (_ :: _)))) ?_; intro b13)); (repeat (first | ((with_reducible refine is_AL ?_); (first | ((with_reducible refine is_guarded ?_); (refine At_guard_t rfl (by decide) rfl ?_)) | ((with_reducible refine is_move ?_); (refine At_plain hF (by (first | exact (rfl : _ = some (Value.int _ _)) | exact (rfl : _ = some (Value.bool _)))) ?_)) | ((with_reducible refine is_bin ?_); (refine At_plain hF (by (exact (rfl : _ = some (Value.bool _)))) ?_)) | ((with_reducible refine is_assign ?_); (refine At_plain hF (by (exact (rfl : _ = some (Value.int _ _)))) ?_)) | ((with_reducible refine is_pick ?_); (refine At_plain hF (by (exact (rfl : _ = some (Value.bool _)))) ?_)) | ((with_reducible refine is_field ?_); (refine At_field hF rfl ?_)) | ((with_reducible refine is_load ?_); (refine At_load hF 0 (by exact rfl) rfl (by (exact (rfl : _ = some (Value.int _ _)))) ?_)) | ((with_reducible refine is_store ?_); (refine At_storeB_0 hF rfl rfl rfl rfl (by simp [Value.one1, epair]) ?_)) | with_reducible refine At_nil ?_)) | ((with_reducible refine is_At ?_); (first | with_reducible refine At_seq ?_; intro K hK | with_reducible refine At_region ?_ | with_reducible refine At_then_n ?_ | with_reducible refine At_go (by assumption) ?_)))))
    (repeat' (first | ((with_reducible refine is_AL ?_); (first | ((with_reducible refine is_guarded ?_); (refine At_guard_t rfl (by decide) rfl ?_)) | ((with_reducible refine is_move ?_); (refine At_plain hF (by (first | exact (rfl : _ = some (Value.int _ _)) | exact (rfl : _ = some (Value.bool _)))) ?_)) | ((with_reducible refine is_bin ?_); (first | ((with_reducible refine is_bmul ?_); (refine At_mul hF rfl rfl (by omega) ?_)) | refine At_plain hF (by (exact (rfl : _ = some (Value.bool _)))) ?_)) | ((with_reducible refine is_pick ?_); (refine At_plain hF (by (exact (rfl : _ = some (Value.bool _)))) ?_)) | ((with_reducible refine is_field ?_); (refine At_field hF rfl ?_)) | ((with_reducible refine is_load ?_); (refine At_load hF 0 (by exact rfl) rfl (by (exact (rfl : _ = some (Value.int _ _)))) ?_)) | with_reducible refine At_nil ?_)) | ((with_reducible refine is_At ?_); (first | with_reducible refine At_seq ?_; intro K hK | with_reducible refine At_skip ?_ | with_reducible refine At_then_n ?_ | with_reducible refine At_go (by assumption) ?_)) | (first | ((with_reducible refine is_guarded ?_); (refine At_guard hF rfl (by decide) rfl ?_ ?_ <;> (intro hg; try (simp only [decide_eq_true_eq, decide_eq_false_iff_not, beq_iff_eq, bne_iff_ne, beq_eq_false_iff_ne, bne_eq_false_iff_eq, ne_eq, Bool.not_eq_true', Bool.not_eq_false', Bool.not_true, Bool.not_false, Decidable.not_not] at hg); try (exfalso; first | omega | exact hg True.intro)))) | ((with_reducible refine is_cond ?_); (refine At_cond rfl ?_ ?_ <;> (intro hg; try (simp only [decide_eq_true_eq, decide_eq_false_iff_not, beq_iff_eq, bne_iff_ne, beq_eq_false_iff_ne, bne_eq_false_iff_eq, ne_eq, Bool.not_eq_true', Bool.not_eq_false', Bool.not_true, Bool.not_false, Decidable.not_not] at hg); try (exfalso; first | omega | exact hg True.intro)))))))
    refine At_draw hF 10 (by kernel_rfl) (by decide +kernel) ?_; simp only [List.take_succ_cons, List.take_zero, List.drop_succ_cons, List.drop_zero]; (repeat ((with_reducible refine is_AQc ?_); refine AQ_cons (by intro K Q hK; (repeat (first | ((with_reducible refine is_move ?_); (refine At_plain hF (by (exact (rfl : _ = some (Value.int _ _)))) ?_)) | ((with_reducible refine is_bin ?_); (first | ((with_reducible refine is_brem ?_); (refine At_rem hF rfl rfl (by omega) ?_)) | refine At_plain hF (by (exact (rfl : _ = some (Value.bool _)))) ?_)) | ((with_reducible refine is_assign ?_); (refine At_plain hF (by (first | exact (rfl : _ = some (Value.int _ _)) | exact (rfl : _ = some (Value.bool _)))) ?_)) | ((with_reducible refine is_field ?_); (refine At_field hF rfl ?_)) | ((with_reducible refine is_load ?_); (refine At_load hF 0 (by exact rfl) rfl (by (exact (rfl : _ = some (Value.int _ _)))) ?_)))); exact At_nilK hK) ?_))
    refine AQ_done ?_
    refine At_nil ?_
    refine At_then_n ?_
    refine At_go (by assumption) ?_
    refine At_seq ?_
    intro K hK
    refine At_merge ([(1, .pointer (some ⟨b1, 0, none⟩)), (2, .int .i64 N), (3, .int .i64 kind), (6, v6), (8, .int .i64 R), (10, .slice (some ⟨bt, 0, none⟩) N cte), (11, .slice (some ⟨bu, 0, none⟩) R ctu), (12, .int .i64 i), (68, .slice (some ⟨bo, 0, none⟩) own.length co), (69, .int .i64 own.length), (70, .int .i64 i), (13, .pointer (some ⟨b13, 0, none⟩)), (14, .int .i64 (rI R kind f0)), (15, .bool (bkB R kind f0))]) (.obj b13 (.cells #[.int .i64 f0, .int .i64 f1, .int .i64 f2] 44) :: .obj bu (.cells (buf (sc (Value.int .i64)) tu ju) 3) :: .obj bt (.cells (buf (sc (Value.int .i64)) te jt) 3) :: .obj bo (.cells (buf enc44 own jo) 44) :: .obj b1 (.cells #[.int .u8 n0, .int .u8 k0, .slice A1 l1.length c1, .slice A2 l2.length c2, .slice A3 l3.length c3] 50 (0, 0)) :: T6) ?_ ?_
    · intro K' hK'
      (repeat (first | ((with_reducible refine is_AL ?_); (first | ((with_reducible refine is_move ?_); (refine At_plain hF (by (exact (rfl : _ = some (Value.int _ _)))) ?_)) | ((with_reducible refine is_bin ?_); (refine At_plain hF (by (exact (rfl : _ = some (Value.bool _)))) ?_)) | with_reducible refine At_nil ?_)) | ((with_reducible refine is_At ?_); (first | with_reducible refine At_seq ?_; intro K hK | with_reducible refine At_region ?_ | with_reducible refine At_then_n ?_ | with_reducible refine At_go (by assumption) ?_))))
      ((with_reducible refine is_cond ?_); (refine At_cond rfl ?_ ?_ <;> (intro hg; try (simp only [decide_eq_true_eq, decide_eq_false_iff_not, beq_iff_eq, bne_iff_ne, beq_eq_false_iff_ne, bne_eq_false_iff_eq, ne_eq, Bool.not_eq_true', Bool.not_eq_false', Bool.not_true, Bool.not_false, Decidable.not_not] at hg); try (exfalso; first | omega | exact hg True.intro))))
      · refine At_draw hF 9 (by kernel_rfl) (by decide +kernel) ?_; simp only [List.take_succ_cons, List.take_zero, List.drop_succ_cons, List.drop_zero]; (repeat ((with_reducible refine is_AQc ?_); refine AQ_cons (by intro K Q hK; (repeat (first | ((with_reducible refine is_bin ?_); (first | ((with_reducible refine is_brem ?_); (refine At_rem hF rfl rfl (by omega) ?_)) | ((with_reducible refine is_bquo ?_); (refine At_quo hF rfl rfl (by omega) ?_)) | refine At_plain hF (by (exact (rfl : _ = some (Value.bool _)))) ?_)) | ((with_reducible refine is_assign ?_); (refine At_plain hF (by (first | exact (rfl : _ = some (Value.int _ _)) | exact (rfl : _ = some (Value.bool _)))) ?_)) | ((with_reducible refine is_field ?_); (refine At_field hF rfl ?_)) | ((with_reducible refine is_load ?_); (refine At_load hF 0 (by exact rfl) rfl (by (exact (rfl : _ = some (Value.int _ _)))) ?_)))); exact At_nilK hK) ?_))
        refine AQ_done ?_
        (repeat (first | ((with_reducible refine is_AL ?_); (with_reducible refine At_nil ?_)) | ((with_reducible refine is_At ?_); (with_reducible refine At_then_n ?_))))
        have e1 : rI R kind f0 = f0 / 2 := if_pos hg
        have e2 : bkB R kind f0 = (f0 % 2 == 1) := if_pos hg
        refine At.sub ?_ (hK' _ ?_)
        · (repeat (first | exact List.Sublist.refl _ | exact List.Sublist.slnil | refine List.Sublist.cons_cons _ ?_ | refine List.Sublist.cons _ ?_))
        · rw [e1, e2]
          (repeat (first | exact True.intro | (refine And.intro ?_ ?_; focus (show _ = (_ : Value); first | exact rfl | (refine Eq.trans (b := Value.int IntKind.i64 _) rfl (congrArg (Value.int IntKind.i64) ?_); omega)))))
      · (repeat ((with_reducible refine is_At ?_); (first | with_reducible refine At_skip ?_ | with_reducible refine At_then_n ?_)))
        have e1 : rI R kind f0 = f0 % (R : Int) := if_neg hg
        have e2 : bkB R kind f0 = decide (f0 ≥ (R : Int)) := if_neg hg
        refine At.sub ?_ (hK' _ ?_)
        · (repeat (first | exact List.Sublist.refl _ | exact List.Sublist.slnil | refine List.Sublist.cons_cons _ ?_ | refine List.Sublist.cons _ ?_))
        · rw [e1, e2]
          (repeat (first | exact True.intro | (refine And.intro ?_ ?_; focus (show _ = (_ : Value); first | exact rfl | (refine Eq.trans (b := Value.int IntKind.i64 _) rfl (congrArg (Value.int IntKind.i64) ?_); omega)))))
    intro ρ2
    try dsimp only
    have hri : 0 ≤ rI R kind f0 ∧ rI R kind f0 < R := by
      unfold rI
      split
      · rename_i hk2; rw [hk2] at hQ2; omega
      · exact ⟨Int.emod_nonneg _ (by omega), Int.emod_lt_of_pos _ (by omega)⟩
    obtain ⟨ri, hre⟩ : ∃ ri : Nat, rI R kind f0 = ri := ⟨_, (Int.toNat_of_nonneg hri.1).symm⟩
    rw [hre]
    rw [hre] at hri
    (repeat ((with_reducible refine is_At ?_); (first | with_reducible refine At_seq ?_; intro K hK | with_reducible refine At_go (by assumption) ?_)))
    refine At_drawE hF 17 [0, 1, 2, 3, 4, 5, 6, 7, 8, 9, 10, 11, 12, 13, 14] [] [15, 16] (.obj b13 (.cells #[.int .i64 f0, .int .i64 f1, .int .i64 f2] 44) :: .obj bu (.cells (buf (sc (Value.int .i64)) tu ju) 3) :: .obj bt (.cells (buf (sc (Value.int .i64)) te jt) 3) :: .obj bo (.cells (buf enc44 own jo) 44) :: .obj b1 (.cells #[.int .u8 n0, .int .u8 k0, .slice A1 l1.length c1, .slice A2 l2.length c2, .slice A3 l3.length c3] 50 (0, 0)) :: T6) (by kernel_rfl) (by decide +kernel) (by decide +kernel) ?_; simp only [List.drop_succ_cons, List.drop_zero]; (repeat ((with_reducible refine is_AQF ?_); first | refine AQF_early (by decide) (by exact (rfl : _ = some (Oper.mk _ _ _ _ _ _))) (by intro K Q hK; (repeat (first | ((with_reducible refine is_move ?_); (refine At_plain hF (by (first | exact (rfl : _ = some (Value.int _ _)) | exact (rfl : _ = some (Value.slice _ _ _)))) ?_)) | ((with_reducible refine is_field ?_); (refine At_field hF rfl ?_)) | ((with_reducible refine is_load ?_); (first | refine At_load hF 0 (by exact rfl) rfl (by (exact (rfl : _ = some (Value.int _ _)))) ?_ | refine At_load hF 1 (by exact rfl) rfl (by (exact buf_getI _ (by omega))) ?_ | refine At_load hF 2 (by exact rfl) rfl (by (exact buf_getI _ (by omega))) ?_)) | ((with_reducible refine is_index ?_); (refine At_indexS1 hF rfl rfl rfl (by omega) ?_)))); exact At_nilK hK) ?_ | refine AQF_late (by decide) (by exact (rfl : _ = some (Oper.mk _ _ _ _ _ _))) (by intro E K Q hK; simp only [List.cons_append, List.nil_append] at hK ⊢; (repeat (first | ((with_reducible refine is_move ?_); (refine At_plain hF (by (first | exact (rfl : _ = some (Value.int _ _)) | exact (rfl : _ = some (Value.slice _ _ _)))) ?_)) | ((with_reducible refine is_field ?_); (refine At_field hF rfl ?_)) | ((with_reducible refine is_load ?_); (first | refine At_load hF 0 (by exact rfl) rfl (by (exact (rfl : _ = some (Value.int _ _)))) ?_ | refine At_load hF 1 (by exact rfl) rfl (by (exact buf_getI _ (by omega))) ?_ | refine At_load hF 2 (by exact rfl) rfl (by (exact buf_getI _ (by omega))) ?_)) | ((with_reducible refine is_index ?_); (refine At_indexS1 hF rfl rfl rfl (by omega) ?_)))); exact At_nilK hK) ?_))
    refine AQF_late (by decide) (by exact (rfl : _ = some (Oper.mk _ _ _ _ _ _))) (by intro E K Q hK; simp only [List.cons_append, List.nil_append] at hK ⊢; refine At_buildS hF (cs := #[.int .i64 (tu.getD ri default), .int .i64 (te.getD f1 default), .int .i64 (te.getD f2 default)]) (by exact rfl) (by exact rfl) ?_; exact At_nilK hK) ?_
    refine AQF_done ?_
    (refine WAt_cons ?_ (by exact (rfl : _ = some (Oper.mk _ _ _ _ _ _))) ?_; (focus (repeat (first | exact List.Sublist.refl _ | exact List.Sublist.slnil | refine List.Sublist.cons_cons _ ?_ | refine List.Sublist.cons _ ?_))); intro K Q hK)
    refine At_alloc hF (by exact (rfl : _ = List.toArray (_ :: _))) ?_
    intro b16
    refine At_nilK (hK _ _ ?_)
    (refine WAt_cons ?_ (by exact (rfl : _ = some (Oper.mk _ _ _ _ _ _))) ?_; (focus (repeat (first | exact List.Sublist.refl _ | exact List.Sublist.slnil | refine List.Sublist.cons_cons _ ?_ | refine List.Sublist.cons _ ?_))); intro K Q hK)
    (repeat (first | ((with_reducible refine is_AL ?_); (first | ((with_reducible refine is_store ?_); (refine At_storeB_0 hF rfl rfl rfl rfl (by simp [Value.one1, epair]) ?_)) | with_reducible refine At_nil ?_)) | ((with_reducible refine is_At ?_); (with_reducible refine At_then_n ?_))))
    refine hK _ _ ?_
    (refine WAt_nil ?_ ?_; (focus (repeat (first | exact List.Sublist.refl _ | exact List.Sublist.slnil | refine List.Sublist.cons_cons _ ?_ | refine List.Sublist.cons _ ?_))))
    refine At_nil ?_
    refine At_then_n ?_
    refine At_go (by assumption) ?_
    refine At_seq ?_
    intro K hK
    have o1 := ordOk hte
    have o2 := ordOk htu
    have hz0 : 0 ≤ tu.getD ri default ∧ tu.getD ri default < R := o2.bd ri (by omega)
    have hz1 : 0 ≤ te.getD f1 default ∧ te.getD f1 default < N := o1.bd f1 (by omega)
    have hz2 : 0 ≤ te.getD f2 default ∧ te.getD f2 default < N := o1.bd f2 (by omega)
    have hzF : zF N R kind te tu l3 ⟨f0, f1, f2⟩ = if swF N l3 (te.getD f1 default) (te.getD f2 default) = true then ⟨rhoZ R kind (bkB R kind f0) (tu.getD ri default), te.getD f2 default, te.getD f1 default⟩ else ⟨rhoZ R kind (bkB R kind f0) (tu.getD ri default), te.getD f1 default, te.getD f2 default⟩ := by
      unfold zF RB.trnZ rhoF piF
      simp only [hre, Int.toNat_natCast]
      rfl
    rw [hzF] at hst
    clear hzF
    generalize tu.getD ri default = z0 at *
    generalize te.getD f1 default = z1 at *
    generalize te.getD f2 default = z2 at *
    generalize bkB R kind f0 = bk at *
    refine At_merge ([(1, .pointer (some ⟨b1, 0, none⟩)), (2, .int .i64 N), (3, .int .i64 kind), (6, v6), (8, .int .i64 R), (10, .slice (some ⟨bt, 0, none⟩) N cte), (11, .slice (some ⟨bu, 0, none⟩) R ctu), (12, .int .i64 i), (68, .slice (some ⟨bo, 0, none⟩) own.length co), (69, .int .i64 own.length), (70, .int .i64 i), (13, .pointer (some ⟨b13, 0, none⟩)), (16, .pointer (some ⟨b16, 0, none⟩))]) (.obj b16 (.cells #[.int .i64 (rhoZ R kind bk z0), .int .i64 z1, .int .i64 z2] 44) :: .obj bu (.cells (buf (sc (Value.int .i64)) tu ju) 3) :: .obj bt (.cells (buf (sc (Value.int .i64)) te jt) 3) :: .obj bo (.cells (buf enc44 own jo) 44) :: .obj b1 (.cells #[.int .u8 n0, .int .u8 k0, .slice A1 l1.length c1, .slice A2 l2.length c2, .slice A3 l3.length c3] 50 (0, 0)) :: T6) ?_ ?_
    · intro K' hK'
      by_cases hk2 : kind = 2
      · have hb : (kind == 2) = true := by simp [hk2]
        cases bk with
        | true =>
          have e : rhoZ R kind true z0 = 2 * z0 + 1 := by unfold rhoZ; rw [if_pos hk2, if_pos rfl]
          (repeat (first | ((with_reducible refine is_AL ?_); (first | ((with_reducible refine is_move ?_); (refine At_plain hF (by (first | exact (rfl : _ = some (Value.int _ _)) | exact (rfl : _ = some (Value.bool _)))) ?_)) | ((with_reducible refine is_bin ?_); (refine At_plain hF (by (exact (rfl : _ = some (Value.bool _)))) ?_)))) | ((with_reducible refine is_At ?_); (first | with_reducible refine At_seq ?_; intro K hK | with_reducible refine At_block ?_ | with_reducible refine At_region ?_))))
          rw [hb]
          (repeat (first | ((with_reducible refine is_AL ?_); (first | ((with_reducible refine is_guarded ?_); (refine At_guard_t rfl (by decide) rfl ?_)) | ((with_reducible refine is_move ?_); (refine At_plain hF (by (exact (rfl : _ = some (Value.bool _)))) ?_)) | ((with_reducible refine is_bin ?_); (first | ((with_reducible refine is_badd ?_); (refine At_add hF rfl rfl (by omega) ?_)) | ((with_reducible refine is_bmul ?_); (refine At_mul hF rfl rfl (by omega) ?_)))) | ((with_reducible refine is_assign ?_); (refine At_plain hF (by (exact (rfl : _ = some (Value.bool _)))) ?_)) | ((with_reducible refine is_pick ?_); (refine At_plain hF (by (exact (rfl : _ = some (Value.bool _)))) ?_)) | ((with_reducible refine is_field ?_); (refine At_field hF rfl ?_)) | ((with_reducible refine is_load ?_); (refine At_load hF 0 (by exact rfl) rfl (by (exact (rfl : _ = some (Value.int _ _)))) ?_)) | ((with_reducible refine is_store ?_); (refine At_store_0 hF rfl (by (exact (rfl : _ = (Value.int _ _)))) (by (exact of_decide_eq_true rfl)) (by exact rfl) (by exact rfl) (by (exact (rfl : _ = List.toArray (_ :: _)))) ?_)) | with_reducible refine At_nil ?_)) | ((with_reducible refine is_At ?_); (first | with_reducible refine At_region ?_ | with_reducible refine At_then_n ?_ | with_reducible refine At_inb_n ?_ | with_reducible refine At_go (by assumption) ?_ | ((with_reducible refine is_cond ?_); (refine At_cond_t rfl ?_))))))
          refine At.sub ?_ (hK' _ ?_)
          · rw [e]
            (repeat (first | exact List.Sublist.refl _ | exact List.Sublist.slnil | refine List.Sublist.cons_cons _ ?_ | refine List.Sublist.cons _ ?_))
          · (repeat (first | exact True.intro | (refine And.intro ?_ ?_; focus (show _ = (_ : Value); first | exact rfl | (refine Eq.trans (b := Value.int IntKind.i64 _) rfl (congrArg (Value.int IntKind.i64) ?_); omega)))))
        | false =>
          have e : rhoZ R kind false z0 = z0 * 2 := by unfold rhoZ; rw [if_pos hk2, if_neg (by decide)]
          (repeat (first | ((with_reducible refine is_AL ?_); (first | ((with_reducible refine is_move ?_); (refine At_plain hF (by (first | exact (rfl : _ = some (Value.int _ _)) | exact (rfl : _ = some (Value.bool _)))) ?_)) | ((with_reducible refine is_bin ?_); (refine At_plain hF (by (exact (rfl : _ = some (Value.bool _)))) ?_)))) | ((with_reducible refine is_At ?_); (first | with_reducible refine At_seq ?_; intro K hK | with_reducible refine At_block ?_ | with_reducible refine At_region ?_))))
          rw [hb]
          (repeat (first | ((with_reducible refine is_AL ?_); (first | ((with_reducible refine is_guarded ?_); (refine At_guard_t rfl (by decide) rfl ?_)) | ((with_reducible refine is_move ?_); (refine At_plain hF (by (first | exact (rfl : _ = some (Value.int _ _)) | exact (rfl : _ = some (Value.bool _)))) ?_)) | ((with_reducible refine is_bin ?_); (refine At_plain hF (by (exact (rfl : _ = some (Value.bool _)))) ?_)) | ((with_reducible refine is_assign ?_); (refine At_plain hF (by (exact (rfl : _ = some (Value.bool _)))) ?_)) | ((with_reducible refine is_pick ?_); (refine At_plain hF (by (exact (rfl : _ = some (Value.bool _)))) ?_)) | with_reducible refine At_nil ?_)) | ((with_reducible refine is_At ?_); (first | with_reducible refine At_seq ?_; intro K hK | with_reducible refine At_region ?_ | with_reducible refine At_then_n ?_ | with_reducible refine At_go (by assumption) ?_ | ((with_reducible refine is_cond ?_); (refine At_cond_f rfl ?_))))))
          (try rw [hb])
          (try (repeat (first | ((with_reducible refine is_AL ?_); (first | ((with_reducible refine is_bin ?_); ((with_reducible refine is_bmul ?_); (refine At_mul hF rfl rfl (by omega) ?_))) | ((with_reducible refine is_field ?_); (refine At_field hF rfl ?_)) | ((with_reducible refine is_load ?_); (refine At_load hF 0 (by exact rfl) rfl (by (exact (rfl : _ = some (Value.int _ _)))) ?_)) | ((with_reducible refine is_store ?_); (refine At_store_0 hF rfl (by (exact (rfl : _ = (Value.int _ _)))) (by (exact of_decide_eq_true rfl)) (by exact rfl) (by exact rfl) (by (exact (rfl : _ = List.toArray (_ :: _)))) ?_)) | with_reducible refine At_nil ?_)) | ((with_reducible refine is_At ?_); (first | with_reducible refine At_region ?_ | with_reducible refine At_then_n ?_ | with_reducible refine At_inb_n ?_ | ((with_reducible refine is_cond ?_); (refine At_cond_t rfl ?_)))))))
          refine At.sub ?_ (hK' _ ?_)
          · rw [e]
            (repeat (first | exact List.Sublist.refl _ | exact List.Sublist.slnil | refine List.Sublist.cons_cons _ ?_ | refine List.Sublist.cons _ ?_))
          · (repeat (first | exact True.intro | (refine And.intro ?_ ?_; focus (show _ = (_ : Value); first | exact rfl | (refine Eq.trans (b := Value.int IntKind.i64 _) rfl (congrArg (Value.int IntKind.i64) ?_); omega)))))
      · have hb : (kind == 2) = false := by simp [hk2]
        cases bk with
        | true =>
          have e : rhoZ R kind true z0 = z0 + R := by unfold rhoZ; rw [if_neg hk2, if_pos rfl]
          (repeat (first | ((with_reducible refine is_AL ?_); (first | ((with_reducible refine is_move ?_); (refine At_plain hF (by (first | exact (rfl : _ = some (Value.int _ _)) | exact (rfl : _ = some (Value.bool _)))) ?_)) | ((with_reducible refine is_bin ?_); (refine At_plain hF (by (exact (rfl : _ = some (Value.bool _)))) ?_)))) | ((with_reducible refine is_At ?_); (first | with_reducible refine At_seq ?_; intro K hK | with_reducible refine At_block ?_ | with_reducible refine At_region ?_))))
          rw [hb]
          (repeat (first | ((with_reducible refine is_AL ?_); (first | ((with_reducible refine is_guarded ?_); (refine At_guard_f hF rfl (by decide) rfl rfl ?_)) | ((with_reducible refine is_move ?_); (refine At_plain hF (by (exact (rfl : _ = some (Value.int _ _)))) ?_)) | ((with_reducible refine is_bin ?_); (refine At_plain hF (by (exact (rfl : _ = some (Value.bool _)))) ?_)) | ((with_reducible refine is_assign ?_); (refine At_plain hF (by (exact (rfl : _ = some (Value.bool _)))) ?_)) | ((with_reducible refine is_pick ?_); (refine At_plain hF (by (exact (rfl : _ = some (Value.bool _)))) ?_)) | with_reducible refine At_nil ?_)) | ((with_reducible refine is_At ?_); (first | with_reducible refine At_seq ?_; intro K hK | with_reducible refine At_region ?_ | with_reducible refine At_then_n ?_ | with_reducible refine At_go (by assumption) ?_ | ((with_reducible refine is_cond ?_); (refine At_cond_f rfl ?_))))))
          rw [hb]
          (repeat (first | ((with_reducible refine is_AL ?_); (first | ((with_reducible refine is_move ?_); (refine At_plain hF (by (first | exact (rfl : _ = some (Value.int _ _)) | exact (rfl : _ = some (Value.bool _)))) ?_)) | ((with_reducible refine is_bin ?_); ((with_reducible refine is_badd ?_); (refine At_add hF rfl rfl (by omega) ?_))) | ((with_reducible refine is_assign ?_); (refine At_plain hF (by (exact (rfl : _ = some (Value.bool _)))) ?_)) | ((with_reducible refine is_field ?_); (refine At_field hF rfl ?_)) | ((with_reducible refine is_load ?_); (refine At_load hF 0 (by exact rfl) rfl (by (exact (rfl : _ = some (Value.int _ _)))) ?_)) | ((with_reducible refine is_store ?_); (refine At_store_0 hF rfl (by (exact (rfl : _ = (Value.int _ _)))) (by (exact of_decide_eq_true rfl)) (by exact rfl) (by exact rfl) (by (exact (rfl : _ = List.toArray (_ :: _)))) ?_)) | with_reducible refine At_nil ?_)) | ((with_reducible refine is_At ?_); (first | with_reducible refine At_seq ?_; intro K hK | with_reducible refine At_region ?_ | with_reducible refine At_then_n ?_ | with_reducible refine At_inb_n ?_ | with_reducible refine At_go (by assumption) ?_ | ((with_reducible refine is_cond ?_); (first | refine At_cond_t rfl ?_ | refine At_cond_f rfl ?_))))))
          refine At.sub ?_ (hK' _ ?_)
          · rw [e]
            (repeat (first | exact List.Sublist.refl _ | exact List.Sublist.slnil | refine List.Sublist.cons_cons _ ?_ | refine List.Sublist.cons _ ?_))
          · (repeat (first | exact True.intro | (refine And.intro ?_ ?_; focus (show _ = (_ : Value); first | exact rfl | (refine Eq.trans (b := Value.int IntKind.i64 _) rfl (congrArg (Value.int IntKind.i64) ?_); omega)))))
        | false =>
          have e : rhoZ R kind false z0 = z0 := by unfold rhoZ; rw [if_neg hk2, if_neg (by decide)]
          (repeat (first | ((with_reducible refine is_AL ?_); (first | ((with_reducible refine is_move ?_); (refine At_plain hF (by (first | exact (rfl : _ = some (Value.int _ _)) | exact (rfl : _ = some (Value.bool _)))) ?_)) | ((with_reducible refine is_bin ?_); (refine At_plain hF (by (exact (rfl : _ = some (Value.bool _)))) ?_)))) | ((with_reducible refine is_At ?_); (first | with_reducible refine At_seq ?_; intro K hK | with_reducible refine At_block ?_ | with_reducible refine At_region ?_))))
          rw [hb]
          (repeat (first | ((with_reducible refine is_AL ?_); (first | ((with_reducible refine is_guarded ?_); (refine At_guard_f hF rfl (by decide) rfl rfl ?_)) | ((with_reducible refine is_move ?_); (refine At_plain hF (by (exact (rfl : _ = some (Value.int _ _)))) ?_)) | ((with_reducible refine is_bin ?_); (refine At_plain hF (by (exact (rfl : _ = some (Value.bool _)))) ?_)) | ((with_reducible refine is_assign ?_); (refine At_plain hF (by (exact (rfl : _ = some (Value.bool _)))) ?_)) | ((with_reducible refine is_pick ?_); (refine At_plain hF (by (exact (rfl : _ = some (Value.bool _)))) ?_)) | with_reducible refine At_nil ?_)) | ((with_reducible refine is_At ?_); (first | with_reducible refine At_seq ?_; intro K hK | with_reducible refine At_region ?_ | with_reducible refine At_then_n ?_ | with_reducible refine At_go (by assumption) ?_ | ((with_reducible refine is_cond ?_); (refine At_cond_f rfl ?_))))))
          rw [hb]
          (repeat (first | ((with_reducible refine is_AL ?_); (first | ((with_reducible refine is_move ?_); (refine At_plain hF (by (exact (rfl : _ = some (Value.bool _)))) ?_)) | ((with_reducible refine is_assign ?_); (refine At_plain hF (by (exact (rfl : _ = some (Value.bool _)))) ?_)) | with_reducible refine At_nil ?_)) | ((with_reducible refine is_At ?_); (first | with_reducible refine At_seq ?_; intro K hK | with_reducible refine At_region ?_ | with_reducible refine At_skip ?_ | with_reducible refine At_then_n ?_ | with_reducible refine At_inb_n ?_ | with_reducible refine At_go (by assumption) ?_ | ((with_reducible refine is_cond ?_); (refine At_cond_f rfl ?_))))))
          refine At.sub ?_ (hK' _ ?_)
          · rw [e]
            (repeat (first | exact List.Sublist.refl _ | exact List.Sublist.slnil | refine List.Sublist.cons_cons _ ?_ | refine List.Sublist.cons _ ?_))
          · (repeat (first | exact True.intro | (refine And.intro ?_ ?_; focus (show _ = (_ : Value); first | exact rfl | (refine Eq.trans (b := Value.int IntKind.i64 _) rfl (congrArg (Value.int IntKind.i64) ?_); omega)))))
    intro ρ3
    try dsimp only
    (repeat ((with_reducible refine is_At ?_); (first | with_reducible refine At_seq ?_; intro K hK | with_reducible refine At_go (by assumption) ?_)))
    refine At_draw hF 12 (by kernel_rfl) (by decide +kernel) ?_; simp only [List.take_succ_cons, List.take_zero, List.drop_succ_cons, List.drop_zero]; (repeat ((with_reducible refine is_AQc ?_); refine AQ_cons (by intro K Q hK; (repeat (first | ((with_reducible refine is_assign ?_); (refine At_plain hF (by (exact (rfl : _ = some (Value.int _ _)))) ?_)) | ((with_reducible refine is_call ?_); (first | refine At_max hF rfl rfl ?_ | refine At_min hF rfl rfl ?_)) | ((with_reducible refine is_field ?_); (refine At_field hF rfl ?_)) | ((with_reducible refine is_load ?_); (refine At_load hF 0 (by exact rfl) rfl (by (exact (rfl : _ = some (Value.int _ _)))) ?_)))); exact At_nilK hK) ?_))
    refine AQ_done ?_
    have hmul : 0 ≤ (N : Int) * min z1 z2 ∧ (N : Int) * min z1 z2 ≤ 12 * 12 := ⟨Int.mul_nonneg (by omega) (by omega), Int.mul_le_mul (by omega) (by omega) (by omega) (by omega)⟩
    obtain ⟨kk, hkk'⟩ : ∃ kk : Nat, (N : Int) * min z1 z2 + max z1 z2 = kk := ⟨((N : Int) * min z1 z2 + max z1 z2).toNat, by omega⟩
    have hsw : swF N l3 z1 z2 = l3.getD kk false := by unfold swF; rw [hkk', Int.toNat_natCast]
    rw [hsw] at hst
    refine At_nil ?_
    refine At_then_n ?_
    refine At_go (by assumption) ?_
    refine At_seq ?_
    intro K hK
    obtain ⟨w1, w2, hw, hwt, hwf⟩ : ∃ w1 w2, (if l3.getD kk false = true then (⟨rhoZ R kind bk z0, z2, z1⟩ : S44) else ⟨rhoZ R kind bk z0, z1, z2⟩) = ⟨rhoZ R kind bk z0, w1, w2⟩ ∧ (l3.getD kk false = true → w1 = z2 ∧ w2 = z1) ∧ (l3.getD kk false = false → w1 = z1 ∧ w2 = z2) := by
      cases l3.getD kk false
      · exact ⟨z1, z2, rfl, (fun h => by cases h), fun _ => ⟨rfl, rfl⟩⟩
      · exact ⟨z2, z1, rfl, fun _ => ⟨rfl, rfl⟩, (fun h => by cases h)⟩
    rw [hw] at hst
    clear hw hsw
    refine At_merge ([(1, .pointer (some ⟨b1, 0, none⟩)), (2, .int .i64 N), (3, .int .i64 kind), (6, v6), (8, .int .i64 R), (10, .slice (some ⟨bt, 0, none⟩) N cte), (11, .slice (some ⟨bu, 0, none⟩) R ctu), (12, .int .i64 i), (68, .slice (some ⟨bo, 0, none⟩) own.length co), (69, .int .i64 own.length), (70, .int .i64 i), (16, .pointer (some ⟨b16, 0, none⟩))]) (.obj b16 (.cells #[.int .i64 (rhoZ R kind bk z0), .int .i64 w1, .int .i64 w2] 44) :: .obj bu (.cells (buf (sc (Value.int .i64)) tu ju) 3) :: .obj bt (.cells (buf (sc (Value.int .i64)) te jt) 3) :: .obj bo (.cells (buf enc44 own jo) 44) :: .obj b1 (.cells #[.int .u8 n0, .int .u8 k0, .slice A1 l1.length c1, .slice A2 l2.length c2, .slice A3 l3.length c3] 50 (0, 0)) :: T6) ?_ ?_
    · intro K' hK'
      (repeat (first | ((with_reducible refine is_AL ?_); (first | ((with_reducible refine is_move ?_); (refine At_plain hF (by (first | exact (rfl : _ = some (Value.int _ _)) | exact (rfl : _ = some (Value.bool _)))) ?_)) | ((with_reducible refine is_bin ?_); (first | ((with_reducible refine is_badd ?_); (refine At_add hF rfl rfl (by omega) ?_)) | ((with_reducible refine is_bmul ?_); (refine At_mul hF rfl rfl (by omega) ?_)) | refine At_plain hF (by (exact (rfl : _ = some (Value.bool _)))) ?_)) | ((with_reducible refine is_assign ?_); (refine At_plain hF (by (exact (rfl : _ = some (Value.int _ _)))) ?_)) | ((with_reducible refine is_call ?_); (refine At_len hF rfl ?_)) | ((with_reducible refine is_field ?_); (refine At_field hF rfl ?_)) | ((with_reducible refine is_load ?_); (refine At_load hF 4 (by exact rfl) rfl (by (exact (rfl : _ = some (Value.slice _ _ _)))) ?_)) | with_reducible refine At_nil ?_)) | ((with_reducible refine is_At ?_); (first | with_reducible refine At_seq ?_; intro K hK | with_reducible refine At_region ?_ | with_reducible refine At_then_n ?_ | with_reducible refine At_go (by assumption) ?_))))
      rw [hkk']
      ((with_reducible refine is_guarded ?_); (refine At_guard hF rfl (by decide) rfl ?_ ?_ <;> (intro hg; try (simp only [decide_eq_true_eq, decide_eq_false_iff_not, beq_iff_eq, bne_iff_ne, beq_eq_false_iff_ne, bne_eq_false_iff_eq, ne_eq, Bool.not_eq_true', Bool.not_eq_false', Bool.not_true, Bool.not_false, Decidable.not_not] at hg); try (exfalso; first | omega | exact hg True.intro))))
      · obtain ⟨ad, hA, hcell⟩ := C_boolv hr3 kk (by omega)
        (repeat ((with_reducible refine is_AL ?_); (first | ((with_reducible refine is_guarded ?_); (refine At_guard_t rfl (by decide) rfl ?_)) | ((with_reducible refine is_move ?_); (refine At_plain hF (by (exact (rfl : _ = some (Value.int _ _)))) ?_)) | ((with_reducible refine is_field ?_); (refine At_field hF rfl ?_)) | ((with_reducible refine is_load ?_); (refine At_load hF 4 (by exact rfl) rfl (by (exact (rfl : _ = some (Value.slice _ _ _)))) ?_)) | ((with_reducible refine is_index ?_); (refine At_indexC1 hF rfl (by assumption) rfl rfl (by omega) ?_)))))
        refine At_loadC hF (by exact rfl) (by exact hcell) ?_
        clear hA hcell
        cases hb : l3.getD kk false with
        | true =>
          obtain ⟨rfl, rfl⟩ := hwt hb
          (repeat (first | ((with_reducible refine is_AL ?_); (first | ((with_reducible refine is_pick ?_); (refine At_plain hF (by (exact (rfl : _ = some (Value.bool _)))) ?_)) | ((with_reducible refine is_field ?_); (refine At_field hF rfl ?_)) | ((with_reducible refine is_load ?_); (refine At_load hF 0 (by exact rfl) rfl (by (exact (rfl : _ = some (Value.int _ _)))) ?_)) | ((with_reducible refine is_store ?_); (refine At_store_0 hF rfl (by (exact (rfl : _ = (Value.int _ _)))) (by (exact of_decide_eq_true rfl)) (by exact rfl) (by exact rfl) (by (exact (rfl : _ = List.toArray (_ :: _)))) ?_)) | with_reducible refine At_nil ?_)) | ((with_reducible refine is_At ?_); (first | with_reducible refine At_region ?_ | with_reducible refine At_then_n ?_ | with_reducible refine At_go (by assumption) ?_ | ((with_reducible refine is_cond ?_); (refine At_cond_t rfl ?_))))))
          refine At.sub ?_ (hK' _ ?_)
          · (repeat (first | exact List.Sublist.refl _ | exact List.Sublist.slnil | refine List.Sublist.cons_cons _ ?_ | refine List.Sublist.cons _ ?_))
          · (repeat (first | exact True.intro | (refine And.intro ?_ ?_; focus (show _ = (_ : Value); first | exact rfl | (refine Eq.trans (b := Value.int IntKind.i64 _) rfl (congrArg (Value.int IntKind.i64) ?_); omega)))))
        | false =>
          obtain ⟨rfl, rfl⟩ := hwf hb
          (repeat (first | ((with_reducible refine is_AL ?_); (first | ((with_reducible refine is_pick ?_); (refine At_plain hF (by (exact (rfl : _ = some (Value.bool _)))) ?_)) | with_reducible refine At_nil ?_)) | ((with_reducible refine is_At ?_); (first | with_reducible refine At_skip ?_ | with_reducible refine At_then_n ?_ | with_reducible refine At_go (by assumption) ?_ | ((with_reducible refine is_cond ?_); (refine At_cond_f rfl ?_))))))
          refine At.sub ?_ (hK' _ ?_)
          · (repeat (first | exact List.Sublist.refl _ | exact List.Sublist.slnil | refine List.Sublist.cons_cons _ ?_ | refine List.Sublist.cons _ ?_))
          · (repeat (first | exact True.intro | (refine And.intro ?_ ?_; focus (show _ = (_ : Value); first | exact rfl | (refine Eq.trans (b := Value.int IntKind.i64 _) rfl (congrArg (Value.int IntKind.i64) ?_); omega)))))
      · have hb : l3.getD kk false = false := by rw [List.getD_eq_getElem?_getD, List.getElem?_eq_none (by omega)]; rfl
        obtain ⟨rfl, rfl⟩ := hwf hb
        (repeat (first | ((with_reducible refine is_AL ?_); (first | ((with_reducible refine is_guarded ?_); (refine At_guard_f hF rfl (by decide) rfl rfl ?_)) | ((with_reducible refine is_pick ?_); (refine At_plain hF (by (exact (rfl : _ = some (Value.bool _)))) ?_)) | with_reducible refine At_nil ?_)) | ((with_reducible refine is_At ?_); (first | with_reducible refine At_skip ?_ | with_reducible refine At_then_n ?_ | with_reducible refine At_go (by assumption) ?_ | ((with_reducible refine is_cond ?_); (refine At_cond_f rfl ?_))))))
        refine At.sub ?_ (hK' _ ?_)
        · (repeat (first | exact List.Sublist.refl _ | exact List.Sublist.slnil | refine List.Sublist.cons_cons _ ?_ | refine List.Sublist.cons _ ?_))
        · (repeat (first | exact True.intro | (refine And.intro ?_ ?_; focus (show _ = (_ : Value); first | exact rfl | (refine Eq.trans (b := Value.int IntKind.i64 _) rfl (congrArg (Value.int IntKind.i64) ?_); omega)))))
    intro ρ4
    try dsimp only
    clear hmul hwt hwf hkk' hri hre x1 x2 x3 x4 x5 x6 x7 hxx hlen hyd
    subst hv6 hT6
    generalize hxs : turnL (zF N R kind te tu l3) own i = xs at *
    have e1 : (xs.take i).length = i := by rw [List.length_take]; omega
    have e2 : (xs.drop (i + 1)).length = own.length - (i + 1) := by rw [List.length_drop, htl]
    cases s with
    | none =>
      have hi0 : i = 0 := hs.1 rfl
      obtain rfl : own = xs := by rw [← hxs, hi0, turnL_zero]
      dsimp only [v6F, t6F]
      (repeat ((with_reducible refine is_At ?_); (with_reducible refine At_go (by assumption) ?_)))
      refine At_drawE hF 12 [0, 1, 2, 3, 4, 6, 7, 8, 9] [] [5, 10, 11] (.obj b16 (.cells #[.int .i64 (rhoZ R kind bk z0), .int .i64 w1, .int .i64 w2] 44) :: .obj bu (.cells (buf (sc (Value.int .i64)) tu ju) 3) :: .obj bt (.cells (buf (sc (Value.int .i64)) te jt) 3) :: .obj bo (.cells (buf enc44 own jo) 44) :: .obj b1 (.cells #[.int .u8 n0, .int .u8 k0, .slice A1 l1.length c1, .slice A2 l2.length c2, .slice A3 l3.length c3] 50 (0, 0)) :: []) (by kernel_rfl) (by decide +kernel) (by decide +kernel) ?_; simp only [List.drop_succ_cons, List.drop_zero]; (repeat ((with_reducible refine is_AQF ?_); first | refine AQF_early (by decide) (by exact (rfl : _ = some (Oper.mk _ _ _ _ _ _))) (by intro K Q hK; (repeat ((with_reducible refine is_move ?_); (refine At_plain hF (by (first | exact (rfl : _ = some (Value.int _ _)) | exact (rfl : _ = some (Value.slice _ _ _)))) ?_))); exact At_nilK hK) ?_ | refine AQF_late (by decide) (by exact (rfl : _ = some (Oper.mk _ _ _ _ _ _))) (by intro E K Q hK; simp only [List.cons_append, List.nil_append] at hK ⊢; (repeat ((with_reducible refine is_move ?_); (refine At_plain hF (by (first | exact (rfl : _ = some (Value.int _ _)) | exact (rfl : _ = some (Value.slice _ _ _)))) ?_))); exact At_nilK hK) ?_))
      refine AQF_late (by decide) (by exact (rfl : _ = some (Oper.mk _ _ _ _ _ _))) (by intro E K Q hK; simp only [List.cons_append, List.nil_append] at hK ⊢; refine At_cut_hm hF (by exact rfl) (by exact rfl) (by exact rfl) (Nat.le_refl i) (by omega) ?_; rw [cutA_zero]; exact At_nilK hK) ?_
      (repeat ((with_reducible refine is_AQF ?_); first | refine AQF_early (by decide) (by exact (rfl : _ = some (Oper.mk _ _ _ _ _ _))) (by intro K Q hK; (repeat (first | ((with_reducible refine is_move ?_); (refine At_plain hF (by (first | exact (rfl : _ = some (Value.int _ _)) | exact (rfl : _ = some (Value.slice _ _ _)))) ?_)) | ((with_reducible refine is_bin ?_); ((with_reducible refine is_badd ?_); (refine At_add hF rfl rfl (by omega) ?_))) | ((with_reducible refine is_load ?_); (refine At_loadB hF 0 rfl rfl rfl ?_)))); exact At_nilK hK) ?_ | refine AQF_late (by decide) (by exact (rfl : _ = some (Oper.mk _ _ _ _ _ _))) (by intro E K Q hK; simp only [List.cons_append, List.nil_append] at hK ⊢; (repeat (first | ((with_reducible refine is_move ?_); (refine At_plain hF (by (first | exact (rfl : _ = some (Value.int _ _)) | exact (rfl : _ = some (Value.slice _ _ _)))) ?_)) | ((with_reducible refine is_bin ?_); ((with_reducible refine is_badd ?_); (refine At_add hF rfl rfl (by omega) ?_))) | ((with_reducible refine is_load ?_); (refine At_loadB hF 0 rfl rfl rfl ?_)))); exact At_nilK hK) ?_))
      refine AQF_late (by decide) (by exact (rfl : _ = some (Oper.mk _ _ _ _ _ _))) (by intro E K Q hK; simp only [List.cons_append, List.nil_append] at hK ⊢; refine At_cut_l (l := i + 1) hF (by exact rfl) (by exact rfl) (by omega) ?_; exact At_nilK hK) ?_
      refine AQF_done ?_
      (refine WAt_cons ?_ (by exact (rfl : _ = some (Oper.mk _ _ _ _ _ _))) ?_; (focus (repeat (first | exact List.Sublist.refl _ | exact List.Sublist.slnil | refine List.Sublist.cons_cons _ ?_ | refine List.Sublist.cons _ ?_))); intro K Q hK)
      refine At_sliceA_1 hF (by decide) rfl rfl ?_
      intro bl
      refine At_nilK (hK _ _ ?_)
      (refine WAt_cons ?_ (by exact (rfl : _ = some (Oper.mk _ _ _ _ _ _))) ?_; (focus (repeat (first | exact List.Sublist.refl _ | exact List.Sublist.slnil | refine List.Sublist.cons_cons _ ?_ | refine List.Sublist.cons _ ?_))); intro K Q hK)
      refine At_spreadNew (sz := 3) (enc := enc44) (l := [⟨rhoZ R kind bk z0, w1, w2⟩]) (ys := own.drop (i + 1)) hF (by exact rfl) rfl rfl (by exact rfl) e2.symm (fun w hw => Lies.obj (hw.at_ 0 rfl) (fun j u hu => by simpa [enc44] using hu)) (fun w hw => by
        by_cases h : co = i + 1
        · exact .inl (by rw [List.drop_of_length_le (by omega)]; rfl)
        · rw [show TS.sz Try.prog 22 = 3 from rfl, cut_at3 _ _ _ h]
          exact Lies.obj (hw.at_ 4 rfl) (fun j u hu => meets_get (i + 1) (by omega) hu)) e44_len (by decide) (by simp only [TS.bytes, List.length_cons, List.length_nil]; omega) (by simp only [List.length_cons, List.length_nil]; omega) ?_ ?_
      · intro hnil
        refine At_nilK (hK _ _ ?_)
        (refine WAt_cons ?_ (by exact (rfl : _ = some (Oper.mk _ _ _ _ _ _))) ?_; (focus (repeat (first | exact List.Sublist.refl _ | exact List.Sublist.slnil | refine List.Sublist.cons_cons _ ?_ | refine List.Sublist.cons _ ?_))); intro K Q hK)
        refine At_spreadNew (sz := 3) (enc := enc44) (l := own.take i) (ys := [⟨rhoZ R kind bk z0, w1, w2⟩]) hF (by exact rfl) e1.symm rfl (by exact rfl) rfl (fun w hw => Lies.obj (hw.at_ 4 rfl) (fun j u hu => meets_take hu)) (fun w hw => Lies.obj (hw.at_ 0 rfl) (fun j u hu => by simpa [enc44] using hu)) e44_len (by decide) (by simp only [TS.bytes, List.length_cons, List.length_nil]; omega) (by simp only [List.length_cons, List.length_nil]; omega) (fun h => by cases h) ?_
        intro _ b2 c2'
        rw [hnil] at hst
        rw [hst]
        have e4 : (own.take i).length + 1 = own.length := by rw [e1]; rw [hnil] at e2; simp only [List.length_nil] at e2; omega
        simp only [List.length_cons, List.length_nil, Nat.zero_add]
        rw [e4]
        refine At_nilK (hK _ _ ?_)
        (refine WAt_nil ?_ ?_; (focus (repeat (first | exact List.Sublist.refl _ | exact List.Sublist.slnil | refine List.Sublist.cons_cons _ ?_ | refine List.Sublist.cons _ ?_))))
        (repeat (first | ((with_reducible refine is_AL ?_); (first | ((with_reducible refine is_move ?_); (refine At_plain hF (by (exact (rfl : _ = some (Value.int _ _)))) ?_)) | ((with_reducible refine is_bin ?_); ((with_reducible refine is_badd ?_); (refine At_add hF rfl rfl (by omega) ?_))) | ((with_reducible refine is_assign ?_); (refine At_plain hF (by (exact (rfl : _ = some (Value.slice _ _ _)))) ?_)) | with_reducible refine At_nil ?_)) | ((with_reducible refine is_At ?_); (first | with_reducible refine At_region ?_ | with_reducible refine At_then_n ?_ | with_reducible refine At_inb_n ?_ | with_reducible refine At_go (by assumption) ?_))))
        (refine At.pick [3, 4, 5, 6, 0] (by decide) (R' := [_, _, _, _, _]) rfl ?_)
        refine At.sub ?_ (hL (i + 1, some (b2, c2')) _ ⟨by simp only; omega, by simp⟩ (by simp only; omega) ?_)
        · dsimp only [t6F]
          (repeat (first | exact List.Sublist.refl _ | exact List.Sublist.slnil | refine List.Sublist.cons_cons _ ?_ | refine List.Sublist.cons _ ?_))
        · dsimp only [v6F]
          (repeat (first | exact True.intro | (refine And.intro ?_ ?_; focus (show _ = (_ : Value); first | exact rfl | (refine Eq.trans (b := Value.int IntKind.i64 _) rfl (congrArg (Value.int IntKind.i64) ?_); omega)))))
      · intro hne b3 c3'
        simp only [List.cons_append, List.nil_append]
        refine At_nilK (hK _ _ ?_)
        (refine WAt_cons ?_ (by exact (rfl : _ = some (Oper.mk _ _ _ _ _ _))) ?_; (focus (repeat (first | exact List.Sublist.refl _ | exact List.Sublist.slnil | refine List.Sublist.cons_cons _ ?_ | refine List.Sublist.cons _ ?_))); intro K Q hK)
        refine At_spreadNew (sz := 3) (enc := enc44) (l := own.take i) (ys := ⟨rhoZ R kind bk z0, w1, w2⟩ :: own.drop (i + 1)) hF (by exact rfl) e1.symm rfl (by exact rfl) (by simp only [List.length_cons, List.length_nil]; omega) (fun w hw => Lies.obj (hw.at_ 5 rfl) (fun j u hu => meets_take hu)) (fun w hw => lies_row hw (List.mem_cons_self ..)) e44_len (by decide) (by simp only [TS.bytes, List.length_cons, List.length_nil]; omega) (by simp only [List.length_cons, List.length_nil]; omega) (fun h => by cases h) ?_
        intro _ b2 c2'
        rw [hst]
        have e4 : (own.take i).length + (own.drop (i + 1)).length + 1 = own.length := by rw [e1, e2]; omega
        simp only [List.length_cons]
        rw [← Nat.add_assoc, e4]
        refine At_nilK (hK _ _ ?_)
        (refine WAt_nil ?_ ?_; (focus (repeat (first | exact List.Sublist.refl _ | exact List.Sublist.slnil | refine List.Sublist.cons_cons _ ?_ | refine List.Sublist.cons _ ?_))))
        (repeat (first | ((with_reducible refine is_AL ?_); (first | ((with_reducible refine is_move ?_); (refine At_plain hF (by (exact (rfl : _ = some (Value.int _ _)))) ?_)) | ((with_reducible refine is_bin ?_); ((with_reducible refine is_badd ?_); (refine At_add hF rfl rfl (by omega) ?_))) | ((with_reducible refine is_assign ?_); (refine At_plain hF (by (exact (rfl : _ = some (Value.slice _ _ _)))) ?_)) | with_reducible refine At_nil ?_)) | ((with_reducible refine is_At ?_); (first | with_reducible refine At_region ?_ | with_reducible refine At_then_n ?_ | with_reducible refine At_inb_n ?_ | with_reducible refine At_go (by assumption) ?_))))
        (refine At.pick [4, 5, 6, 7, 0] (by decide) (R' := [_, _, _, _, _]) rfl ?_)
        refine At.sub ?_ (hL (i + 1, some (b2, c2')) _ ⟨by simp only; omega, by simp⟩ (by simp only; omega) ?_)
        · dsimp only [t6F]
          (repeat (first | exact List.Sublist.refl _ | exact List.Sublist.slnil | refine List.Sublist.cons_cons _ ?_ | refine List.Sublist.cons _ ?_))
        · dsimp only [v6F]
          (repeat (first | exact True.intro | (refine And.intro ?_ ?_; focus (show _ = (_ : Value); first | exact rfl | (refine Eq.trans (b := Value.int IntKind.i64 _) rfl (congrArg (Value.int IntKind.i64) ?_); omega)))))
    | some bc =>
      obtain ⟨bq0, cq⟩ := bc
      dsimp only [v6F, t6F]
      refine At_open 5 rfl (by omega) ?_
      rintro bq jq hbq hq1 hq2 hq3
      obtain rfl : bq = bq0 := (Option.some.inj hbq).symm
      simp only [List.set_cons_succ, List.set_cons_zero]
      (repeat ((with_reducible refine is_At ?_); (with_reducible refine At_go (by assumption) ?_)))
      refine At_drawE hF 12 [0, 1, 2, 3, 4, 6, 7, 8, 9] [] [5, 10, 11] (.obj b16 (.cells #[.int .i64 (rhoZ R kind bk z0), .int .i64 w1, .int .i64 w2] 44) :: .obj bu (.cells (buf (sc (Value.int .i64)) tu ju) 3) :: .obj bt (.cells (buf (sc (Value.int .i64)) te jt) 3) :: .obj bo (.cells (buf enc44 own jo) 44) :: .obj b1 (.cells #[.int .u8 n0, .int .u8 k0, .slice A1 l1.length c1, .slice A2 l2.length c2, .slice A3 l3.length c3] 50 (0, 0)) :: .obj bq (.cells (buf enc44 xs jq) 44) :: []) (by kernel_rfl) (by decide +kernel) (by decide +kernel) ?_; simp only [List.drop_succ_cons, List.drop_zero]; (repeat ((with_reducible refine is_AQF ?_); first | refine AQF_early (by decide) (by exact (rfl : _ = some (Oper.mk _ _ _ _ _ _))) (by intro K Q hK; (repeat ((with_reducible refine is_move ?_); (refine At_plain hF (by (first | exact (rfl : _ = some (Value.int _ _)) | exact (rfl : _ = some (Value.slice _ _ _)))) ?_))); exact At_nilK hK) ?_ | refine AQF_late (by decide) (by exact (rfl : _ = some (Oper.mk _ _ _ _ _ _))) (by intro E K Q hK; simp only [List.cons_append, List.nil_append] at hK ⊢; (repeat ((with_reducible refine is_move ?_); (refine At_plain hF (by (first | exact (rfl : _ = some (Value.int _ _)) | exact (rfl : _ = some (Value.slice _ _ _)))) ?_))); exact At_nilK hK) ?_))
      refine AQF_late (by decide) (by exact (rfl : _ = some (Oper.mk _ _ _ _ _ _))) (by intro E K Q hK; simp only [List.cons_append, List.nil_append] at hK ⊢; refine At_cut_hm hF (by exact rfl) (by exact rfl) (by exact rfl) (Nat.le_refl i) (by omega) ?_; rw [cutA_zero]; exact At_nilK hK) ?_
      (repeat ((with_reducible refine is_AQF ?_); first | refine AQF_early (by decide) (by exact (rfl : _ = some (Oper.mk _ _ _ _ _ _))) (by intro K Q hK; (repeat (first | ((with_reducible refine is_move ?_); (refine At_plain hF (by (first | exact (rfl : _ = some (Value.int _ _)) | exact (rfl : _ = some (Value.slice _ _ _)))) ?_)) | ((with_reducible refine is_bin ?_); ((with_reducible refine is_badd ?_); (refine At_add hF rfl rfl (by omega) ?_))) | ((with_reducible refine is_load ?_); (refine At_loadB hF 0 rfl rfl rfl ?_)))); exact At_nilK hK) ?_ | refine AQF_late (by decide) (by exact (rfl : _ = some (Oper.mk _ _ _ _ _ _))) (by intro E K Q hK; simp only [List.cons_append, List.nil_append] at hK ⊢; (repeat (first | ((with_reducible refine is_move ?_); (refine At_plain hF (by (first | exact (rfl : _ = some (Value.int _ _)) | exact (rfl : _ = some (Value.slice _ _ _)))) ?_)) | ((with_reducible refine is_bin ?_); ((with_reducible refine is_badd ?_); (refine At_add hF rfl rfl (by omega) ?_))) | ((with_reducible refine is_load ?_); (refine At_loadB hF 0 rfl rfl rfl ?_)))); exact At_nilK hK) ?_))
      refine AQF_late (by decide) (by exact (rfl : _ = some (Oper.mk _ _ _ _ _ _))) (by intro E K Q hK; simp only [List.cons_append, List.nil_append] at hK ⊢; refine At_cut_l (l := i + 1) hF (by exact rfl) (by exact rfl) (by omega) ?_; exact At_nilK hK) ?_
      refine AQF_done ?_
      (refine WAt_cons ?_ (by exact (rfl : _ = some (Oper.mk _ _ _ _ _ _))) ?_; (focus (repeat (first | exact List.Sublist.refl _ | exact List.Sublist.slnil | refine List.Sublist.cons_cons _ ?_ | refine List.Sublist.cons _ ?_))); intro K Q hK)
      refine At_sliceA_1 hF (by decide) rfl rfl ?_
      intro bl
      refine At_nilK (hK _ _ ?_)
      (refine WAt_cons ?_ (by exact (rfl : _ = some (Oper.mk _ _ _ _ _ _))) ?_; (focus (repeat (first | exact List.Sublist.refl _ | exact List.Sublist.slnil | refine List.Sublist.cons_cons _ ?_ | refine List.Sublist.cons _ ?_))); intro K Q hK)
      refine At_spreadNew (sz := 3) (enc := enc44) (l := [⟨rhoZ R kind bk z0, w1, w2⟩]) (ys := xs.drop (i + 1)) hF (by exact rfl) rfl rfl (by exact rfl) e2.symm (fun w hw => Lies.obj (hw.at_ 0 rfl) (fun j u hu => by simpa [enc44] using hu)) (fun w hw => by
        by_cases h : cq = i + 1
        · exact .inl (by rw [List.drop_of_length_le (by omega)]; rfl)
        · rw [show TS.sz Try.prog 22 = 3 from rfl, cut_at3 _ _ _ h]
          exact Lies.obj (hw.at_ 6 rfl) (fun j u hu => meets_get (i + 1) (by omega) hu)) e44_len (by decide) (by simp only [TS.bytes, List.length_cons, List.length_nil]; omega) (by simp only [List.length_cons, List.length_nil]; omega) ?_ ?_
      · intro hnil
        refine At_nilK (hK _ _ ?_)
        (refine WAt_cons ?_ (by exact (rfl : _ = some (Oper.mk _ _ _ _ _ _))) ?_; (focus (repeat (first | exact List.Sublist.refl _ | exact List.Sublist.slnil | refine List.Sublist.cons_cons _ ?_ | refine List.Sublist.cons _ ?_))); intro K Q hK)
        refine At_spreadNew (sz := 3) (enc := enc44) (l := xs.take i) (ys := [⟨rhoZ R kind bk z0, w1, w2⟩]) hF (by exact rfl) e1.symm rfl (by exact rfl) rfl (fun w hw => Lies.obj (hw.at_ 6 rfl) (fun j u hu => meets_take hu)) (fun w hw => Lies.obj (hw.at_ 0 rfl) (fun j u hu => by simpa [enc44] using hu)) e44_len (by decide) (by simp only [TS.bytes, List.length_cons, List.length_nil]; omega) (by simp only [List.length_cons, List.length_nil]; omega) (fun h => by cases h) ?_
        intro _ b2 c2'
        rw [hnil] at hst
        rw [hst]
        have e4 : (xs.take i).length + 1 = own.length := by rw [e1]; rw [hnil] at e2; simp only [List.length_nil] at e2; omega
        simp only [List.length_cons, List.length_nil, Nat.zero_add]
        rw [e4]
        refine At_nilK (hK _ _ ?_)
        (refine WAt_nil ?_ ?_; (focus (repeat (first | exact List.Sublist.refl _ | exact List.Sublist.slnil | refine List.Sublist.cons_cons _ ?_ | refine List.Sublist.cons _ ?_))))
        (repeat (first | ((with_reducible refine is_AL ?_); (first | ((with_reducible refine is_move ?_); (refine At_plain hF (by (exact (rfl : _ = some (Value.int _ _)))) ?_)) | ((with_reducible refine is_bin ?_); ((with_reducible refine is_badd ?_); (refine At_add hF rfl rfl (by omega) ?_))) | ((with_reducible refine is_assign ?_); (refine At_plain hF (by (exact (rfl : _ = some (Value.slice _ _ _)))) ?_)) | with_reducible refine At_nil ?_)) | ((with_reducible refine is_At ?_); (first | with_reducible refine At_region ?_ | with_reducible refine At_then_n ?_ | with_reducible refine At_inb_n ?_ | with_reducible refine At_go (by assumption) ?_))))
        (refine At.pick [3, 4, 5, 6, 0] (by decide) (R' := [_, _, _, _, _]) rfl ?_)
        refine At.sub ?_ (hL (i + 1, some (b2, c2')) _ ⟨by simp only; omega, by simp⟩ (by simp only; omega) ?_)
        · dsimp only [t6F]
          (repeat (first | exact List.Sublist.refl _ | exact List.Sublist.slnil | refine List.Sublist.cons_cons _ ?_ | refine List.Sublist.cons _ ?_))
        · dsimp only [v6F]
          (repeat (first | exact True.intro | (refine And.intro ?_ ?_; focus (show _ = (_ : Value); first | exact rfl | (refine Eq.trans (b := Value.int IntKind.i64 _) rfl (congrArg (Value.int IntKind.i64) ?_); omega)))))
      · intro hne b3 c3'
        simp only [List.cons_append, List.nil_append]
        refine At_nilK (hK _ _ ?_)
        (refine WAt_cons ?_ (by exact (rfl : _ = some (Oper.mk _ _ _ _ _ _))) ?_; (focus (repeat (first | exact List.Sublist.refl _ | exact List.Sublist.slnil | refine List.Sublist.cons_cons _ ?_ | refine List.Sublist.cons _ ?_))); intro K Q hK)
        refine At_spreadNew (sz := 3) (enc := enc44) (l := xs.take i) (ys := ⟨rhoZ R kind bk z0, w1, w2⟩ :: xs.drop (i + 1)) hF (by exact rfl) e1.symm rfl (by exact rfl) (by simp only [List.length_cons, List.length_nil]; omega) (fun w hw => Lies.obj (hw.at_ 7 rfl) (fun j u hu => meets_take hu)) (fun w hw => lies_row hw (List.mem_cons_self ..)) e44_len (by decide) (by simp only [TS.bytes, List.length_cons, List.length_nil]; omega) (by simp only [List.length_cons, List.length_nil]; omega) (fun h => by cases h) ?_
        intro _ b2 c2'
        rw [hst]
        have e4 : (xs.take i).length + (xs.drop (i + 1)).length + 1 = own.length := by rw [e1, e2]; omega
        simp only [List.length_cons]
        rw [← Nat.add_assoc, e4]
        refine At_nilK (hK _ _ ?_)
        (refine WAt_nil ?_ ?_; (focus (repeat (first | exact List.Sublist.refl _ | exact List.Sublist.slnil | refine List.Sublist.cons_cons _ ?_ | refine List.Sublist.cons _ ?_))))
        (repeat (first | ((with_reducible refine is_AL ?_); (first | ((with_reducible refine is_move ?_); (refine At_plain hF (by (exact (rfl : _ = some (Value.int _ _)))) ?_)) | ((with_reducible refine is_bin ?_); ((with_reducible refine is_badd ?_); (refine At_add hF rfl rfl (by omega) ?_))) | ((with_reducible refine is_assign ?_); (refine At_plain hF (by (exact (rfl : _ = some (Value.slice _ _ _)))) ?_)) | with_reducible refine At_nil ?_)) | ((with_reducible refine is_At ?_); (first | with_reducible refine At_region ?_ | with_reducible refine At_then_n ?_ | with_reducible refine At_inb_n ?_ | with_reducible refine At_go (by assumption) ?_))))
        (refine At.pick [4, 5, 6, 7, 0] (by decide) (R' := [_, _, _, _, _]) rfl ?_)
        refine At.sub ?_ (hL (i + 1, some (b2, c2')) _ ⟨by simp only; omega, by simp⟩ (by simp only; omega) ?_)
        · dsimp only [t6F]
          (repeat (first | exact List.Sublist.refl _ | exact List.Sublist.slnil | refine List.Sublist.cons_cons _ ?_ | refine List.Sublist.cons _ ?_))
        · dsimp only [v6F]
          (repeat (first | exact True.intro | (refine And.intro ?_ ?_; focus (show _ = (_ : Value); first | exact rfl | (refine Eq.trans (b := Value.int IntKind.i64 _) rfl (congrArg (Value.int IntKind.i64) ?_); omega)))))
  · have hie : i = own.length := by omega
    subst hie
    cases s with
    | none => have := hs.1 rfl; omega
    | some bc =>
      obtain ⟨bq0, cq⟩ := bc
      dsimp only [v6F, t6F]
      subst hR
      have hRR2 := made_rr (tn := l3) hkk hRR hte htu
      rw [turnL_all]
      have hzl : (own.map (zF N (RB.rndsN N) kind te tu l3)).length = own.length := List.length_map ..
      rw [← hzl]
      rw [← hzl] at hol ho1
      generalize own.map (zF N (RB.rndsN N) kind te tu l3) = zs at *
      clear hL hte htu htel htul hxx hlen hzl hi hs
      refine At_open 4 rfl (by omega) ?_
      rintro bq jq hbq hq1 hq2 hq3
      obtain rfl : bq = bq0 := (Option.some.inj hbq).symm
      simp only [List.set_cons_succ, List.set_cons_zero]
      (repeat (first | ((with_reducible refine is_AL ?_); (first | ((with_reducible refine is_move ?_); (refine At_plain hF (by (first | exact (rfl : _ = some (Value.int _ _)) | exact (rfl : _ = some (Value.slice _ _ _)))) ?_)) | ((with_reducible refine is_call ?_); (refine At_len hF rfl ?_)) | with_reducible refine At_nil ?_)) | ((with_reducible refine is_At ?_); (first | with_reducible refine At_seq ?_; intro K hK | with_reducible refine At_block ?_ | with_reducible refine At_region ?_ | with_reducible refine At_exit ?_ | with_reducible refine At_then_n ?_ | with_reducible refine At_then_e ?_ | with_reducible refine At_inb_e rfl ?_ | with_reducible refine At_go (by assumption) ?_))))
      refine At_loop (fun st : Nat × List S44 => [(2, .int .i64 N), (3, .int .i64 kind), (6, .slice (some ⟨bq, 0, none⟩) zs.length cq), (213, .int .i64 zs.length), (214, .int .i64 st.1)])
        (fun st => [.obj bq (.cells (buf enc44 st.2 jq) 44)]) (fun st => st.1 ≤ zs.length ∧ st.2.Perm zs ∧ RB.SrtL (st.2.take st.1)) (fun st => zs.length - st.1) (0, zs) ?_ ?_ ⟨Nat.zero_le _, List.Perm.refl _, List.Pairwise.nil⟩ ?_
      · (repeat (first | exact List.Sublist.refl _ | exact List.Sublist.slnil | refine List.Sublist.cons_cons _ ?_ | refine List.Sublist.cons _ ?_))
      · (repeat (first | exact True.intro | (refine And.intro ?_ ?_; focus (show _ = (_ : Value); first | exact rfl | (refine Eq.trans (b := Value.int IntKind.i64 _) rfl (congrArg (Value.int IntKind.i64) ?_); omega)))))
      rintro ⟨i, xs⟩ ⟨hi, hp, hsr⟩ K hL ρ2
      simp only at hi hp hsr
      try dsimp only
      have hxl := hp.length_eq
      (repeat (first | ((with_reducible refine is_AL ?_); (first | ((with_reducible refine is_bin ?_); (refine At_plain hF (by (exact (rfl : _ = some (Value.bool _)))) ?_)) | with_reducible refine At_nil ?_)) | ((with_reducible refine is_At ?_); (first | with_reducible refine At_seq ?_; intro K hK | with_reducible refine At_region ?_ | with_reducible refine At_then_n ?_ | with_reducible refine At_go (by assumption) ?_))))
      ((with_reducible refine is_cond ?_); (refine At_cond rfl ?_ ?_ <;> (intro hg; try (simp only [decide_eq_true_eq, decide_eq_false_iff_not, beq_iff_eq, bne_iff_ne, beq_eq_false_iff_ne, bne_eq_false_iff_eq, ne_eq, Bool.not_eq_true', Bool.not_eq_false', Bool.not_true, Bool.not_false, Decidable.not_not] at hg); try (exfalso; first | omega | exact hg True.intro))))
      · have hil : i < xs.length := by omega
        (repeat (first | ((with_reducible refine is_AL ?_); (first | ((with_reducible refine is_move ?_); (refine At_plain hF (by (exact (rfl : _ = some (Value.int _ _)))) ?_)) | ((with_reducible refine is_assign ?_); (refine At_plain hF (by (exact (rfl : _ = some (Value.int _ _)))) ?_)) | with_reducible refine At_nil ?_)) | ((with_reducible refine is_At ?_); (first | with_reducible refine At_seq ?_; intro K hK | with_reducible refine At_block ?_ | with_reducible refine At_region ?_ | with_reducible refine At_skip ?_ | with_reducible refine At_then_n ?_ | with_reducible refine At_go (by assumption) ?_))))
        refine At_loop (fun st : Nat × List S44 => [(2, .int .i64 N), (3, .int .i64 kind), (6, .slice (some ⟨bq, 0, none⟩) zs.length cq), (213, .int .i64 zs.length), (214, .int .i64 i), (21, .int .i64 st.1)])
          (fun st => [.obj bq (.cells (buf enc44 st.2 jq) 44)]) (fun st => st.1 ≤ i ∧ st.2.length = zs.length ∧ ∃ a x b c, Ins zs st.2 i st.1 a x b c) (fun st => st.1) (i, xs) ?_ ?_ ⟨Nat.le_refl _, hxl, _, _, _, _, ins_start hp hil hsr⟩ ?_
        · (repeat (first | exact List.Sublist.refl _ | exact List.Sublist.slnil | refine List.Sublist.cons_cons _ ?_ | refine List.Sublist.cons _ ?_))
        · (repeat (first | exact True.intro | (refine And.intro ?_ ?_; focus (show _ = (_ : Value); first | exact rfl | (refine Eq.trans (b := Value.int IntKind.i64 _) rfl (congrArg (Value.int IntKind.i64) ?_); omega)))))
        rintro ⟨k, ys⟩ ⟨hki, hyl, a, x, b, c, hins⟩ K hJ ρ3
        simp only at hki hyl hins
        try dsimp only
        obtain ⟨hgx, hkl⟩ := ins_get hins
        (repeat ((with_reducible refine is_At ?_); (with_reducible refine At_seq ?_; intro K hK)))
        refine At_mergeE (σ := Bool) (fun bb => [(2, .int .i64 N), (3, .int .i64 kind), (6, .slice (some ⟨bq, 0, none⟩) zs.length cq), (213, .int .i64 zs.length), (214, .int .i64 i), (21, .int .i64 k), (261, .bool bb)]) (fun _ => [.obj bq (.cells (buf enc44 ys jq) 44)]) (fun bb => (bb = true → 0 < k ∧ ¬ leM (ys.getD (k - 1) z44) x) ∧ (bb = false → k = 0 ∨ leM (ys.getD (k - 1) z44) x)) ?_ ?_
        · intro K' hK'
          refine At_drawM hF 44 (by kernel_rfl) (by decide +kernel) ?_; simp only [List.take_succ_cons, List.take_zero, List.drop_succ_cons, List.drop_zero]; (repeat ((with_reducible refine is_AQc ?_); refine AQ_cons (by intro K Q hK; (repeat (first | ((with_reducible refine is_move ?_); (refine At_plain hF (by (first | exact (rfl : _ = some (Value.int _ _)) | exact (rfl : _ = some (Value.bool _)))) ?_)) | ((with_reducible refine is_bin ?_); (refine At_plain hF (by (exact (rfl : _ = some (Value.bool _)))) ?_)))); exact At_nilK hK) ?_))
          by_cases hk0 : (k : Int) > 0
          case neg =>
            rw [decide_eq_false hk0]
            (repeat ((with_reducible refine is_AQc ?_); refine AQ_cons (by intro K Q hK; (repeat (first | ((with_reducible refine is_guarded ?_); (first | refine At_guard_f hF rfl (by decide) rfl rfl ?_ | refine At_guard_u hF rfl (by decide) rfl ?_)) | ((with_reducible refine is_pick ?_); (refine At_plain hF (by (exact (rfl : _ = some (Value.bool _)))) ?_)))); exact At_nilK hK) ?_)); refine AQ_done ?_
            (repeat (first | ((with_reducible refine is_AL ?_); (with_reducible refine At_nil ?_)) | ((with_reducible refine is_At ?_); (with_reducible refine At_then_n ?_))))
            refine At.sub ?_ (hK' false _ ⟨(fun h => by cases h), fun _ => .inl (by omega)⟩ ?_)
            · (repeat (first | exact List.Sublist.refl _ | exact List.Sublist.slnil | refine List.Sublist.cons_cons _ ?_ | refine List.Sublist.cons _ ?_))
            · (repeat (first | exact True.intro | (refine And.intro ?_ ?_; focus (show _ = (_ : Value); first | exact rfl | (refine Eq.trans (b := Value.int IntKind.i64 _) rfl (congrArg (Value.int IntKind.i64) ?_); omega)))))
          rw [decide_eq_true hk0]
          obtain ⟨k', rfl⟩ : ∃ k', k = k' + 1 := ⟨k - 1, by omega⟩
          have hk1 : k' < ys.length := by omega
          have hsub : ((k' + 1 : Nat) : Int) - 1 = (k' : Int) := by omega
          rw [Nat.add_sub_cancel] at hK'
          rw [← hgx] at hK'
          (repeat ((with_reducible refine is_AQc ?_); refine AQ_cons (by intro K Q hK; (repeat (first | ((with_reducible refine is_guarded ?_); (refine At_guard_t rfl (by decide) rfl ?_)) | ((with_reducible refine is_move ?_); (refine At_plain hF (by (first | exact (rfl : _ = some (Value.int _ _)) | exact (rfl : _ = some (Value.slice _ _ _)))) ?_)) | ((with_reducible refine is_field ?_); (refine At_field hF rfl ?_)) | ((with_reducible refine is_index ?_); (refine At_indexS hF rfl rfl (by omega) ?_)))); exact At_nilK hK) ?_))
          refine AQ_cons (by intro K Q hK; refine At_guard_t rfl (by decide) rfl ?_; refine At_load hF 0 (by exact rfl) rfl (by exact buf_get (sz := 3) e44_len z44 (k := k' + 1) (j := 0) hkl rfl) ?_; exact At_nilK hK) ?_
          (repeat ((with_reducible refine is_AQc ?_); refine AQ_cons (by intro K Q hK; (repeat (first | ((with_reducible refine is_guarded ?_); (refine At_guard_t rfl (by decide) rfl ?_)) | ((with_reducible refine is_move ?_); (refine At_plain hF (by (first | exact (rfl : _ = some (Value.int _ _)) | exact (rfl : _ = some (Value.slice _ _ _)))) ?_)) | ((with_reducible refine is_bin ?_); ((with_reducible refine is_bsub ?_); (refine At_sub hF rfl rfl (by omega) ?_))))); exact At_nilK hK) ?_))
          rw [hsub]
          (repeat ((with_reducible refine is_AQc ?_); refine AQ_cons (by intro K Q hK; (repeat (first | ((with_reducible refine is_guarded ?_); (refine At_guard_t rfl (by decide) rfl ?_)) | ((with_reducible refine is_field ?_); (refine At_field hF rfl ?_)) | ((with_reducible refine is_index ?_); (refine At_indexS hF rfl rfl (by omega) ?_)))); exact At_nilK hK) ?_))
          refine AQ_cons (by intro K Q hK; refine At_guard_t rfl (by decide) rfl ?_; refine At_load hF 0 (by exact rfl) rfl (by exact buf_get (sz := 3) e44_len z44 (k := k') (j := 0) hk1 rfl) ?_; exact At_nilK hK) ?_
          (repeat ((with_reducible refine is_AQc ?_); refine AQ_cons (by intro K Q hK; (repeat (first | ((with_reducible refine is_guarded ?_); (refine At_guard_t rfl (by decide) rfl ?_)) | ((with_reducible refine is_move ?_); (refine At_plain hF (by (exact (rfl : _ = some (Value.bool _)))) ?_)) | ((with_reducible refine is_bin ?_); (refine At_plain hF (by (exact (rfl : _ = some (Value.bool _)))) ?_)))); exact At_nilK hK) ?_))
          by_cases d1 : (ys.getD (k' + 1) z44).f0 < (ys.getD k' z44).f0
          · rw [decide_eq_true d1]
            (repeat ((with_reducible refine is_AQc ?_); refine AQ_cons (by intro K Q hK; (repeat (first | ((with_reducible refine is_guarded ?_); (first | refine At_guard_t rfl (by decide) rfl ?_ | refine At_guard_f hF rfl (by decide) rfl rfl ?_ | refine At_guard_u hF rfl (by decide) rfl ?_)) | ((with_reducible refine is_pick ?_); (refine At_plain hF (by (exact (rfl : _ = some (Value.bool _)))) ?_)))); exact At_nilK hK) ?_)); refine AQ_done ?_
            (repeat (first | ((with_reducible refine is_AL ?_); (with_reducible refine At_nil ?_)) | ((with_reducible refine is_At ?_); (with_reducible refine At_then_n ?_))))
            refine At.sub ?_ (hK' true _ ⟨fun _ => ⟨by omega, by unfold leM; omega⟩, (fun h => by cases h)⟩ ?_)
            · (repeat (first | exact List.Sublist.refl _ | exact List.Sublist.slnil | refine List.Sublist.cons_cons _ ?_ | refine List.Sublist.cons _ ?_))
            · (repeat (first | exact True.intro | (refine And.intro ?_ ?_; focus (show _ = (_ : Value); first | exact rfl | (refine Eq.trans (b := Value.int IntKind.i64 _) rfl (congrArg (Value.int IntKind.i64) ?_); omega)))))
          rw [decide_eq_false d1]
          (repeat ((with_reducible refine is_AQc ?_); refine AQ_cons (by intro K Q hK; (repeat (first | ((with_reducible refine is_guarded ?_); (refine At_guard_t rfl (by decide) rfl ?_)) | ((with_reducible refine is_move ?_); (refine At_plain hF (by (first | exact (rfl : _ = some (Value.int _ _)) | exact (rfl : _ = some (Value.slice _ _ _)))) ?_)) | ((with_reducible refine is_field ?_); (refine At_field hF rfl ?_)) | ((with_reducible refine is_index ?_); (refine At_indexS hF rfl rfl (by omega) ?_)))); exact At_nilK hK) ?_))
          refine AQ_cons (by intro K Q hK; refine At_guard_t rfl (by decide) rfl ?_; refine At_load hF 0 (by exact rfl) rfl (by exact buf_get (sz := 3) e44_len z44 (k := k' + 1) (j := 0) hkl rfl) ?_; exact At_nilK hK) ?_
          (repeat ((with_reducible refine is_AQc ?_); refine AQ_cons (by intro K Q hK; (repeat (first | ((with_reducible refine is_guarded ?_); (refine At_guard_t rfl (by decide) rfl ?_)) | ((with_reducible refine is_move ?_); (refine At_plain hF (by (first | exact (rfl : _ = some (Value.int _ _)) | exact (rfl : _ = some (Value.slice _ _ _)))) ?_)) | ((with_reducible refine is_bin ?_); ((with_reducible refine is_bsub ?_); (refine At_sub hF rfl rfl (by omega) ?_))))); exact At_nilK hK) ?_))
          rw [hsub]
          (repeat ((with_reducible refine is_AQc ?_); refine AQ_cons (by intro K Q hK; (repeat (first | ((with_reducible refine is_guarded ?_); (refine At_guard_t rfl (by decide) rfl ?_)) | ((with_reducible refine is_field ?_); (refine At_field hF rfl ?_)) | ((with_reducible refine is_index ?_); (refine At_indexS hF rfl rfl (by omega) ?_)))); exact At_nilK hK) ?_))
          refine AQ_cons (by intro K Q hK; refine At_guard_t rfl (by decide) rfl ?_; refine At_load hF 0 (by exact rfl) rfl (by exact buf_get (sz := 3) e44_len z44 (k := k') (j := 0) hk1 rfl) ?_; exact At_nilK hK) ?_
          (repeat ((with_reducible refine is_AQc ?_); refine AQ_cons (by intro K Q hK; (repeat (first | ((with_reducible refine is_guarded ?_); (refine At_guard_t rfl (by decide) rfl ?_)) | ((with_reducible refine is_move ?_); (refine At_plain hF (by (exact (rfl : _ = some (Value.bool _)))) ?_)) | ((with_reducible refine is_bin ?_); (refine At_plain hF (by (exact (rfl : _ = some (Value.bool _)))) ?_)))); exact At_nilK hK) ?_))
          by_cases d2 : (ys.getD (k' + 1) z44).f0 = (ys.getD k' z44).f0
          case neg =>
            rw [show ((ys.getD (k' + 1) z44).f0 == (ys.getD k' z44).f0) = false by rw [beq_eq_false_iff_ne]; exact d2]
            (repeat ((with_reducible refine is_AQc ?_); refine AQ_cons (by intro K Q hK; (repeat (first | ((with_reducible refine is_guarded ?_); (first | refine At_guard_t rfl (by decide) rfl ?_ | refine At_guard_f hF rfl (by decide) rfl rfl ?_)) | ((with_reducible refine is_pick ?_); (refine At_plain hF (by (exact (rfl : _ = some (Value.bool _)))) ?_)))); exact At_nilK hK) ?_)); refine AQ_done ?_
            (repeat (first | ((with_reducible refine is_AL ?_); (with_reducible refine At_nil ?_)) | ((with_reducible refine is_At ?_); (with_reducible refine At_then_n ?_))))
            refine At.sub ?_ (hK' false _ ⟨(fun h => by cases h), fun _ => .inr (by unfold leM; omega)⟩ ?_)
            · (repeat (first | exact List.Sublist.refl _ | exact List.Sublist.slnil | refine List.Sublist.cons_cons _ ?_ | refine List.Sublist.cons _ ?_))
            · (repeat (first | exact True.intro | (refine And.intro ?_ ?_; focus (show _ = (_ : Value); first | exact rfl | (refine Eq.trans (b := Value.int IntKind.i64 _) rfl (congrArg (Value.int IntKind.i64) ?_); omega)))))
          rw [show ((ys.getD (k' + 1) z44).f0 == (ys.getD k' z44).f0) = true by rw [beq_iff_eq]; exact d2]
          (repeat ((with_reducible refine is_AQc ?_); refine AQ_cons (by intro K Q hK; (repeat (first | ((with_reducible refine is_guarded ?_); (refine At_guard_t rfl (by decide) rfl ?_)) | ((with_reducible refine is_move ?_); (refine At_plain hF (by (first | exact (rfl : _ = some (Value.int _ _)) | exact (rfl : _ = some (Value.slice _ _ _)))) ?_)) | ((with_reducible refine is_field ?_); (refine At_field hF rfl ?_)) | ((with_reducible refine is_index ?_); (refine At_indexS hF rfl rfl (by omega) ?_)))); exact At_nilK hK) ?_))
          refine AQ_cons (by intro K Q hK; refine At_guard_t rfl (by decide) rfl ?_; refine At_load hF 0 (by exact rfl) rfl (by exact buf_get (sz := 3) e44_len z44 (k := k' + 1) (j := 1) hkl rfl) ?_; exact At_nilK hK) ?_
          (repeat ((with_reducible refine is_AQc ?_); refine AQ_cons (by intro K Q hK; (repeat (first | ((with_reducible refine is_guarded ?_); (refine At_guard_t rfl (by decide) rfl ?_)) | ((with_reducible refine is_move ?_); (refine At_plain hF (by (first | exact (rfl : _ = some (Value.int _ _)) | exact (rfl : _ = some (Value.slice _ _ _)))) ?_)) | ((with_reducible refine is_bin ?_); ((with_reducible refine is_bsub ?_); (refine At_sub hF rfl rfl (by omega) ?_))))); exact At_nilK hK) ?_))
          rw [hsub]
          (repeat ((with_reducible refine is_AQc ?_); refine AQ_cons (by intro K Q hK; (repeat (first | ((with_reducible refine is_guarded ?_); (refine At_guard_t rfl (by decide) rfl ?_)) | ((with_reducible refine is_field ?_); (refine At_field hF rfl ?_)) | ((with_reducible refine is_index ?_); (refine At_indexS hF rfl rfl (by omega) ?_)))); exact At_nilK hK) ?_))
          refine AQ_cons (by intro K Q hK; refine At_guard_t rfl (by decide) rfl ?_; refine At_load hF 0 (by exact rfl) rfl (by exact buf_get (sz := 3) e44_len z44 (k := k') (j := 1) hk1 rfl) ?_; exact At_nilK hK) ?_
          (repeat ((with_reducible refine is_AQc ?_); refine AQ_cons (by intro K Q hK; (repeat (first | ((with_reducible refine is_guarded ?_); (refine At_guard_t rfl (by decide) rfl ?_)) | ((with_reducible refine is_bin ?_); (refine At_plain hF (by (exact (rfl : _ = some (Value.bool _)))) ?_)) | ((with_reducible refine is_pick ?_); (refine At_plain hF (by (exact (rfl : _ = some (Value.bool _)))) ?_)))); exact At_nilK hK) ?_)); refine AQ_done ?_
          (repeat (first | ((with_reducible refine is_AL ?_); (with_reducible refine At_nil ?_)) | ((with_reducible refine is_At ?_); (with_reducible refine At_then_n ?_))))
          refine At.sub ?_ (hK' (decide ((ys.getD (k' + 1) z44).f1 < (ys.getD k' z44).f1)) _ ⟨fun h => ⟨by omega, ?_⟩, fun h => .inr ?_⟩ ?_)
          · (repeat (first | exact List.Sublist.refl _ | exact List.Sublist.slnil | refine List.Sublist.cons_cons _ ?_ | refine List.Sublist.cons _ ?_))
          · have := of_decide_eq_true h; unfold leM; omega
          · have := of_decide_eq_false h; unfold leM; omega
          · (repeat (first | exact True.intro | (refine And.intro ?_ ?_; focus (show _ = (_ : Value); first | exact rfl | (refine Eq.trans (b := Value.int IntKind.i64 _) rfl (congrArg (Value.int IntKind.i64) ?_); omega)))))
        · intro bb ρ4 hbb
          try dsimp only
          cases bb with
          | false =>
            obtain ⟨hp2, hs2⟩ := ins_end hins (hbb.2 rfl)
            (repeat (first | ((with_reducible refine is_AL ?_); (first | ((with_reducible refine is_move ?_); (refine At_plain hF (by (exact (rfl : _ = some (Value.int _ _)))) ?_)) | ((with_reducible refine is_bin ?_); ((with_reducible refine is_badd ?_); (refine At_add hF rfl rfl (by omega) ?_))) | with_reducible refine At_nil ?_)) | ((with_reducible refine is_At ?_); (first | with_reducible refine At_region ?_ | with_reducible refine At_exit ?_ | with_reducible refine At_then_n ?_ | with_reducible refine At_then_e ?_ | with_reducible refine At_inb_n ?_ | with_reducible refine At_inb_e rfl ?_ | with_reducible refine At_go (by assumption) ?_ | ((with_reducible refine is_cond ?_); (refine At_cond_f rfl ?_))))))
            refine At.sub ?_ (hL (i + 1, ys) _ ⟨by omega, hp2, hs2⟩ (by simp only; omega) ?_)
            · (repeat (first | exact List.Sublist.refl _ | exact List.Sublist.slnil | refine List.Sublist.cons_cons _ ?_ | refine List.Sublist.cons _ ?_))
            · (repeat (first | exact True.intro | (refine And.intro ?_ ?_; focus (show _ = (_ : Value); first | exact rfl | (refine Eq.trans (b := Value.int IntKind.i64 _) rfl (congrArg (Value.int IntKind.i64) ?_); omega)))))
          | true =>
            obtain ⟨hk0, hle⟩ := hbb.1 rfl
            obtain ⟨k', rfl⟩ : ∃ k', k = k' + 1 := ⟨k - 1, by omega⟩
            have hk1 : k' < ys.length := by omega
            have hsub : ((k' + 1 : Nat) : Int) - 1 = (k' : Int) := by omega
            obtain ⟨a', y', hins2⟩ := ins_step hins hle
            rw [← hgx] at hins2
            (repeat ((with_reducible refine is_At ?_); (first | with_reducible refine At_seq ?_; intro K hK | with_reducible refine At_block ?_ | with_reducible refine At_skip ?_ | with_reducible refine At_then_n ?_ | with_reducible refine At_go (by assumption) ?_ | ((with_reducible refine is_cond ?_); (refine At_cond_t rfl ?_)))))
            refine At_drawE hF 18 [0, 1, 2, 3, 4, 5, 6, 7, 8, 9, 10, 11, 12, 13, 14, 16] [0, 1, 5, 6, 7, 8, 9, 10, 11, 12, 13, 14] [15, 17] ([]) (by kernel_rfl) (by decide +kernel) (by decide +kernel) ?_; simp only [List.drop_succ_cons, List.drop_zero]; (repeat ((with_reducible refine is_AQF ?_); first | refine AQF_early (by decide) (by exact (rfl : _ = some (Oper.mk _ _ _ _ _ _))) (by intro K Q hK; (repeat (first | ((with_reducible refine is_move ?_); (refine At_plain hF (by (first | exact (rfl : _ = some (Value.int _ _)) | exact (rfl : _ = some (Value.slice _ _ _)))) ?_)) | ((with_reducible refine is_bin ?_); ((with_reducible refine is_bsub ?_); (refine At_sub hF rfl rfl (by omega) ?_))))); exact At_nilK hK) ?_ | refine AQF_late (by decide) (by exact (rfl : _ = some (Oper.mk _ _ _ _ _ _))) (by intro E K Q hK; simp only [List.cons_append, List.nil_append] at hK ⊢; (repeat (first | ((with_reducible refine is_move ?_); (refine At_plain hF (by (first | exact (rfl : _ = some (Value.int _ _)) | exact (rfl : _ = some (Value.slice _ _ _)))) ?_)) | ((with_reducible refine is_bin ?_); ((with_reducible refine is_bsub ?_); (refine At_sub hF rfl rfl (by omega) ?_))))); exact At_nilK hK) ?_))
            rw [hsub]
            (repeat ((with_reducible refine is_AQF ?_); first | refine AQF_early (by decide) (by exact (rfl : _ = some (Oper.mk _ _ _ _ _ _))) (by intro K Q hK; (repeat ((with_reducible refine is_index ?_); (refine At_indexS hF rfl rfl (by omega) ?_))); exact At_nilK hK) ?_ | refine AQF_late (by decide) (by exact (rfl : _ = some (Oper.mk _ _ _ _ _ _))) (by intro E K Q hK; simp only [List.cons_append, List.nil_append] at hK ⊢; (repeat ((with_reducible refine is_index ?_); (refine At_indexS hF rfl rfl (by omega) ?_))); exact At_nilK hK) ?_))
            refine AQF_early (by decide) (by exact (rfl : _ = some (Oper.mk _ _ _ _ _ _))) (by intro K Q hK; refine At_loadS hF 0 (enc44 (ys.getD k' z44)) (by exact rfl) rfl (by exact rfl) (fun q u hq => buf_get (sz := 3) e44_len z44 hk1 hq) ?_; exact At_nilK hK) ?_
            (repeat ((with_reducible refine is_AQF ?_); first | refine AQF_early (by decide) (by exact (rfl : _ = some (Oper.mk _ _ _ _ _ _))) (by intro K Q hK; (repeat (first | ((with_reducible refine is_move ?_); (refine At_plain hF (by (first | exact (rfl : _ = some (Value.int _ _)) | exact (rfl : _ = some (Value.slice _ _ _)))) ?_)) | ((with_reducible refine is_index ?_); (refine At_indexS hF rfl rfl (by omega) ?_)))); exact At_nilK hK) ?_ | refine AQF_late (by decide) (by exact (rfl : _ = some (Oper.mk _ _ _ _ _ _))) (by intro E K Q hK; simp only [List.cons_append, List.nil_append] at hK ⊢; (repeat (first | ((with_reducible refine is_move ?_); (refine At_plain hF (by (first | exact (rfl : _ = some (Value.int _ _)) | exact (rfl : _ = some (Value.slice _ _ _)))) ?_)) | ((with_reducible refine is_index ?_); (refine At_indexS hF rfl rfl (by omega) ?_)))); exact At_nilK hK) ?_))
            refine AQF_early (by decide) (by exact (rfl : _ = some (Oper.mk _ _ _ _ _ _))) (by intro K Q hK; refine At_loadS hF 0 (enc44 (ys.getD (k' + 1) z44)) (by exact rfl) rfl (by exact rfl) (fun q u hq => buf_get (sz := 3) e44_len z44 hkl hq) ?_; exact At_nilK hK) ?_
            (repeat ((with_reducible refine is_AQF ?_); first | refine AQF_early (by decide) (by exact (rfl : _ = some (Oper.mk _ _ _ _ _ _))) (by intro K Q hK; (repeat ((with_reducible refine is_index ?_); (refine At_indexS hF rfl rfl (by omega) ?_))); exact At_nilK hK) ?_ | refine AQF_late (by decide) (by exact (rfl : _ = some (Oper.mk _ _ _ _ _ _))) (by intro E K Q hK; simp only [List.cons_append, List.nil_append] at hK ⊢; (repeat ((with_reducible refine is_index ?_); (refine At_indexS hF rfl rfl (by omega) ?_))); exact At_nilK hK) ?_))
            refine AQF_done ?_
            (refine WAt_cons ?_ (by exact (rfl : _ = some (Oper.mk _ _ _ _ _ _))) ?_; (focus (repeat (first | exact List.Sublist.refl _ | exact List.Sublist.slnil | refine List.Sublist.cons_cons _ ?_ | refine List.Sublist.cons _ ?_))); intro K Q hK)
            refine At_storeS hF 0 (by exact rfl) (by exact rfl) rfl (by exact rfl) (by show (k' + 1) * 3 + 3 ≤ _; rw [buf_size e44_len]; omega) (by simp [enc44, Value.one1]) (by exact over_buf (sz := 3) e44_len hkl (ys.getD k' z44)) ?_
            simp only [List.set_cons_zero]
            refine At_nilK (hK _ _ ?_)
            (refine WAt_cons ?_ (by exact (rfl : _ = some (Oper.mk _ _ _ _ _ _))) ?_; (focus (repeat (first | exact List.Sublist.refl _ | exact List.Sublist.slnil | refine List.Sublist.cons_cons _ ?_ | refine List.Sublist.cons _ ?_))); intro K Q hK)
            refine At_storeS hF 0 (by exact rfl) (by exact rfl) rfl (by exact rfl) (by show k' * 3 + 3 ≤ _; rw [buf_size e44_len, List.length_set]; omega) (by simp [enc44, Value.one1]) (by exact over_buf (sz := 3) e44_len (by rw [List.length_set]; exact hk1) (ys.getD (k' + 1) z44)) ?_
            simp only [List.set_cons_zero]
            refine At_nilK (hK _ _ ?_)
            (refine WAt_nil ?_ ?_; (focus (repeat (first | exact List.Sublist.refl _ | exact List.Sublist.slnil | refine List.Sublist.cons_cons _ ?_ | refine List.Sublist.cons _ ?_))))
            (repeat (first | ((with_reducible refine is_AL ?_); (first | ((with_reducible refine is_move ?_); (refine At_plain hF (by (exact (rfl : _ = some (Value.int _ _)))) ?_)) | ((with_reducible refine is_bin ?_); ((with_reducible refine is_bsub ?_); (refine At_sub hF rfl rfl (by omega) ?_))) | ((with_reducible refine is_assign ?_); (refine At_plain hF (by (exact (rfl : _ = some (Value.int _ _)))) ?_)) | with_reducible refine At_nil ?_)) | ((with_reducible refine is_At ?_); (first | with_reducible refine At_region ?_ | with_reducible refine At_then_n ?_ | with_reducible refine At_inb_n ?_ | with_reducible refine At_go (by assumption) ?_))))
            rw [hsub]
            refine At.sub ?_ (hJ (k', _) _ ⟨by omega, by simp only [List.length_set]; exact hyl, _, _, _, _, hins2⟩ (by simp only; omega) ?_)
            · (repeat (first | exact List.Sublist.refl _ | exact List.Sublist.slnil | refine List.Sublist.cons_cons _ ?_ | refine List.Sublist.cons _ ?_))
            · (repeat (first | exact True.intro | (refine And.intro ?_ ?_; focus (show _ = (_ : Value); first | exact rfl | (refine Eq.trans (b := Value.int IntKind.i64 _) rfl (congrArg (Value.int IntKind.i64) ?_); omega)))))
      · have hie : i = xs.length := by omega
        have hsr2 : RB.SrtL xs := by rw [hie, List.take_length] at hsr; exact hsr
        have hRX := hRR2.perm hp
        have hok : RB.okC N (RB.rndsN N) kind xs := RB.okC_of hRX (RB.bef_of hsr2 hRX.slt)
        refine At_close 0 rfl e44_len (by omega) (by omega) hq3 ?_
        simp only [List.set_cons_zero]
        (repeat (first | ((with_reducible refine is_AL ?_); ((with_reducible refine is_move ?_); (refine At_plain hF (by (first | exact (rfl : _ = some (Value.int _ _)) | exact (rfl : _ = some (Value.slice _ _ _)))) ?_))) | ((with_reducible refine is_At ?_); (first | with_reducible refine At_seq ?_; intro K hK | with_reducible refine At_region ?_ | with_reducible refine At_exit ?_ | with_reducible refine At_then_n ?_ | with_reducible refine At_then_e ?_ | with_reducible refine At_inb_e rfl ?_ | with_reducible refine At_go (by assumption) ?_))))
        refine At_callB hF E34m rfl (arg3 (by (first | exact (rfl : _ = (Value.int _ _)) | exact (rfl : _ = (Value.bool _)) | exact (rfl : _ = (Value.pointer _)) | exact (rfl : _ = (Value.slice _ _ _)) | exact (rfl : _ = (Value.map _)) | exact (rfl : _ = (Value.func _ _ _)) | exact (rfl : _ = (Value.tuple _)) | exact (rfl : _ = (Value.agg _)) | exact (rfl : _ = (Value.string _)) | exact (rfl : _ = (Value.nilFunc)) | exact (rfl : _ = (Value.nilIface)))) (by (first | exact (rfl : _ = (Value.int _ _)) | exact (rfl : _ = (Value.bool _)) | exact (rfl : _ = (Value.pointer _)) | exact (rfl : _ = (Value.slice _ _ _)) | exact (rfl : _ = (Value.map _)) | exact (rfl : _ = (Value.func _ _ _)) | exact (rfl : _ = (Value.tuple _)) | exact (rfl : _ = (Value.agg _)) | exact (rfl : _ = (Value.string _)) | exact (rfl : _ = (Value.nilFunc)) | exact (rfl : _ = (Value.nilIface)))) (by (first | exact (rfl : _ = (Value.int _ _)) | exact (rfl : _ = (Value.bool _)) | exact (rfl : _ = (Value.pointer _)) | exact (rfl : _ = (Value.slice _ _ _)) | exact (rfl : _ = (Value.map _)) | exact (rfl : _ = (Value.func _ _ _)) | exact (rfl : _ = (Value.tuple _)) | exact (rfl : _ = (Value.agg _)) | exact (rfl : _ = (Value.string _)) | exact (rfl : _ = (Value.nilFunc)) | exact (rfl : _ = (Value.nilIface))))) (fun w' hw' => by
          have h1 := C44_of_row hw' (List.mem_cons_self ..)
          have h2 := RB.chkM_rets w' N kind hn20 hkk _ cq xs h1 (by omega)
          rw [hxl] at h2
          exact h2) ?_
        rw [show RB.chkM N kind xs = 0 from if_pos hok]
        (repeat (first | ((with_reducible refine is_AL ?_); (first | ((with_reducible refine is_bin ?_); (refine At_plain hF (by (exact (rfl : _ = some (Value.bool _)))) ?_)) | ((with_reducible refine is_assign ?_); (refine At_plain hF (by (first | exact (rfl : _ = some (Value.int _ _)) | exact (rfl : _ = some (Value.bool _)) | exact (rfl : _ = some (Value.slice _ _ _)))) ?_)) | with_reducible refine At_nil ?_)) | ((with_reducible refine is_At ?_); (first | with_reducible refine At_ret ?_ | with_reducible refine At_then_n ?_ | with_reducible refine At_go (by assumption) ?_))))
        exact At_ret4 rfl (by decide) (by decide) (by decide) (by decide) (fun w' hw' => ⟨_, rfl, _, ⟨some bq, cq, xs, by rw [hxl]; rfl, hRX, by omega, rfl⟩, hw'⟩)
end Go.Proofs.Ytecgklfcblpkdaa.P

/- PatternsRobin: the law's walk. -/
namespace Go.Proofs.Ytecgklfcblpkdaa.P
open Go.RowKit Go.Proofs.YtecgklfcblpkdaaW.PrintWords Go.Proofs.YtecgklfcblpkdaaW.PrintLast Go.Proofs.YtecgklfcblpkdaaW.PrintMore
open XW RegInv
attribute [local irreducible] Addr.add
set_option linter.unusedSimpArgs false
set_option linter.unusedVariables false

theorem E10r : Enters Try.prog 10 := enters Try.func10 (by kernel_rfl) rfl
theorem E23r : Enters Try.prog 23 := enters Try.func23 (by kernel_rfl) rfl
theorem sumB_snoc (p : List (List Int)) (j : Nat) : sumN (fun t => brk (p.getD t [])) (j + 1) = sumN (fun t => brk (p.getD t [])) j + brk (p.getD j []) := rfl
set_option maxHeartbeats 8000000 in
theorem robin_law {w0 : World} (n0 k0 : Int) (A1 : Option Addr) (c1 : Nat) (l1 : List Int) (A2 : Option Addr) (c2 : Nat) (l2 : List Int) (A3 : Option Addr) (c3 : Nat) (l3 : List Bool) (h0 : 0 ≤ n0 ∧ n0 ≤ 255) (h1 : 0 ≤ k0 ∧ k0 ≤ 255)
    (hr1 : Kd.C (Kd.int .u8) w0 A1 l1.length l1) (hc1 : l1.length ≤ c1) (hl1 : ∀ x ∈ l1, 0 ≤ x ∧ x ≤ 255) (hr2 : Kd.C (Kd.int .u8) w0 A2 l2.length l2) (hc2 : l2.length ≤ c2) (hl2 : ∀ x ∈ l2, 0 ≤ x ∧ x ≤ 255) (hr3 : Kd.C Kd.bool w0 A3 l3.length l3) (hc3 : l3.length ≤ c3) :
    Rets Try.prog 9 #[.agg (planV n0 k0 A1 c1 l1 A2 c2 l2 A3 c3 l3)] w0 fun u w' => u = .bool true ∧ Below w0.heap.size w0 w' := by
  have hF := wide_wide
  obtain ⟨N, hN⟩ : ∃ N : Nat, (N : Int) = 2 + n0 % 11 := ⟨(2 + n0 % 11).toNat, by omega⟩
  obtain ⟨kind, hk⟩ : ∃ kind : Int, kind = 1 + k0 % 3 := ⟨_, rfl⟩
  have hn : 2 ≤ N ∧ N ≤ 12 := by omega
  have hkk : 1 ≤ kind ∧ kind ≤ 3 := by omega
  refine rets_at (n := 99) Try.func9 rfl Try.ntmps9 (by simp) ?_
  unfold planV
  ((repeat (first | ((with_reducible refine is_AL ?_); (first | ((with_reducible refine is_assign ?_); (refine At_plain hF (by (exact (rfl : _ = some (Value.bool _)))) ?_)) | with_reducible refine At_nil ?_)) | ((with_reducible refine is_At ?_); (first | with_reducible refine At_seq ?_; intro K hK | with_reducible refine At_region ?_ | with_reducible refine At_then_n ?_ | with_reducible refine At_go (by assumption) ?_)))); ((with_reducible refine is_box ?_); (refine At_boxA hF rfl ?_; intro b1)); (repeat (first | ((with_reducible refine is_AL ?_); (first | ((with_reducible refine is_assign ?_); (refine At_plain hF (by (exact (rfl : _ = some (Value.bool _)))) ?_)) | with_reducible refine At_nil ?_)) | ((with_reducible refine is_At ?_); (first | with_reducible refine At_seq ?_; intro K hK | with_reducible refine At_region ?_ | with_reducible refine At_then_n ?_ | with_reducible refine At_go (by assumption) ?_)))))
  refine At_callB hF E10r rfl (vs := #[]) (by simp) (fun w' hw' => sane_rets w') ?_
  (repeat (first | ((with_reducible refine is_AL ?_); (first | ((with_reducible refine is_un ?_); (refine At_plain hF (by (exact (rfl : _ = some (Value.bool _)))) ?_)) | ((with_reducible refine is_load ?_); (refine At_loadB hF 0 rfl rfl rfl ?_)) | with_reducible refine At_nil ?_)) | ((with_reducible refine is_At ?_); (first | with_reducible refine At_seq ?_; intro K hK | with_reducible refine At_region ?_ | with_reducible refine At_skip ?_ | with_reducible refine At_then_n ?_ | with_reducible refine At_go (by assumption) ?_ | ((with_reducible refine is_cond ?_); (refine At_cond_f rfl ?_))))))
  refine At_callM (Post := fun u Rs => ∃ A c m, u = .tuple #[.int .i64 N, .int .i64 kind, rowV A m.length c, .bool true] ∧ RB.RR N (RB.rndsN N) kind m ∧ m.length ≤ 1000 ∧ Rs = [.row 44 3 enc44 A c m]) hF E23r rfl (arg1 (by (first | exact (rfl : _ = (Value.int _ _)) | exact (rfl : _ = (Value.bool _)) | exact (rfl : _ = (Value.pointer _)) | exact (rfl : _ = (Value.slice _ _ _)) | exact (rfl : _ = (Value.map _)) | exact (rfl : _ = (Value.func _ _ _)) | exact (rfl : _ = (Value.tuple _)) | exact (rfl : _ = (Value.agg _)) | exact (rfl : _ = (Value.string _)) | exact (rfl : _ = (Value.nilFunc)) | exact (rfl : _ = (Value.nilIface))))) (fun w' hw' => made_rets n0 k0 A1 c1 l1 A2 c2 l2 A3 c3 l3 N kind h0 h1 hN hk (Kd.C_below hr1 hw'.below) hc1 hl1 (Kd.C_below hr2 hw'.below) hc2 hl2 (Kd.C_below hr3 hw'.below) hc3) ?_
  rintro u Rs ⟨Am, cm, m, rfl, hRR, hml, rfl⟩
  simp only [List.cons_append, List.nil_append]
  clear hr1 hc1 hl1 hr2 hc2 hl2 hr3 hc3
  (repeat (first | ((with_reducible refine is_AL ?_); (first | ((with_reducible refine is_move ?_); (refine At_plain hF (by (first | exact (rfl : _ = some (Value.int _ _)) | exact (rfl : _ = some (Value.bool _)) | exact (rfl : _ = some (Value.slice _ _ _)) | exact (rfl : _ = some (Value.tuple _)))) ?_)) | ((with_reducible refine is_assign ?_); (refine At_plain hF (by (first | exact (rfl : _ = some (Value.int _ _)) | exact (rfl : _ = some (Value.bool _)) | exact (rfl : _ = some (Value.slice _ _ _)))) ?_)) | ((with_reducible refine is_extract ?_); (refine At_plain hF (by (first | exact (rfl : _ = some (Value.int _ _)) | exact (rfl : _ = some (Value.bool _)) | exact (rfl : _ = some (Value.slice _ _ _)))) ?_)) | ((with_reducible refine is_un ?_); (refine At_plain hF (by (exact (rfl : _ = some (Value.bool _)))) ?_)) | with_reducible refine At_nil ?_)) | ((with_reducible refine is_At ?_); (first | with_reducible refine At_seq ?_; intro K hK | with_reducible refine At_region ?_ | with_reducible refine At_skip ?_ | with_reducible refine At_then_n ?_ | with_reducible refine At_go (by assumption) ?_ | ((with_reducible refine is_cond ?_); (refine At_cond_f rfl ?_))))))
  have hok := rr_okM hn hkk hRR
  have hof : ofF N m = (patM N m, 0) := by unfold ofF; rw [if_neg (by omega), if_pos hok, Int.toNat_natCast]
  have hpk := rr_patOk hn hkk hRR
  have hpl : (patM N m).length = N := (patM_rect (by omega) hok).1
  refine At_callK hF E12 rfl (arg2 (by (first | exact (rfl : _ = (Value.int _ _)) | exact (rfl : _ = (Value.bool _)) | exact (rfl : _ = (Value.pointer _)) | exact (rfl : _ = (Value.slice _ _ _)) | exact (rfl : _ = (Value.map _)) | exact (rfl : _ = (Value.func _ _ _)) | exact (rfl : _ = (Value.tuple _)) | exact (rfl : _ = (Value.agg _)) | exact (rfl : _ = (Value.string _)) | exact (rfl : _ = (Value.nilFunc)) | exact (rfl : _ = (Value.nilIface)))) (by (first | exact (rfl : _ = (Value.int _ _)) | exact (rfl : _ = (Value.bool _)) | exact (rfl : _ = (Value.pointer _)) | exact (rfl : _ = (Value.slice _ _ _)) | exact (rfl : _ = (Value.map _)) | exact (rfl : _ = (Value.func _ _ _)) | exact (rfl : _ = (Value.tuple _)) | exact (rfl : _ = (Value.agg _)) | exact (rfl : _ = (Value.string _)) | exact (rfl : _ = (Value.nilFunc)) | exact (rfl : _ = (Value.nilIface))))) (fun w hw => of_lit (A := Am.map fun b => ⟨b, 0, none⟩) (c := cm) (C44_of_row hw (List.mem_cons_self ..)) ((hw.ok _ (List.mem_cons_self ..) : RowOk 44 3 enc44 Am cm m _).2.1) hml (patM N m) 0 hof) ?_
  rintro _ w1 hb1 ⟨A4, c4, rfl, hc4, hp4⟩
  (repeat (first | ((with_reducible refine is_AL ?_); (first | ((with_reducible refine is_move ?_); (refine At_plain hF (by (first | exact (rfl : _ = some (Value.slice _ _ _)) | exact (rfl : _ = some (Value.tuple _)))) ?_)) | ((with_reducible refine is_assign ?_); (refine At_plain hF (by (first | exact (rfl : _ = some (Value.int _ _)) | exact (rfl : _ = some (Value.slice _ _ _)))) ?_)) | ((with_reducible refine is_extract ?_); (refine At_plain hF (by (first | exact (rfl : _ = some (Value.int _ _)) | exact (rfl : _ = some (Value.slice _ _ _)))) ?_)) | with_reducible refine At_nil ?_)) | ((with_reducible refine is_At ?_); (first | with_reducible refine At_seq ?_; intro K hK | with_reducible refine At_region ?_ | with_reducible refine At_then_n ?_ | with_reducible refine At_go (by assumption) ?_))))
  obtain ⟨Kb, hKb⟩ := br_ev (patM N m) (by rw [hpl]; omega)
  have hbr : brF (patM N m) = ((patM N m).map brk, 0) := by rw [brF, if_pos hpk]
  have hbl : ((patM N m).map brk).length = N := by rw [List.length_map, hpl]
  refine At_callK hF E14 rfl (arg1 (by (first | exact (rfl : _ = (Value.int _ _)) | exact (rfl : _ = (Value.bool _)) | exact (rfl : _ = (Value.pointer _)) | exact (rfl : _ = (Value.slice _ _ _)) | exact (rfl : _ = (Value.map _)) | exact (rfl : _ = (Value.func _ _ _)) | exact (rfl : _ = (Value.tuple _)) | exact (rfl : _ = (Value.agg _)) | exact (rfl : _ = (Value.string _)) | exact (rfl : _ = (Value.nilFunc)) | exact (rfl : _ = (Value.nilIface))))) (fun w hw => br_lit (Kd.C_below hp4 hw.below) hc4 ((patM N m).map brk) 0 Kb (by rw [← hbr]; exact hKb Kb (Nat.le_refl _))) ?_
  rintro _ w2 hb2 ⟨A5, c5, rfl, hc5, hp5⟩
  (repeat (first | ((with_reducible refine is_AL ?_); (first | ((with_reducible refine is_move ?_); (refine At_plain hF (by (first | exact (rfl : _ = some (Value.int _ _)) | exact (rfl : _ = some (Value.tuple _)))) ?_)) | ((with_reducible refine is_assign ?_); (refine At_plain hF (by (first | exact (rfl : _ = some (Value.int _ _)) | exact (rfl : _ = some (Value.slice _ _ _)))) ?_)) | ((with_reducible refine is_extract ?_); (refine At_plain hF (by (first | exact (rfl : _ = some (Value.int _ _)) | exact (rfl : _ = some (Value.slice _ _ _)))) ?_)) | with_reducible refine At_nil ?_)) | ((with_reducible refine is_At ?_); (first | with_reducible refine At_seq ?_; intro K hK | with_reducible refine At_region ?_ | with_reducible refine At_then_n ?_ | with_reducible refine At_go (by assumption) ?_))))
  obtain ⟨Kl, hKl⟩ := least_ev N kind
  have hle : leastF N kind = ((leastF N kind).1, 0) := by
    unfold leastF
    rw [if_neg (by omega)]
    split
    · split <;> rfl
    · split
      · split <;> rfl
      · omega
  have hlb : -100 ≤ (leastF N kind).1 ∧ (leastF N kind).1 ≤ 100 := by
    unfold leastF
    rw [if_neg (by omega)]
    split
    · split <;> simp <;> omega
    · split
      · split <;> simp <;> omega
      · simp
  have hsum := rr_breaks hn hkk hRR
  refine At_callB hF E18 rfl (arg2 (by (first | exact (rfl : _ = (Value.int _ _)) | exact (rfl : _ = (Value.bool _)) | exact (rfl : _ = (Value.pointer _)) | exact (rfl : _ = (Value.slice _ _ _)) | exact (rfl : _ = (Value.map _)) | exact (rfl : _ = (Value.func _ _ _)) | exact (rfl : _ = (Value.tuple _)) | exact (rfl : _ = (Value.agg _)) | exact (rfl : _ = (Value.string _)) | exact (rfl : _ = (Value.nilFunc)) | exact (rfl : _ = (Value.nilIface)))) (by (first | exact (rfl : _ = (Value.int _ _)) | exact (rfl : _ = (Value.bool _)) | exact (rfl : _ = (Value.pointer _)) | exact (rfl : _ = (Value.slice _ _ _)) | exact (rfl : _ = (Value.map _)) | exact (rfl : _ = (Value.func _ _ _)) | exact (rfl : _ = (Value.tuple _)) | exact (rfl : _ = (Value.agg _)) | exact (rfl : _ = (Value.string _)) | exact (rfl : _ = (Value.nilFunc)) | exact (rfl : _ = (Value.nilIface))))) (fun w' hw' => least_lit Kl (leastF N kind).1 0 (by rw [← hle]; exact hKl Kl (Nat.le_refl _))) ?_
  generalize (leastF N kind).1 = least at *
  have hvio : N ≤ 10 → vioF (patM N m) = ([], false, 0) := fun h => rr_vio ⟨hn.1, h⟩ hkk hRR
  have hbb : ∀ t, t < N → 0 ≤ brk ((patM N m).getD t []) ∧ brk ((patM N m).getD t []) ≤ 64 := fun t ht => by
    have h2 := brk_bd ((patM N m).getD t [])
    have h3 := (hpk.2 _ (getD_mem' (l := patM N m) (k := t) (d := []) (by omega))).2.1
    omega
  have hbs : ∀ n, n ≤ N → 0 ≤ sumN (fun t => brk ((patM N m).getD t [])) n ∧ sumN (fun t => brk ((patM N m).getD t [])) n ≤ 64 * n := fun n => by
    induction n with
    | zero => intro _; exact ⟨Int.le_refl 0, Int.le_refl 0⟩
    | succ n ih => intro hn; have := ih (by omega); have := hbb n (by omega); rw [sumB_snoc]; omega
  have hget : ∀ j, j < N → ((patM N m).map brk).getD j 0 = brk ((patM N m).getD j []) := fun j hj => brF_get j (by omega)
  have hb12 : Below w0.heap.size w0 w2 := hb1.trans (Below.mono hb2 hb1.size)
  have hp4' := Kd.C_below hp4 hb2
  clear hKb hKl hbr hof hok hp4
  generalize patM N m = p at *
  generalize p.map brk = bl at *
  rw [hbl] at hc5 hp5 ⊢
  (repeat (first | ((with_reducible refine is_AL ?_); (first | ((with_reducible refine is_guarded ?_); (refine At_guard_t rfl (by decide) rfl ?_)) | ((with_reducible refine is_move ?_); (refine At_plain hF (by (first | exact (rfl : _ = some (Value.int _ _)) | exact (rfl : _ = some (Value.bool _)) | exact (rfl : _ = some (Value.slice _ _ _)) | exact (rfl : _ = some (Value.tuple _)))) ?_)) | ((with_reducible refine is_bin ?_); (refine At_plain hF (by (exact (rfl : _ = some (Value.bool _)))) ?_)) | ((with_reducible refine is_assign ?_); (refine At_plain hF (by (exact (rfl : _ = some (Value.int _ _)))) ?_)) | ((with_reducible refine is_pick ?_); (refine At_plain hF (by (exact (rfl : _ = some (Value.bool _)))) ?_)) | ((with_reducible refine is_extract ?_); (refine At_plain hF (by (exact (rfl : _ = some (Value.int _ _)))) ?_)) | ((with_reducible refine is_call ?_); (refine At_len hF rfl ?_)) | with_reducible refine At_nil ?_)) | ((with_reducible refine is_At ?_); (first | with_reducible refine At_seq ?_; intro K hK | with_reducible refine At_region ?_ | with_reducible refine At_then_n ?_ | with_reducible refine At_go (by assumption) ?_))))
  ((with_reducible refine is_cond ?_); (refine At_cond rfl ?_ ?_ <;> (intro hg; try (simp only [decide_eq_true_eq, decide_eq_false_iff_not, beq_iff_eq, bne_iff_ne, beq_eq_false_iff_ne, bne_eq_false_iff_eq, ne_eq, Bool.not_eq_true', Bool.not_eq_false', Bool.not_true, Bool.not_false, Decidable.not_not] at hg); try (exfalso; first | omega | exact hg True.intro))))
  (repeat (first | ((with_reducible refine is_AL ?_); (first | ((with_reducible refine is_move ?_); (refine At_plain hF (by (first | exact (rfl : _ = some (Value.int _ _)) | exact (rfl : _ = some (Value.slice _ _ _)))) ?_)) | ((with_reducible refine is_assign ?_); (refine At_plain hF (by (exact (rfl : _ = some (Value.int _ _)))) ?_)) | ((with_reducible refine is_call ?_); (refine At_len hF rfl ?_)) | with_reducible refine At_nil ?_)) | ((with_reducible refine is_At ?_); (first | with_reducible refine At_seq ?_; intro K hK | with_reducible refine At_block ?_ | with_reducible refine At_region ?_ | with_reducible refine At_skip ?_ | with_reducible refine At_then_n ?_ | with_reducible refine At_go (by assumption) ?_))))
  refine At_loop (fun j : Nat => [(3, .int .i64 N), (4, .int .i64 kind), (7, .slice A4 p.length c4), (11, .int .i64 least), (13, .int .i64 (sumN (fun t => brk (p.getD t [])) j)), (63, .slice A5 N c5), (64, .int .i64 N), (65, .int .i64 j)])
    (fun _ => []) (fun j => j ≤ N) (fun j => N - j) 0 ?_ ?_ (Nat.zero_le _) ?_
  · (repeat (first | exact List.Sublist.refl _ | exact List.Sublist.slnil | refine List.Sublist.cons_cons _ ?_ | refine List.Sublist.cons _ ?_))
  · (repeat (first | exact True.intro | (refine And.intro ?_ ?_; focus (show _ = (_ : Value); first | exact rfl | (refine Eq.trans (b := Value.int IntKind.i64 _) rfl (congrArg (Value.int IntKind.i64) ?_); omega)))))
  intro j hj K hL ρ0
  try dsimp only
  have hbj := hbs j hj
  (repeat (first | ((with_reducible refine is_AL ?_); (first | ((with_reducible refine is_bin ?_); (refine At_plain hF (by (exact (rfl : _ = some (Value.bool _)))) ?_)) | with_reducible refine At_nil ?_)) | ((with_reducible refine is_At ?_); (first | with_reducible refine At_seq ?_; intro K hK | with_reducible refine At_region ?_ | with_reducible refine At_then_n ?_ | with_reducible refine At_go (by assumption) ?_))))
  ((with_reducible refine is_cond ?_); (refine At_cond rfl ?_ ?_ <;> (intro hg; try (simp only [decide_eq_true_eq, decide_eq_false_iff_not, beq_iff_eq, bne_iff_ne, beq_eq_false_iff_ne, bne_eq_false_iff_eq, ne_eq, Bool.not_eq_true', Bool.not_eq_false', Bool.not_true, Bool.not_false, Decidable.not_not] at hg); try (exfalso; first | omega | exact hg True.intro))))
  · have hjl : j < N := by omega
    obtain ⟨ad, hA, hcell⟩ := CI hp5 j hjl
    rw [hget j hjl] at hcell
    have hbj2 := hbb j hjl
    have hsn := sumB_snoc p j
    (repeat (first | ((with_reducible refine is_AL ?_); ((with_reducible refine is_index ?_); (refine At_indexC1 hF rfl (by assumption) rfl rfl (by omega) ?_))) | ((with_reducible refine is_At ?_); (first | with_reducible refine At_seq ?_; intro K hK | with_reducible refine At_block ?_ | with_reducible refine At_region ?_ | with_reducible refine At_skip ?_ | with_reducible refine At_then_n ?_ | with_reducible refine At_go (by assumption) ?_))))
    refine At_loadC hF (by exact rfl) (by exact hcell) ?_
    (repeat (first | ((with_reducible refine is_AL ?_); (first | ((with_reducible refine is_move ?_); (refine At_plain hF (by (exact (rfl : _ = some (Value.int _ _)))) ?_)) | ((with_reducible refine is_bin ?_); ((with_reducible refine is_badd ?_); (refine At_add hF rfl rfl (by omega) ?_))) | ((with_reducible refine is_assign ?_); (refine At_plain hF (by (exact (rfl : _ = some (Value.int _ _)))) ?_)) | with_reducible refine At_nil ?_)) | ((with_reducible refine is_At ?_); (first | with_reducible refine At_region ?_ | with_reducible refine At_then_n ?_ | with_reducible refine At_inb_n ?_ | with_reducible refine At_go (by assumption) ?_))))
    rw [← hsn]
    refine At.sub ?_ (hL (j + 1) _ (by omega) (by omega) ?_)
    · (repeat (first | exact List.Sublist.refl _ | exact List.Sublist.slnil | refine List.Sublist.cons_cons _ ?_ | refine List.Sublist.cons _ ?_))
    · (repeat (first | exact True.intro | (refine And.intro ?_ ?_; focus (show _ = (_ : Value); first | exact rfl | (refine Eq.trans (b := Value.int IntKind.i64 _) rfl (congrArg (Value.int IntKind.i64) ?_); omega)))))
  · obtain rfl : j = N := by omega
    (repeat (first | ((with_reducible refine is_AL ?_); (first | ((with_reducible refine is_move ?_); (refine At_plain hF (by (exact (rfl : _ = some (Value.int _ _)))) ?_)) | ((with_reducible refine is_bin ?_); (refine At_plain hF (by (exact (rfl : _ = some (Value.bool _)))) ?_)) | with_reducible refine At_nil ?_)) | ((with_reducible refine is_At ?_); (first | with_reducible refine At_seq ?_; intro K hK | with_reducible refine At_region ?_ | with_reducible refine At_exit ?_ | with_reducible refine At_then_n ?_ | with_reducible refine At_then_e ?_ | with_reducible refine At_inb_e rfl ?_ | with_reducible refine At_go (by assumption) ?_))))
    ((with_reducible refine is_cond ?_); (refine At_cond rfl ?_ ?_ <;> (intro hg; try (simp only [decide_eq_true_eq, decide_eq_false_iff_not, beq_iff_eq, bne_iff_ne, beq_eq_false_iff_ne, bne_eq_false_iff_eq, ne_eq, Bool.not_eq_true', Bool.not_eq_false', Bool.not_true, Bool.not_false, Decidable.not_not] at hg); try (exfalso; first | omega | exact hg True.intro))))
    (repeat (first | ((with_reducible refine is_AL ?_); (first | ((with_reducible refine is_move ?_); (refine At_plain hF (by (first | exact (rfl : _ = some (Value.int _ _)) | exact (rfl : _ = some (Value.bool _)))) ?_)) | ((with_reducible refine is_bin ?_); (refine At_plain hF (by (exact (rfl : _ = some (Value.bool _)))) ?_)))) | ((with_reducible refine is_At ?_); (first | with_reducible refine At_seq ?_; intro K hK | with_reducible refine At_region ?_ | with_reducible refine At_skip ?_ | with_reducible refine At_then_n ?_ | with_reducible refine At_go (by assumption) ?_))))
    by_cases hk1 : kind = 1
    · subst hk1
      (repeat (first | ((with_reducible refine is_AL ?_); (first | ((with_reducible refine is_guarded ?_); (refine At_guard_t rfl (by decide) rfl ?_)) | ((with_reducible refine is_move ?_); (refine At_plain hF (by (exact (rfl : _ = some (Value.int _ _)))) ?_)) | ((with_reducible refine is_bin ?_); (refine At_plain hF (by (exact (rfl : _ = some (Value.bool _)))) ?_)) | ((with_reducible refine is_pick ?_); (refine At_plain hF (by (exact (rfl : _ = some (Value.bool _)))) ?_)) | with_reducible refine At_nil ?_)) | ((with_reducible refine is_At ?_); (first | with_reducible refine At_then_n ?_ | with_reducible refine At_go (by assumption) ?_))))
      by_cases h10 : j ≤ 10
      · rw [show decide ((j : Int) > 10) = false from decide_eq_false (by omega)]
        (repeat (first | ((with_reducible refine is_AL ?_); ((with_reducible refine is_move ?_); (refine At_plain hF (by (exact (rfl : _ = some (Value.slice _ _ _)))) ?_))) | ((with_reducible refine is_At ?_); (first | with_reducible refine At_seq ?_; intro K hK | with_reducible refine At_region ?_ | with_reducible refine At_skip ?_ | with_reducible refine At_then_n ?_ | with_reducible refine At_go (by assumption) ?_ | ((with_reducible refine is_cond ?_); (refine At_cond_f rfl ?_))))))
        refine At_callK hF E20 rfl (arg1 (by (first | exact (rfl : _ = (Value.int _ _)) | exact (rfl : _ = (Value.bool _)) | exact (rfl : _ = (Value.pointer _)) | exact (rfl : _ = (Value.slice _ _ _)) | exact (rfl : _ = (Value.map _)) | exact (rfl : _ = (Value.func _ _ _)) | exact (rfl : _ = (Value.tuple _)) | exact (rfl : _ = (Value.agg _)) | exact (rfl : _ = (Value.string _)) | exact (rfl : _ = (Value.nilFunc)) | exact (rfl : _ = (Value.nilIface))))) (fun w hw => vio_lit (Kd.C_below hp4' hw.below) hc4 [] false 0 (hvio h10)) ?_
        rintro _ w3 hb3 ⟨A6, c6, rfl, hc6, _⟩
        have hb13 : Below w0.heap.size w0 w3 := hb12.trans (Below.mono hb3 hb12.size)
        (repeat (first | ((with_reducible refine is_AL ?_); (first | ((with_reducible refine is_guarded ?_); (refine At_guard_t rfl (by decide) rfl ?_)) | ((with_reducible refine is_move ?_); (refine At_plain hF (by (first | exact (rfl : _ = some (Value.int _ _)) | exact (rfl : _ = some (Value.bool _)) | exact (rfl : _ = some (Value.slice _ _ _)) | exact (rfl : _ = some (Value.tuple _)))) ?_)) | ((with_reducible refine is_bin ?_); (refine At_plain hF (by (exact (rfl : _ = some (Value.bool _)))) ?_)) | ((with_reducible refine is_assign ?_); (refine At_plain hF (by (first | exact (rfl : _ = some (Value.int _ _)) | exact (rfl : _ = some (Value.bool _)) | exact (rfl : _ = some (Value.slice _ _ _)))) ?_)) | ((with_reducible refine is_pick ?_); (refine At_plain hF (by (exact (rfl : _ = some (Value.bool _)))) ?_)) | ((with_reducible refine is_extract ?_); (refine At_plain hF (by (first | exact (rfl : _ = some (Value.int _ _)) | exact (rfl : _ = some (Value.bool _)) | exact (rfl : _ = some (Value.slice _ _ _)))) ?_)) | ((with_reducible refine is_un ?_); (refine At_plain hF (by (exact (rfl : _ = some (Value.bool _)))) ?_)) | ((with_reducible refine is_call ?_); (refine At_len hF rfl ?_)) | with_reducible refine At_nil ?_)) | ((with_reducible refine is_At ?_); (first | with_reducible refine At_seq ?_; intro K hK | with_reducible refine At_region ?_ | with_reducible refine At_ret ?_ | with_reducible refine At_then_n ?_ | with_reducible refine At_go (by assumption) ?_))))
        exact At_ret1 rfl (rv_tmp (by decide)) (fun w' hw' => ⟨_, rfl, rfl, hb13.trans (Below.mono hw'.below hb13.size)⟩)
      · rw [show decide ((j : Int) > 10) = true from decide_eq_true (by omega)]
        (repeat (first | ((with_reducible refine is_AL ?_); (first | ((with_reducible refine is_assign ?_); (refine At_plain hF (by (exact (rfl : _ = some (Value.bool _)))) ?_)) | with_reducible refine At_nil ?_)) | ((with_reducible refine is_At ?_); (first | with_reducible refine At_seq ?_; intro K hK | with_reducible refine At_region ?_ | with_reducible refine At_ret ?_ | with_reducible refine At_then_n ?_ | with_reducible refine At_then_r ?_ | with_reducible refine At_go (by assumption) ?_ | ((with_reducible refine is_cond ?_); (refine At_cond_t rfl ?_))))))
        exact At_ret1 rfl (rv_tmp (by decide)) (fun w' hw' => ⟨_, rfl, rfl, hb12.trans (Below.mono hw'.below hb12.size)⟩)
    · rw [show (kind != 1) = true by rw [bne_iff_ne]; exact hk1]
      (repeat (first | ((with_reducible refine is_AL ?_); (first | ((with_reducible refine is_guarded ?_); (refine At_guard_f hF rfl (by decide) rfl rfl ?_)) | ((with_reducible refine is_assign ?_); (refine At_plain hF (by (exact (rfl : _ = some (Value.bool _)))) ?_)) | ((with_reducible refine is_pick ?_); (refine At_plain hF (by (exact (rfl : _ = some (Value.bool _)))) ?_)) | with_reducible refine At_nil ?_)) | ((with_reducible refine is_At ?_); (first | with_reducible refine At_seq ?_; intro K hK | with_reducible refine At_region ?_ | with_reducible refine At_ret ?_ | with_reducible refine At_then_n ?_ | with_reducible refine At_then_r ?_ | with_reducible refine At_go (by assumption) ?_ | ((with_reducible refine is_cond ?_); (refine At_cond_t rfl ?_))))))
      exact At_ret1 rfl (rv_tmp (by decide)) (fun w' hw' => ⟨_, rfl, rfl, hb12.trans (Below.mono hw'.below hb12.size)⟩)
theorem law_PatternsRobin.calls (n0 k0 : Int) (A1 : Option Addr) (c1 : Nat) (l1 : List Int) (A2 : Option Addr) (c2 : Nat) (l2 : List Int) (A3 : Option Addr) (c3 : Nat) (l3 : List Bool) (w : World) (h0 : 0 ≤ n0 ∧ n0 ≤ 255) (h1 : 0 ≤ k0 ∧ k0 ≤ 255)
    (hr1 : l1.length ≤ c1 ∧ Kd.C (Kd.int .u8) w A1 l1.length l1 ∧ ∀ x ∈ l1, 0 ≤ x ∧ x ≤ 255) (hr2 : l2.length ≤ c2 ∧ Kd.C (Kd.int .u8) w A2 l2.length l2 ∧ ∀ x ∈ l2, 0 ≤ x ∧ x ≤ 255) (hc3 : l3.length ≤ c3) (hr3 : Kd.C Kd.bool w A3 l3.length l3) :
    Calls Try.prog 9 #[.agg #[.int .u8 n0, .int .u8 k0, .slice A1 l1.length c1, .slice A2 l2.length c2, .slice A3 l3.length c3]] w fun e w' => e = .returned (.bool true) ∧ Below w.heap.size w w' :=
  (robin_law n0 k0 A1 c1 l1 A2 c2 l2 A3 c3 l3 h0 h1 hr1.2.1 hr1.1 hr1.2.2 hr2.2.1 hr2.1 hr2.2.2 hr3 hc3).mono (by rintro e w' ⟨u, rfl, rfl, hb⟩; exact ⟨rfl, hb⟩)
end Go.Proofs.Ytecgklfcblpkdaa.P
