import Derived.Test.YtecgklfcblpkdaaShort3
import Derived.Test.YtecgklfcblpkdaaGOrd
import Derived.Test.YtecgklfcblpkdaaRightP
import Derived.Test.YtecgklfcblpkdaaP11
/- Patterns with the rounds in another order: plain. -/
namespace Go.Proofs.Ytecgklfcblpkdaa.P
open Go.RowKit Go.Proofs.YtecgklfcblpkdaaW.PrintWords Go.Proofs.YtecgklfcblpkdaaW.PrintLast Go.Proofs.YtecgklfcblpkdaaW.PrintMore
open XW
set_option linter.unusedSimpArgs false
set_option linter.unusedVariables false

def get2 (M : List (List Int)) (t r : Nat) : Int := (M.getD t []).getD r 0
theorem getD_set {α : Type} (l : List α) (k j : Nat) (x d : α) : (l.set k x).getD j d = if k = j ∧ j < l.length then x else l.getD j d := by
  rw [List.getD_eq_getElem?_getD, List.getElem?_set, List.getD_eq_getElem?_getD]
  by_cases h : k = j
  · subst h
    by_cases h2 : k < l.length
    · rw [if_pos rfl, if_pos h2, if_pos ⟨rfl, h2⟩]; rfl
    · rw [if_pos rfl, if_neg h2, if_neg (fun h => h2 h.2), List.getElem?_eq_none (by omega)]
  · rw [if_neg h, if_neg (fun h2 => h h2.1)]
theorem get2_set {R N : Nat} {M : List (List Int)} (hM : Rect R N M) {a b : Nat} (ha : a < N) (hb : b < R) (v : Int) (t r : Nat) : get2 (M.set a ((M.getD a []).set b v)) t r = if a = t ∧ b = r then v else get2 M t r := by
  unfold get2
  rw [getD_set]
  by_cases h : a = t
  · subst h
    rw [if_pos ⟨rfl, by rw [hM.1]; exact ha⟩, getD_set]
    have := hM.get ha
    by_cases h2 : b = r
    · subst h2; rw [if_pos ⟨rfl, by omega⟩, if_pos ⟨rfl, rfl⟩]
    · rw [if_neg (fun h => h2 h.1), if_neg (fun h => h2 h.2)]
  · rw [if_neg (fun h2 => h h2.1), if_neg (fun h2 => h h2.1)]
theorem get2_setP {R N : Nat} {M : List (List Int)} (hM : Rect R N M) {x : S44} (hx : ¬ bad N x) (hr : x.f0.toNat < R) (t r : Nat) : get2 (setP M x) t r = if x.f2.toNat = t ∧ x.f0.toNat = r then -1 else if x.f1.toNat = t ∧ x.f0.toNat = r then 1 else get2 M t r := by
  unfold bad at hx
  have r1 : Rect R N (M.set x.f1.toNat ((M.getD x.f1.toNat []).set x.f0.toNat 1)) := hM.set (by rw [List.length_set]; exact hM.get (by omega))
  show get2 ((M.set x.f1.toNat ((M.getD x.f1.toNat []).set x.f0.toNat 1)).set x.f2.toNat (((M.set x.f1.toNat ((M.getD x.f1.toNat []).set x.f0.toNat 1)).getD x.f2.toNat []).set x.f0.toNat (-1))) t r = _
  rw [get2_set r1 (by omega) hr, get2_set hM (by omega) hr]
theorem get2_Z0 (R N t r : Nat) : get2 (Z0 R N) t r = 0 := by
  unfold get2 Z0
  have e : (List.replicate N (List.replicate R (0 : Int))).getD t [] = if t < N then List.replicate R 0 else [] := by
    rw [List.getD_eq_getElem?_getD, List.getElem?_replicate]; split <;> rfl
  rw [e]
  split
  · rw [List.getD_eq_getElem?_getD, List.getElem?_replicate]; split <;> rfl
  · rfl
theorem Rect.in_ {R N : Nat} {M : List (List Int)} (hM : Rect R N M) (h : ∀ t r, t < N → r < R → -1 ≤ get2 M t r ∧ get2 M t r ≤ 1) : ∀ row ∈ M, ∀ x ∈ row, -1 ≤ x ∧ x ≤ 1 := by
  intro row hrow x hx
  obtain ⟨t, ht⟩ := List.getElem?_of_mem hrow
  obtain ⟨r, hr⟩ := List.getElem?_of_mem hx
  have htl := (List.getElem?_eq_some_iff.1 ht).1
  have hrl := (List.getElem?_eq_some_iff.1 hr).1
  have := h t r (by rw [← hM.1]; exact htl) (by rw [← hM.2 _ hrow]; exact hrl)
  have e1 : M.getD t [] = row := by rw [List.getD_eq_getElem?_getD, ht]; rfl
  have e2 : row.getD r 0 = x := by rw [List.getD_eq_getElem?_getD, hr]; rfl
  rw [get2, e1, e2] at this
  exact this
theorem fold_in {R N : Nat} (l : List S44) (hb : ∀ x ∈ l, ¬ bad N x) (hr : ∀ x ∈ l, x.f0.toNat < R) : ∀ (M : List (List Int)), Rect R N M → (∀ t r, -1 ≤ get2 M t r ∧ get2 M t r ≤ 1) → ∀ t r, -1 ≤ get2 (l.foldl setP M) t r ∧ get2 (l.foldl setP M) t r ≤ 1 := by
  induction l with
  | nil => intro M _ h; exact h
  | cons x l ih =>
    intro M hM h
    have hx := hb x (by simp)
    have hrx := hr x (by simp)
    have hx2 := hx
    unfold bad at hx2
    refine ih (fun y hy => hb y (by simp [hy])) (fun y hy => hr y (by simp [hy])) _ (hM.pat (by omega) (by omega)) (fun t r => ?_)
    rw [get2_setP hM hx hrx]
    split
    · decide
    · split
      · decide
      · exact h t r
theorem fold_zero {R N : Nat} (l : List S44) (hb : ∀ x ∈ l, ¬ bad N x) (hr : ∀ x ∈ l, x.f0.toNat < R) {r : Nat} (hne : ∀ x ∈ l, x.f0.toNat ≠ r) (t : Nat) : ∀ (M : List (List Int)), Rect R N M → get2 (l.foldl setP M) t r = get2 M t r := by
  induction l with
  | nil => intro M _; rfl
  | cons x l ih =>
    intro M hM
    have hx := hb x (by simp)
    have hrx := hr x (by simp)
    have hx2 := hx
    unfold bad at hx2
    refine (ih (fun y hy => hb y (by simp [hy])) (fun y hy => hr y (by simp [hy])) (fun y hy => hne y (by simp [hy])) _ (hM.pat (by omega) (by omega))).trans ?_
    have := hne x (by simp)
    rw [get2_setP hM hx hrx, if_neg (fun h => this h.2), if_neg (fun h => this h.2)]
def renR (tos : List Int) (x : S44) : S44 := ⟨tos.getD x.f0.toNat 0, x.f1, x.f2⟩
theorem nodup_mapI {α β : Type} {f : α → β} {l : List α} (h : ∀ a ∈ l, ∀ b ∈ l, f a = f b → a = b) (hn : l.Nodup) : (l.map f).Nodup :=
  List.pairwise_map.2 (List.Pairwise.imp_of_mem (fun {a b} ha hb hab e => hab (h a ha b hb e)) hn)
theorem nodup_getI {α : Type} {l : List α} (hn : l.Nodup) {i j : Nat} (hi : i < l.length) (hj : j < l.length) (e : l[i] = l[j]) : i = j := by
  rcases Nat.lt_trichotomy i j with h | h | h
  · exact absurd e (List.pairwise_iff_getElem.1 hn i j hi hj h)
  · exact h
  · exact absurd e.symm (List.pairwise_iff_getElem.1 hn j i hj hi h)
/-- an order of R numbers -/
structure OrdOk (R : Nat) (tos : List Int) : Prop where
  len : tos.length = R
  bd : ∀ r, r < R → 0 ≤ tos.getD r 0 ∧ tos.getD r 0 < R
  inj : ∀ r s, r < R → s < R → tos.getD r 0 = tos.getD s 0 → r = s
theorem ordOk {R : Nat} {tos : List Int} (h : tos.Perm ((List.range R).map fun x : Nat => (x : Int))) : OrdOk R tos := by
  have hl : tos.length = R := by rw [h.length_eq]; simp
  have hn : tos.Nodup := h.nodup_iff.2 (nodup_mapI (fun a _ b _ e => Int.ofNat.inj e) List.nodup_range)
  refine ⟨hl, fun r hr => ?_, fun r s hr hs e => ?_⟩
  · have := h.mem_iff.1 (getD_mem' (d := (0 : Int)) (k := r) (by omega))
    obtain ⟨x, hx, e⟩ := List.mem_map.1 this
    have := List.mem_range.1 hx
    omega
  · rw [List.getD_eq_getElem?_getD, List.getD_eq_getElem?_getD, List.getElem?_eq_getElem (by omega), List.getElem?_eq_getElem (by omega), Option.getD_some, Option.getD_some] at e
    exact nodup_getI hn (by omega) (by omega) e
theorem ren_rel {R N most : Nat} {tos : List Int} (ho : OrdOk R tos) (l : List S44) (hb : ∀ x ∈ l, ¬ bad N x) (hr : ∀ x ∈ l, x.f0.toNat < R) (hm : ∀ x ∈ l, (tos.getD x.f0.toNat 0).toNat < most) (hR : R ≤ 64) (t r : Nat) (hrR : r < R) :
    ∀ (M M' : List (List Int)), Rect R N M → Rect most N M' → get2 M' t (tos.getD r 0).toNat = get2 M t r → get2 ((l.map (renR tos)).foldl setP M') t (tos.getD r 0).toNat = get2 (l.foldl setP M) t r := by
  induction l with
  | nil => intro M M' _ _ h; exact h
  | cons x l ih =>
    intro M M' hM hM' h
    have hx := hb x (by simp)
    have hrx := hr x (by simp)
    have hmx := hm x (by simp)
    have hbd := ho.bd _ hrx
    have hx2 := hx
    unfold bad at hx2
    have hx' : ¬ bad N (renR tos x) := by unfold bad renR; simp only; omega
    refine ih (fun y hy => hb y (by simp [hy])) (fun y hy => hr y (by simp [hy])) (fun y hy => hm y (by simp [hy])) _ _ (hM.pat (by omega) (by omega)) (hM'.pat (by show x.f1.toNat < N; omega) (by show x.f2.toNat < N; omega)) ?_
    rw [get2_setP hM hx hrx, get2_setP hM' hx' hmx]
    show (if x.f2.toNat = t ∧ (tos.getD x.f0.toNat 0).toNat = (tos.getD r 0).toNat then (-1 : Int) else if x.f1.toNat = t ∧ (tos.getD x.f0.toNat 0).toNat = (tos.getD r 0).toNat then 1 else _) = _
    have hiff : (tos.getD x.f0.toNat 0).toNat = (tos.getD r 0).toNat ↔ x.f0.toNat = r := by
      constructor
      · intro e
        have h2 := ho.bd r hrR
        exact ho.inj _ _ hrx hrR (by omega)
      · rintro rfl; rfl
    simp only [hiff]
    rw [h]
/-- how many rounds there are, behind some meetings -/
theorem last_snoc (l : List S44) (x : S44) : lastR (l ++ [x]) = max (lastR l) x.f0 := by
  unfold lastR; rw [List.foldl_append]; rfl
theorem last_mem {m : List S44} (h : ∀ x ∈ m, 0 ≤ x.f0 ∧ x.f0 < 64) : ∀ x ∈ m, x.f0 ≤ lastR m := (last_bd m h (-1) (by omega) (by omega)).2.2
theorem ren_okM {N R : Nat} {tos : List Int} (ho : OrdOk R tos) (hR : R ≤ 64) {m : List S44} (h : okM N m) (hr : ∀ x ∈ m, x.f0.toNat < R) : okM N (m.map (renR tos)) := by
  refine ⟨fun x hx => ?_, ?_⟩
  · obtain ⟨y, hy, rfl⟩ := List.mem_map.1 hx
    have h1 := h.1 y hy
    have h2 := ho.bd _ (hr y hy)
    unfold bad at h1 ⊢
    unfold renR
    simp only
    omega
  · have e : ks (m.map (renR tos)) = (ks m).map (fun k : Int × Int => (k.1, tos.getD k.2.toNat 0)) := by
      unfold ks
      rw [List.flatMap_map, List.map_flatMap]
      rfl
    rw [e]
    refine nodup_mapI ?_ h.2
    rintro ⟨a, b⟩ h1 ⟨c, d⟩ h2 e2
    simp only [Prod.mk.injEq] at e2
    obtain ⟨y, hy, hk⟩ := mem_ks.1 h1
    obtain ⟨z, hz, hk2⟩ := mem_ks.1 h2
    have hby := h.1 y hy
    have hbz := h.1 z hz
    unfold bad at hby hbz
    have hb' : b = y.f0 := by rcases hk with hk | hk <;> cases hk <;> rfl
    have hd' : d = z.f0 := by rcases hk2 with hk | hk <;> cases hk <;> rfl
    have := ho.inj b.toNat d.toNat (by rw [hb']; exact hr y hy) (by rw [hd']; exact hr z hz) e2.2
    rw [e2.1, show b = d by omega]
/-! ### sums -/
def sumN (f : Nat → Int) : Nat → Int
  | 0 => 0
  | n + 1 => sumN f n + f n
def lsum (F : Int → Int) : List Int → Int
  | [] => 0
  | x :: l => F x + lsum F l
theorem lsum_perm (F : Int → Int) {a b : List Int} (h : a.Perm b) : lsum F a = lsum F b := by
  induction h with
  | nil => rfl
  | cons x _ ih => rw [lsum, lsum, ih]
  | swap x y l => simp only [lsum]; omega
  | trans _ _ h1 h2 => exact h1.trans h2
theorem lsum_app (F : Int → Int) (a b : List Int) : lsum F (a ++ b) = lsum F a + lsum F b := by
  induction a with
  | nil => simp [lsum]
  | cons x a ih => simp only [List.cons_append, lsum, ih]; omega
theorem lsum_take (F : Int → Int) (l : List Int) : ∀ n, n ≤ l.length → lsum F (l.take n) = sumN (fun i => F (l.getD i 0)) n
  | 0, _ => by simp [lsum, sumN]
  | n + 1, h => by rw [take_snocD l n 0 h, lsum_app, lsum_take F l n (by omega), sumN]; simp [lsum]
theorem sumN_congr {f g : Nat → Int} : ∀ n, (∀ i, i < n → f i = g i) → sumN f n = sumN g n
  | 0, _ => rfl
  | n + 1, h => by rw [sumN, sumN, sumN_congr n (fun i hi => h i (by omega)), h n (by omega)]
theorem sumN_zero {f : Nat → Int} (a : Nat) : ∀ n, a ≤ n → (∀ i, a ≤ i → i < n → f i = 0) → sumN f n = sumN f a
  | 0, h, _ => by obtain rfl : a = 0 := by omega
                  rfl
  | n + 1, h, hz => by
    rcases Nat.lt_or_ge n a with h2 | h2
    · obtain rfl : a = n + 1 := by omega
      rfl
    · rw [sumN, sumN_zero a n h2 (fun i h1 h2 => hz i h1 (by omega)), hz n h2 (by omega)]; omega
theorem leftR_sum (p : List (List Int)) (set : Nat) : ∀ n, leftR p set n = left0 set - sumN (gameR p set) n
  | 0 => by simp [leftR, sumN]
  | n + 1 => by rw [leftR, sumN, leftR_sum p set n]; omega
theorem mk_congr (v : Int) (p q : List (List Int)) (r s : Nat) : ∀ n, (∀ t, t < n → get2 p t r = get2 q t s) → mk v p n r = mk v q n s
  | 0, _ => rfl
  | n + 1, h => by
    have h1 := h n (by omega)
    unfold get2 at h1
    rw [mk, mk, mk_congr v p q r s n (fun t ht => h t (by omega)), h1]
theorem mk_zero (v : Int) (hv : v ≠ 0) (p : List (List Int)) (r : Nat) : ∀ n, (∀ t, t < n → get2 p t r = 0) → mk v p n r = 0
  | 0, _ => rfl
  | n + 1, h => by
    have h1 := h n (by omega)
    unfold get2 at h1
    rw [mk, if_neg (by rw [h1]; exact fun e => hv e.symm), mk_zero v hv p r n (fun t ht => h t (by omega))]
theorem popc_zero : popc 0 = 0 := by decide
theorem left_perm {R N most : Nat} {tos : List Int} (hp : tos.Perm ((List.range R).map fun x : Nat => (x : Int))) {p q : List (List Int)} (hpl : p.length = N) (hql : q.length = N) (hm : most ≤ R)
    (h1 : ∀ t r, t < N → r < R → (tos.getD r 0).toNat < most → get2 p t r = get2 q t (tos.getD r 0).toNat) (h2 : ∀ t r, t < N → r < R → ¬ (tos.getD r 0).toNat < most → get2 p t r = 0) (set : Nat) : leftR p set R = leftR q set most := by
  have ho := ordOk hp
  rw [leftR_sum, leftR_sum]
  congr 1
  let F : Int → Int := fun s => if s.toNat < most then gameR q set s.toNat else 0
  have e1 : sumN (gameR p set) R = sumN (fun i => F (tos.getD i 0)) R := sumN_congr R (fun i hi => by
    show _ = if _ then _ else _
    split
    · rename_i h
      unfold gameR
      rw [mk_congr 1 p q i _ p.length (fun t ht => h1 t i (by omega) hi h), mk_congr (-1) p q i _ p.length (fun t ht => h1 t i (by omega) hi h), hpl, hql]
    · rename_i h
      unfold gameR
      rw [mk_zero 1 (by decide) p i p.length (fun t ht => h2 t i (by omega) hi h), Nat.and_zero, popc_zero, mk_zero (-1) (by decide) p i p.length (fun t ht => h2 t i (by omega) hi h), Nat.and_zero, popc_zero]
      decide)
  rw [e1, ← lsum_take F tos R (by rw [ho.len]; exact Nat.le_refl _), List.take_of_length_le (by rw [ho.len]; exact Nat.le_refl _), lsum_perm F hp]
  have hr : ∀ j, ((List.range R).map fun x : Nat => (x : Int)).getD j 0 = if j < R then (j : Int) else 0 := fun j => by
    rw [List.getD_eq_getElem?_getD, List.getElem?_map]
    split
    · rename_i h; rw [List.getElem?_range h]; rfl
    · rename_i h; rw [List.getElem?_eq_none (by simp; omega)]; rfl
  have e2 := lsum_take F ((List.range R).map fun x : Nat => (x : Int)) R (by simp)
  rw [List.take_of_length_le (by simp)] at e2
  rw [e2, sumN_zero most R hm (fun i hi hiR => by
    rw [hr, if_pos hiR]
    show (if _ then _ else _) = (0 : Int)
    rw [if_neg (by omega)])]
  refine sumN_congr most (fun i hi => ?_)
  rw [hr, if_pos (by omega)]
  show (if _ then _ else _) = _
  rw [if_pos (by omega), Int.toNat_natCast]
end Go.Proofs.Ytecgklfcblpkdaa.P

/- PatternsRounds: what the law computes. -/
namespace Go.Proofs.Ytecgklfcblpkdaa.P
open Go.RowKit Go.Proofs.YtecgklfcblpkdaaW.PrintWords Go.Proofs.YtecgklfcblpkdaaW.PrintLast Go.Proofs.YtecgklfcblpkdaaW.PrintMore
open XW
set_option linter.unusedSimpArgs false
set_option linter.unusedVariables false

/-- what the two patterns are to one another -/
structure Turned (N R : Nat) (tos : List Int) (p q : List (List Int)) (most : Nat) : Prop where
  N2 : 2 ≤ N ∧ N ≤ 20
  R64 : R ≤ 64
  pR : Rect R N p
  qR : Rect most N q
  hm : most ≤ R
  ho : OrdOk R tos
  in_ : ∀ t r, t < N → r < R → (tos.getD r 0).toNat < most → get2 q t (tos.getD r 0).toNat = get2 p t r
  out : ∀ t r, t < N → r < R → ¬ (tos.getD r 0).toNat < most → get2 p t r = 0
  vio : vioF p = vioF q
theorem rdL {p : List (List Int)} (t : Nat) : rd_L3 p (t : Int) = p.getD t [] := by rw [rd_L3, Int.toNat_natCast]
theorem rdI {l : List Int} (t : Nat) : rd l (t : Int) = l.getD t 0 := by rw [rd, Int.toNat_natCast]
theorem rnd_l2 {N R : Nat} {tos : List Int} {p q : List (List Int)} {most : Nat} (h : Turned N R tos p q most) (t : Nat) (ht : t < N)
    (hn : Ev (fun k => fastilaw21_PatternsRounds.l1 k p R tos most q p.length ((t + 1 : Nat) : Int)) true) :
    ∀ (d r : Nat), R - r ≤ d → r ≤ R → Ev (fun k => fastilaw21_PatternsRounds.l2 k p R tos most q t p.length t R r) true := by
  have h64 := h.R64
  have hN := h.N2
  have hpl := h.pR.1
  have hql := h.qR.1
  have hto := h.ho.len
  have hend : Ev (fun k => fastilaw21_PatternsRounds.l2 k p R tos most q t p.length t R R) true := by
    obtain ⟨K, hK⟩ := hn
    refine ⟨K + 1, fun k hk => ?_⟩
    obtain ⟨k, rfl⟩ : ∃ k', k = k' + 1 := ⟨k - 1, by omega⟩
    show fastilaw21_PatternsRounds.l2 _ _ _ _ _ _ _ _ _ _ _ = _
    rw [fastilaw21_PatternsRounds.l2, if_neg (by omega), w64 (x := (t : Int) + 1) (by omega)]
    exact hK k (by omega)
  intro d
  induction d with
  | zero => intro r hd hr; obtain rfl : r = R := by omega
            exact hend
  | succ d ih =>
    intro r hd hr
    by_cases hlt : r < R
    · obtain ⟨K, hK⟩ := ih (r + 1) (by omega) hlt
      refine ⟨K + 1, fun k hk => ?_⟩
      obtain ⟨k, rfl⟩ : ∃ k', k = k' + 1 := ⟨k - 1, by omega⟩
      have hK := hK k (by omega)
      have hb := h.ho.bd r hlt
      have hp1 := h.pR.get (t := t) (by omega)
      have hq1 := h.qR.get (t := t) (by omega)
      show fastilaw21_PatternsRounds.l2 _ _ _ _ _ _ _ _ _ _ _ = _
      rw [fastilaw21_PatternsRounds.l2, if_pos (by omega), if_pos (by omega), if_pos (by omega), rdI, w64 (x := (r : Int) + 1) (by omega), rdL, rdL]
      by_cases hm : (tos.getD r 0).toNat < most
      · have h1 := h.in_ t r ht hlt hm
        unfold get2 at h1
        rw [if_pos (by omega), if_pos (by omega), if_pos (by omega), if_pos (by omega), if_pos (by omega), if_pos (by omega), if_pos (by omega), rdI]
        rw [if_pos (by rw [rd]; exact h1), if_neg (by omega)]
        exact hK
      · have h1 := h.out t r ht hlt hm
        unfold get2 at h1
        rw [if_neg (by omega), if_pos (by omega), if_pos (by omega), if_pos (by omega), if_pos (by omega), rdI, if_pos h1]
        exact hK
    · obtain rfl : r = R := by omega
      exact hend
theorem rnd_l1 {N R : Nat} {tos : List Int} {p q : List (List Int)} {most : Nat} (h : Turned N R tos p q most) :
    ∀ (d t : Nat), N - t ≤ d → t ≤ N → Ev (fun k => fastilaw21_PatternsRounds.l1 k p R tos most q p.length t) true := by
  have hN := h.N2
  have hpl := h.pR.1
  have hql := h.qR.1
  have hend : Ev (fun k => fastilaw21_PatternsRounds.l1 k p R tos most q p.length N) true := by
    have hl := vioF_len q
    obtain ⟨K, hK⟩ := ints_ev (vioF q).1 (by omega)
    refine ⟨K + 1, fun k hk => ?_⟩
    obtain ⟨k, rfl⟩ : ∃ k', k = k' + 1 := ⟨k - 1, by omega⟩
    have hK := hK k (by omega)
    simp only [] at hK
    show fastilaw21_PatternsRounds.l1 _ _ _ _ _ _ _ _ = _
    rw [fastilaw21_PatternsRounds.l1, if_neg (by omega), patterns_Violates.f, Option.bind_some, patterns_Violates.f, Option.bind_some, h.vio, hK, Option.bind_some, if_pos rfl]
    simp
  intro d
  induction d with
  | zero => intro t hd ht; obtain rfl : t = N := by omega
            exact hend
  | succ d ih =>
    intro t hd ht
    by_cases hlt : t < N
    · obtain ⟨K, hK⟩ := rnd_l2 h t hlt (ih (t + 1) (by omega) hlt) R 0 (by omega) (by omega)
      refine ⟨K + 2, fun k hk => ?_⟩
      obtain ⟨k, rfl⟩ : ∃ k', k = k' + 2 := ⟨k - 2, by omega⟩
      have hp1 := h.pR.get (t := t) (by omega)
      have hq1 := h.qR.get (t := t) (by omega)
      show fastilaw21_PatternsRounds.l1 _ _ _ _ _ _ _ _ = _
      rw [fastilaw21_PatternsRounds.l1, if_pos (by omega), if_pos (by omega), if_pos (by omega), rdL, rdL, if_pos (by omega), if_pos (by omega)]
      rw [show (((q.getD t []).length : Int) != (most : Int)) = false from bne_eq_false_iff_eq.2 (by omega)]
      rw [fastilaw21_PatternsRounds.j4, if_neg (by decide)]
      exact hK k (by omega)
    · obtain rfl : t = N := by omega
      exact hend
theorem rnd_l0 {N R : Nat} {tos : List Int} {m : List S44} (hN : 2 ≤ N ∧ N ≤ 20) (hok : okM N m) (hml : m.length ≤ 640) (hR : R ≤ 64) (ho : OrdOk R tos) (hr : ∀ x ∈ m, x.f0.toNat < R)
    (h : Turned N R tos (patM N m) (patM N (m.map (renR tos))) (lastR (m.map (renR tos)) + 1).toNat) :
    ∀ (d i : Nat), m.length - i ≤ d → i ≤ m.length → Ev (fun k => fastilaw21_PatternsRounds.l0 k N (patM N m) R tos ((m.take i).map (renR tos)) (lastR ((m.take i).map (renR tos)) + 1) m m.length i) true := by
  have hto := ho.len
  have hok2 := ren_okM ho hR hok hr
  have hlb := lastR_bd hok2
  have hend : Ev (fun k => fastilaw21_PatternsRounds.l0 k N (patM N m) R tos ((m.take m.length).map (renR tos)) (lastR ((m.take m.length).map (renR tos)) + 1) m m.length m.length) true := by
    obtain ⟨K, hK⟩ := rnd_l1 h N 0 (by omega) (by omega)
    refine ⟨K + 2, fun k hk => ?_⟩
    obtain ⟨k, rfl⟩ : ∃ k', k = k' + 2 := ⟨k - 2, by omega⟩
    have hK := hK k (by omega)
    simp only [] at hK
    rw [Int.toNat_of_nonneg (by omega)] at hK
    show fastilaw21_PatternsRounds.l0 _ _ _ _ _ _ _ _ _ _ = _
    have hof : ofF N (m.map (renR tos)) = (patM N (m.map (renR tos)), 0) := by rw [ofF, if_neg (by omega), if_pos hok2, Int.toNat_natCast]
    rw [fastilaw21_PatternsRounds.l0, if_neg (by omega), List.take_length, patterns_Of.f, Option.bind_some, hof, if_pos rfl]
    rw [show (((patM N (m.map (renR tos)), (0 : Int)).1.length : Int) != ((patM N m).length : Int)) = false from bne_eq_false_iff_eq.2 (by show ((patM N (m.map (renR tos))).length : Int) = _; rw [h.qR.1, h.pR.1])]
    rw [fastilaw21_PatternsRounds.j2, if_neg (by decide)]
    exact hK
  intro d
  induction d with
  | zero => intro i hd hi; obtain rfl : i = m.length := by omega
            exact hend
  | succ d ih =>
    intro i hd hi
    by_cases hlt : i < m.length
    · obtain ⟨K, hK⟩ := ih (i + 1) (by omega) hlt
      refine ⟨K + 1, fun k hk => ?_⟩
      obtain ⟨k, rfl⟩ : ∃ k', k = k' + 1 := ⟨k - 1, by omega⟩
      have hK := hK k (by omega)
      have hmem := getD_mem' (d := z44) hlt
      have hb := hok.1 _ hmem
      have hrr := hr _ hmem
      unfold bad at hb
      have hbd := ho.bd _ hrr
      have e : rd_T44 m (i : Int) = m.getD i z44 := by rw [rd_T44, Int.toNat_natCast]
      simp only [] at hK
      rw [take_snocD m i z44 hlt, List.map_append, List.map_singleton, last_snoc] at hK
      generalize m.getD i z44 = x at *
      show fastilaw21_PatternsRounds.l0 _ _ _ _ _ _ _ _ _ _ = _
      rw [fastilaw21_PatternsRounds.l0, if_pos (by omega), if_pos (by omega), if_pos (by omega), e, if_neg (by omega), if_neg (by omega), if_pos (by omega), if_pos (by omega), if_pos (by rw [List.length_map, List.length_take]; omega)]
      have e3 : rd tos x.f0 = tos.getD x.f0.toNat 0 := rfl
      rw [e3, w64 (x := tos.getD x.f0.toNat 0 + 1) (by omega), w64 (x := (i : Int) + 1) (by omega)]
      have e4 : mx (lastR ((m.take i).map (renR tos)) + 1) (tos.getD x.f0.toNat 0 + 1) = max (lastR ((m.take i).map (renR tos))) (renR tos x).f0 + 1 := by
        unfold mx renR; simp only; split <;> omega
      rw [e4]
      exact hK
    · obtain rfl : i = m.length := by omega
      exact hend
theorem turned_of {N R : Nat} {l2 : List Int} {m : List S44} (hN : 2 ≤ N ∧ N ≤ 20) (hok : okM N m) (hRe : R = (lastR m + 1).toNat) (hR : R ≤ 64) (h8 : ∀ x ∈ l2, 0 ≤ x ∧ x ≤ 255) (hr : ∀ x ∈ m, x.f0.toNat < R) (hR1 : 1 ≤ R) :
    Turned N R (ordF R l2) (patM N m) (patM N (m.map (renR (ordF R l2)))) (lastR (m.map (renR (ordF R l2))) + 1).toNat := by
  have hp := ordF_perm R l2 h8
  have ho := ordOk hp
  generalize ordF R l2 = tos at *
  have hok2 := ren_okM ho hR hok hr
  have hlb := lastR_bd hok2
  have hin2 : ∀ x ∈ m.map (renR tos), 0 ≤ x.f0 ∧ x.f0 < 64 := fun x hx => by have := hok2.1 x hx; unfold bad at this; omega
  have hlm := last_mem hin2
  have hpR : Rect R N (patM N m) := by rw [hRe]; exact patM_rect hN.2 hok
  have hqR := patM_rect hN.2 hok2
  have hmost : (lastR (m.map (renR tos)) + 1).toNat ≤ R := by
    have key : ∀ l : List S44, (∀ x ∈ l, x.f0 < R) → ∀ s : Int, s < R → l.foldl lastF s < R := by
      intro l
      induction l with
      | nil => intro _ s hs; exact hs
      | cons x l ih => intro h s hs; exact ih (fun y hy => h y (by simp [hy])) _ (by have := h x (by simp); unfold lastF; omega)
    have := key (m.map (renR tos)) (fun x hx => by
      obtain ⟨y, hy, rfl⟩ := List.mem_map.1 hx
      exact (ho.bd _ (hr y hy)).2) (-1) (by omega)
    unfold lastR; omega
  have hmm : ∀ x ∈ m, (tos.getD x.f0.toNat 0).toNat < (lastR (m.map (renR tos)) + 1).toNat := fun x hx => by
    have h1 := hlm _ (List.mem_map_of_mem (f := renR tos) hx)
    have h2 := ho.bd _ (hr x hx)
    have h3 : (renR tos x).f0 = tos.getD x.f0.toNat 0 := rfl
    omega
  have hin : ∀ t r, t < N → r < R → (tos.getD r 0).toNat < (lastR (m.map (renR tos)) + 1).toNat → get2 (patM N (m.map (renR tos))) t (tos.getD r 0).toNat = get2 (patM N m) t r := fun t r ht hrr hm => by
    have := ren_rel ho m hok.1 hr hmm hR t r hrr (Z0 R N) (Z0 (lastR (m.map (renR tos)) + 1).toNat N) (Rect.rep _ _) (Rect.rep _ _) (by rw [get2_Z0, get2_Z0])
    unfold patM
    rw [← hRe]; exact this
  have hout : ∀ t r, t < N → r < R → ¬ (tos.getD r 0).toNat < (lastR (m.map (renR tos)) + 1).toNat → get2 (patM N m) t r = 0 := fun t r ht hrr hm => by
    unfold patM
    rw [← hRe, fold_zero m hok.1 hr (fun x hx e => hm (by rw [← e]; exact hmm x hx)) t (Z0 R N) (Rect.rep _ _), get2_Z0]
  refine ⟨hN, hR, hpR, hqR, hmost, ho, hin, hout, ?_⟩
  have hpo : patOk (patM N m) := by
    refine ⟨by rw [hpR.1]; exact hN.2, fun row hrow => ⟨?_, ?_, ?_⟩⟩
    · rw [hpR.2 _ hrow, hpR.get (by omega)]
    · rw [hpR.2 _ hrow]; exact hR
    · refine hpR.in_ (fun t r _ _ => ?_) row hrow
      unfold patM; rw [← hRe]
      exact fold_in m hok.1 hr _ (Rect.rep _ _) (fun t r => by rw [get2_Z0]; decide) t r
  have hqo : patOk (patM N (m.map (renR tos))) := by
    refine ⟨by rw [hqR.1]; exact hN.2, fun row hrow => ⟨?_, ?_, ?_⟩⟩
    · rw [hqR.2 _ hrow, hqR.get (by omega)]
    · rw [hqR.2 _ hrow]; omega
    · refine hqR.in_ (fun t r _ _ => ?_) row hrow
      exact fold_in _ hok2.1 (fun x hx => by
        obtain ⟨y, hy, rfl⟩ := List.mem_map.1 hx
        exact hmm y hy) _ (Rect.rep _ _) (fun t r => by rw [get2_Z0]; decide) t r
  unfold vioF
  rw [hpR.1, hqR.1]
  by_cases h10 : N > 10
  · rw [if_pos (.inr (.inl h10)), if_pos (.inr (.inl h10))]
  · rw [if_neg (by rintro (h | h | h); omega; omega; exact h hpo), if_neg (by rintro (h | h | h); omega; omega; exact h hqo)]
    have hs : shortB (patM N m) = shortB (patM N (m.map (renR tos))) := by
      funext set
      unfold shortB
      rw [hpR.get (t := 0) (by omega), hqR.get (t := 0) (by omega), left_perm hp hpR.1 hqR.1 hmost (fun t r h1 h2 h3 => (hin t r h1 h2 h3).symm) hout]
    rw [hs]
theorem rounds_ok (n : Int) (m : List S44) (l2 : List Int) (h8 : ∀ x ∈ l2, 0 ≤ x ∧ x ≤ 255) : ∃ k, fastilaw21_PatternsRounds.f k n m l2 = some true := by
  obtain ⟨b, K1, h1⟩ := few_ev m []
  have key : ∀ K2, ∀ v, (∀ k, K2 ≤ k → ((patterns_Of.f n m).bind fun bt240 => (if bt240.2 = 0 then (if (bt240.1.length : Int) = 0 then (fastilaw21_PatternsRounds.j0 k n m l2 bt240.1 true) else (if 0 < (bt240.1.length : Int) then (fastilaw21_PatternsRounds.j0 k n m l2 bt240.1 (((rd_L3 bt240.1 0).length : Int) == 0)) else (none))) else (fastilaw21_PatternsRounds.j0 k n m l2 bt240.1 true))) = some v) → v = true → ∃ k, fastilaw21_PatternsRounds.f k n m l2 = some true := by
    intro K2 v h2 hv
    subst hv
    refine ⟨K1 + K2, ?_⟩
    have h1 := h1 (K1 + K2) (by omega)
    simp only [] at h1
    rw [fastilaw21_PatternsRounds.f, fastilaw21_sane.f, Option.bind_some, if_pos rfl, h1, Option.bind_some]
    cases b with
    | false => rfl
    | true => rw [if_pos rfl]; exact h2 _ (by omega)
  have hj : ∀ k p, 1 ≤ k → fastilaw21_PatternsRounds.j0 k n m l2 p true = some true := fun k p hk => by
    obtain ⟨k, rfl⟩ : ∃ k', k = k' + 1 := ⟨k - 1, by omega⟩
    rw [fastilaw21_PatternsRounds.j0, if_pos rfl]
  by_cases hn : n < 2 ∨ n > 20
  · exact key 1 true (fun k hk => by rw [patterns_Of.f, Option.bind_some, ofF, if_pos hn, if_neg (by decide)]; exact hj k _ hk) rfl
  by_cases hok : okM n m
  rotate_left
  · exact key 1 true (fun k hk => by rw [patterns_Of.f, Option.bind_some, ofF, if_neg hn, if_neg hok, if_neg (by decide)]; exact hj k _ hk) rfl
  obtain ⟨N, rfl⟩ : ∃ N : Nat, n = N := ⟨n.toNat, by omega⟩
  have hN : 2 ≤ N ∧ N ≤ 20 := by omega
  have hlb := lastR_bd hok
  have hR := patM_rect hN.2 hok
  have hrl := hR.get (t := 0) (by omega)
  have hin : ∀ x ∈ m, 0 ≤ x.f0 ∧ x.f0 < 64 := fun x hx => by have := hok.1 x hx; unfold bad at this; omega
  have hlm := last_mem hin
  have hrd : rd_L3 (patM N m) 0 = (patM N m).getD 0 [] := rfl
  by_cases hz : (lastR m + 1).toNat = 0
  · refine key 1 true (fun k hk => ?_) rfl
    rw [patterns_Of.f, Option.bind_some, ofF, if_neg hn, if_pos hok, Int.toNat_natCast, if_pos rfl, if_neg (by show ¬ ((patM N m).length : Int) = 0; rw [hR.1]; omega), if_pos (by show 0 < ((patM N m).length : Int); rw [hR.1]; omega)]
    rw [show ((((rd_L3 (patM N m, (0 : Int)).1 0).length : Int) == 0)) = true from beq_iff_eq.2 (by show ((rd_L3 (patM N m) 0).length : Int) = 0; rw [hrd, hrl, hz]; rfl)]
    exact hj k _ hk
  obtain ⟨R, hRe⟩ : ∃ R, R = (lastR m + 1).toNat := ⟨_, rfl⟩
  have hr : ∀ x ∈ m, x.f0.toNat < R := fun x hx => by have h1 := hlm x hx; have h2 := hin x hx; omega
  have hT := turned_of hN hok hRe (by omega) h8 hr (by omega)
  obtain ⟨K, hK⟩ := rnd_l0 hN hok (okM_len (by omega) hok) (by omega) (ordOk (ordF_perm R l2 h8)) hr hT m.length 0 (by omega) (by omega)
  refine key (K + 1) true (fun k hk => ?_) rfl
  obtain ⟨k, rfl⟩ : ∃ k', k = k' + 1 := ⟨k - 1, by omega⟩
  have hK := hK k (by omega)
  simp only [List.take_zero, List.map_nil] at hK
  rw [patterns_Of.f, Option.bind_some, ofF, if_neg hn, if_pos hok, Int.toNat_natCast, if_pos rfl, if_neg (by show ¬ ((patM N m).length : Int) = 0; rw [hR.1]; omega), if_pos (by show 0 < ((patM N m).length : Int); rw [hR.1]; omega)]
  rw [show ((((rd_L3 (patM N m, (0 : Int)).1 0).length : Int) == 0)) = false from beq_eq_false_iff_ne.2 (by show ((rd_L3 (patM N m) 0).length : Int) ≠ 0; rw [hrd, hrl]; omega)]
  rw [fastilaw21_PatternsRounds.j0, if_neg (by decide), if_pos (by show 0 < ((patM N m).length : Int); rw [hR.1]; omega)]
  show (fastilaw21_order.f ((rd_L3 (patM N m) 0).length : Int) l2).bind _ = _
  rw [hrd, hrl, ← hRe, fastilaw21_order.f, if_pos ⟨by omega, by omega, h8⟩, Option.bind_some, Int.toNat_natCast]
  exact hK
end Go.Proofs.Ytecgklfcblpkdaa.P

/- PatternsRounds, plain. -/
namespace Go.Proofs.Ytecgklfcblpkdaa.Pure
open Go.RowKit Go.Proofs.Ytecgklfcblpkdaa.P Go.Proofs.YtecgklfcblpkdaaW.PrintWords Go.Proofs.YtecgklfcblpkdaaW.PrintLast
theorem PatternsRounds (n : Int) (m : List S44) (l : List Int) (hw : ∀ x ∈ l, (Lit.int .u8 x).wf = true) : ∃ k, fastilaw21_PatternsRounds.f k n m l = some true :=
  rounds_ok n m l (fun x hx => by
    have := hw x hx
    simp only [Lit.wf, Bool.and_eq_true, decide_eq_true_eq] at this
    exact this)
end Go.Proofs.Ytecgklfcblpkdaa.Pure
