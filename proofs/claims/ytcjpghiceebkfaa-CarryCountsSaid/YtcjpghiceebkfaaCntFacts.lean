/- Who carries, counted: plain. -/
import Derived.Test.YtcjpghiceebkfaaEnts
import Derived.Test.YtcjpghiceebkfaaNumsL
namespace Go.Proofs.Ytcjpghiceebkfaa.P
open Go.RowKit Go.Proofs.YtcjpghiceebkfaaW.PrintWords Go.Proofs.YtcjpghiceebkfaaW.PrintLast Go.Proofs.YtcjpghiceebkfaaW.PrintMore
open XW
set_option linter.unusedSimpArgs false
set_option linter.unusedVariables false

/-- how many pairs begin with a, and how many end with it -/
def c1 (xs : List (Int × Int)) (a : Int) : Int := ((xs.filter fun x => x.1 == a).length : Int)
def c2 (xs : List (Int × Int)) (a : Int) : Int := ((xs.filter fun x => x.2 == a).length : Int)
theorem c1_perm {xs ys : List (Int × Int)} (h : xs.Perm ys) (a : Int) : c1 xs a = c1 ys a := by rw [c1, c1, (h.filter _).length_eq]
theorem c2_perm {xs ys : List (Int × Int)} (h : xs.Perm ys) (a : Int) : c2 xs a = c2 ys a := by rw [c2, c2, (h.filter _).length_eq]
theorem c1_app (xs ys : List (Int × Int)) (a : Int) : c1 (xs ++ ys) a = c1 xs a + c1 ys a := by rw [c1, c1, c1, List.filter_append, List.length_append]; omega
theorem c1_bd (xs : List (Int × Int)) (a : Int) : 0 ≤ c1 xs a ∧ c1 xs a ≤ xs.length := by
  have := List.length_filter_le (fun x : Int × Int => x.1 == a) xs
  rw [c1]; omega
theorem sum_count1 (N : Nat) (a : Int) : ∀ xs : List (Int × Int), (∀ x ∈ xs, (0 ≤ x.1 ∧ x.1 < N) ∧ 0 ≤ x.2 ∧ x.2 < N) → ((List.range N).map fun j : Nat => (xs.count (a, (j : Int)) : Int)).sum = c1 xs a
  | [], _ => by
    simp only [List.count_nil, c1, List.filter_nil, List.length_nil]
    have : ∀ n : Nat, ((List.range n).map fun _ : Nat => ((0 : Nat) : Int)).sum = 0 := by
      intro n; induction n with
      | zero => rfl
      | succ n ih => rw [List.range_succ, List.map_append, List.sum_append, ih]; rfl
    exact this N
  | x :: xs, h => by
    have hx := h x (List.mem_cons_self ..)
    have ih := sum_count1 N a xs fun y hy => h y (List.mem_cons_of_mem _ hy)
    have e : (fun j : Nat => (((x :: xs).count (a, (j : Int)) : Nat) : Int)) = fun j : Nat => (if j = x.2.toNat then (if x.1 = a then 1 else 0) else 0) + (xs.count (a, (j : Int)) : Int) := by
      funext j
      rw [List.count_cons]
      by_cases h1 : x = (a, (j : Int))
      · subst h1; simp; omega
      · rw [if_neg (by simpa using h1)]
        by_cases h2 : j = x.2.toNat
        · have h3 : x.1 ≠ a := fun hc => h1 (Prod.ext hc (by simp only; omega))
          rw [if_pos h2, if_neg h3]; simp
        · rw [if_neg h2]; simp
    rw [e, sum_add, sum_ite N (fun _ : Nat => if x.1 = a then 1 else 0) x.2.toNat (by omega), ih]
    simp only [c1, List.filter_cons]
    by_cases hc : x.1 = a
    · rw [if_pos hc, if_pos (by simpa using hc), List.length_cons]; omega
    · rw [if_neg hc, if_neg (by simpa using hc)]; omega
/-! ### the entries -/
def ftS (m : List S45) (a : Int) : Prop := ((ents m).filter fun e => e.2 == a).length = ((ents m).filter fun e => e.1.1 == a).length
theorem ents_sym (m : List S45) (a : Int) : ftS m a := by
  unfold ftS
  induction m with
  | nil => rfl
  | cons x m ih =>
    rw [show ents (x :: m) = ent2 x ++ ents m from rfl, List.filter_append, List.filter_append, List.length_append, List.length_append, ih]
    simp only [ent2, List.filter_cons, List.filter_nil]
    by_cases h1 : x.f1 = a <;> by_cases h2 : x.f2 = a <;> simp [h1, h2]
theorem full_count {N R : Nat} {es : Ent} (hn : (keys es).Nodup) (hr : ∀ e ∈ es, 0 ≤ e.1.2 ∧ e.1.2 < R) (j : Int) (hf : ∀ r : Nat, r < R → (mget es (j, (r : Int))).isSome) : (es.filter fun e => e.1.1 == j).length = R := by
  have hnd : ((es.filter fun e => e.1.1 == j).map fun e => e.1.2).Nodup := by
    refine nodup_map_on ?_ ((nodup_of_keys hn).sublist List.filter_sublist)
    intro a ha b hb h
    obtain ⟨ha, ha1⟩ := List.mem_filter.1 ha
    obtain ⟨hb, hb1⟩ := List.mem_filter.1 hb
    simp only [beq_iff_eq] at ha1 hb1
    have hk : a.1 = b.1 := Prod.ext (ha1.trans hb1.symm) h
    have e1 := mem_get hn ha
    have e2 := mem_get hn hb
    rw [hk, e2] at e1
    exact Prod.ext hk (Option.some.inj e1).symm
  have hnd2 : ((List.range R).map fun r : Nat => (r : Int)).Nodup := nodup_map_on (fun a _ b _ h => by omega) List.nodup_range
  have := (List.perm_ext_iff_of_nodup hnd hnd2).2 fun r => by
    constructor
    · intro h
      obtain ⟨e, he, rfl⟩ := List.mem_map.1 h
      have := hr e (List.mem_filter.1 he).1
      exact List.mem_map.2 ⟨e.1.2.toNat, List.mem_range.2 (by omega), by omega⟩
    · intro h
      obtain ⟨r', hr', rfl⟩ := List.mem_map.1 h
      obtain ⟨v, hv⟩ := Option.isSome_iff_exists.1 (hf r' (List.mem_range.1 hr'))
      exact List.mem_map.2 ⟨((j, (r' : Int)), v), List.mem_filter.2 ⟨mget_mem hv, by simp⟩, rfl⟩
  have := this.length_eq
  simpa using this
theorem full_cols {N : Nat} {m : List S45} {R : Int} (hR : R = roundsF m) (hn : (keys (ents m)).Nodup) (hr : ∀ e ∈ ents m, ((0 ≤ e.1.1 ∧ e.1.1 < N) ∧ 0 ≤ e.1.2 ∧ e.1.2 < R)) (hf : ∀ r t : Nat, r < R.toNat → t < N → (mget (ents m) ((t : Int), (r : Int))).isSome) (j : Nat) (hj : j < N) :
    c2 ((ents m).filterMap (nxt (ents m) R)) j = R.toNat := by
  have hr' : ∀ e ∈ ents m, 0 ≤ e.1.2 ∧ e.1.2 < R := fun e he => (hr e he).2
  rw [c2_perm (swap_perm hn hr')]
  have e1 : (ents m).filterMap (nxtB (ents m) R) = (ents m).map fun e => ((mget (ents m) (bef R e.1)).getD 0, e.2) := by
    rw [← List.filterMap_eq_map]
    refine fm_congr _ fun e he => ?_
    obtain ⟨h1, h2⟩ := hr e he
    have hb := (aft_bef (k := e.1) h2).2.2.2.2
    have hb1 : (bef R e.1).1 = e.1.1 := by unfold bef; split <;> rfl
    have hs := hf (bef R e.1).2.toNat e.1.1.toNat (by omega) (by omega)
    rw [Int.toNat_of_nonneg h1.1, Int.toNat_of_nonneg hb.1, ← hb1] at hs
    obtain ⟨v, hv⟩ := Option.isSome_iff_exists.1 hs
    have hv' : mget (ents m) (bef R e.1) = some v := hv
    rw [nxtB, hv']; simp [hv']
  rw [e1, c2, List.filter_map, List.length_map]
  have e2 : ((fun x : Int × Int => x.2 == (j : Int)) ∘ fun e : (Int × Int) × Int => ((mget (ents m) (bef R e.1)).getD 0, e.2)) = fun e => e.2 == (j : Int) := rfl
  rw [e2, ents_sym m j, full_count (N := N) (R := R.toNat) hn (fun e he => by have := hr' e he; omega) j fun r h => hf r j h hj]

/-- the rows less those that carry, up to a place -/
def rowsSt (all : List (Int × Int)) (N : Nat) (xs : List (Int × Int)) : List Int := (List.range N).map fun a : Nat => c1 all a - c1 xs a
theorem rowsSt_get (all : List (Int × Int)) (N : Nat) (xs : List (Int × Int)) (a : Nat) (h : a < N) : (rowsSt all N xs).getD a 0 = c1 all a - c1 xs a := by
  rw [List.getD_eq_getElem?_getD, rowsSt, List.getElem?_map, List.getElem?_range h]; rfl
theorem rowsSt_len (all : List (Int × Int)) (N : Nat) (xs : List (Int × Int)) : (rowsSt all N xs).length = N := by simp [rowsSt]
theorem rowsSt_set (all : List (Int × Int)) (N : Nat) (xs : List (Int × Int)) (p : Int × Int) (h : 0 ≤ p.1 ∧ p.1 < N) : (rowsSt all N xs).set p.1.toNat (c1 all p.1 - c1 xs p.1 - 1) = rowsSt all N (xs ++ [p]) := by
  apply List.ext_getElem
  · simp [rowsSt]
  · intro t h1 h2
    rw [List.getElem_set]
    simp only [rowsSt, List.getElem_map, List.getElem_range, c1_app]
    by_cases e : p.1.toNat = t
    · rw [if_pos e]
      have e2 : p.1 = (t : Int) := by omega
      have e3 : c1 [p] (t : Int) = 1 := by rw [c1, List.filter_cons, if_pos (by simpa using e2)]; rfl
      rw [e3, e2]; omega
    · rw [if_neg e]
      have e3 : c1 [p] (t : Int) = 0 := by rw [c1, List.filter_cons, if_neg (by simp; omega)]; rfl
      rw [e3]; omega
def fullSt (F : List (List Int)) (r t : Nat) : Bool := ((F.take r).all fun row => row.all fun x => decide (x ≥ 0)) && (((F.getD r []).take t).all fun x => decide (x ≥ 0))
theorem fullSt_t (F : List (List Int)) (r t : Nat) (h : t < (F.getD r []).length) : fullSt F r (t + 1) = (fullSt F r t && decide ((F.getD r []).getD t 0 ≥ 0)) := by
  rw [fullSt, take_snocD _ t 0 h, List.all_append, ← Bool.and_assoc]; simp [fullSt]
theorem fullSt_r (F : List (List Int)) (r N : Nat) (h : r < F.length) (hN : (F.getD r []).length = N) : fullSt F (r + 1) 0 = fullSt F r N := by
  have e : (F.getD r []).take N = F.getD r [] := List.take_of_length_le (by omega)
  rw [fullSt, take_snocD _ r [] h, List.all_append, List.take_zero, fullSt, e]; simp
theorem fullSt_all (F : List (List Int)) (h : fullSt F F.length 0 = true) (r t : Nat) (hr : r < F.length) (ht : t < (F.getD r []).length) : 0 ≤ (F.getD r []).getD t 0 := by
  simp only [fullSt, List.take_length, List.take_zero, List.all_nil, Bool.and_true, List.all_eq_true, decide_eq_true_eq] at h
  exact h _ (getD_mem' hr) _ (getD_mem' ht)
/-! ### the sums -/
def RS (M : List (List Int)) (t j : Nat) : Int := ((List.range j).map fun i => (M.getD t []).getD i 0).sum
theorem RS_succ (M : List (List Int)) (t j : Nat) : RS M t (j + 1) = RS M t j + (M.getD t []).getD j 0 := by
  rw [RS, List.range_succ, List.map_append, List.sum_append]; simp [RS]
def rowSum (M : List (List Int)) (N i j : Nat) : List Int := (List.range N).map fun t => if t < i then RS M t N else if t = i then RS M t j else 0
theorem rowSum_len (M : List (List Int)) (N i j : Nat) : (rowSum M N i j).length = N := by simp [rowSum]
theorem rowSum_get (M : List (List Int)) (N i j : Nat) (h : i < N) : (rowSum M N i j).getD i 0 = RS M i j := by
  rw [List.getD_eq_getElem?_getD, rowSum, List.getElem?_map, List.getElem?_range h]; simp
theorem rowSum_set (M : List (List Int)) (N i j : Nat) : (rowSum M N i j).set i (RS M i (j + 1)) = rowSum M N i (j + 1) := by
  apply List.ext_getElem
  · simp [rowSum]
  · intro t h1 h2
    rw [List.getElem_set]
    simp only [rowSum, List.getElem_map, List.getElem_range]
    by_cases e : i = t
    · subst e; rw [if_pos rfl, if_neg (by omega), if_pos rfl]
    · rw [if_neg e]
      by_cases e3 : t < i
      · rw [if_pos e3, if_pos e3]
      · rw [if_neg e3, if_neg e3, if_neg (fun h => e h.symm), if_neg (fun h => e h.symm)]
theorem rowSum_next (M : List (List Int)) (N i : Nat) : rowSum M N i N = rowSum M N (i + 1) 0 := by
  apply List.ext_getElem
  · simp [rowSum]
  · intro t h1 h2
    simp only [rowSum, List.getElem_map, List.getElem_range]
    by_cases e : t < i
    · rw [if_pos e, if_pos (by omega)]
    · rw [if_neg e]
      by_cases e2 : t = i
      · rw [if_pos e2, if_pos (by omega)]
      · rw [if_neg e2, if_neg (by omega)]; split <;> simp [RS]
theorem rowSum_zero (M : List (List Int)) (N : Nat) : rowSum M N 0 0 = List.replicate N 0 := by
  rw [rowSum, ← List.length_range (n := N), ← List.map_const', List.length_range]
  refine List.map_congr_left fun t _ => ?_
  rw [if_neg (by omega)]; split <;> simp [RS]
theorem RS_bd {M : List (List Int)} (hM : ∀ row ∈ M, ∀ x ∈ row, 0 ≤ x ∧ x ≤ 2000000) (t : Nat) : ∀ j, 0 ≤ RS M t j ∧ RS M t j ≤ 2000000 * j
  | 0 => by simp [RS]
  | j + 1 => by
    have := RS_bd hM t j
    have h1 : 0 ≤ (M.getD t []).getD j 0 ∧ (M.getD t []).getD j 0 ≤ 2000000 := by
      by_cases hi : t < M.length
      · by_cases ht : j < (M.getD t []).length
        · exact hM _ (getD_mem' hi) _ (getD_mem' ht)
        · rw [List.getD_eq_getElem?_getD (i := j), List.getElem?_eq_none (by omega)]; simp
      · rw [List.getD_eq_getElem?_getD (i := t), List.getElem?_eq_none (by omega)]; simp
    rw [RS_succ]; omega
def ones (N : Nat) : List Int := List.replicate N 1
theorem term_one (M : List (List Int)) (N t i : Nat) (h : i < N) : term M (ones N) t i = (M.getD i []).getD t 0 := by
  rw [term, ones, List.getD_eq_getElem?_getD (l := List.replicate N 1), List.getElem?_replicate, if_pos h]; simp
/-- what the law's loops lean on -/
theorem counts_facts {N : Nat} {m : List S45} {es : Ent} {r : Int} (hm : m.length ≤ 1280) (hf0 : foesF N m = some (es, r)) (hrb : rightB N m = true) :
    Rect (roundsF m).toNat N (foesM N m) ∧ Vals N (foesM N m) ∧ (roundsF m).toNat ≤ 64 ∧
    rowSum (cntM N (es.filterMap (nxt es r))) N N 0 = rowsSt (pairsF (foesM N m) (roundsF m).toNat N) N (PQ (foesM N m) (roundsF m).toNat N 0 0) ∧
    (fullSt (foesM N m) (roundsF m).toNat 0 = true → ∀ t, t < N → (stL (cntM N (es.filterMap (nxt es r))) (ones N) N N 0).getD t 0 = (roundsF m).toNat) := by
  obtain ⟨hn, hb, hk, rfl, rfl⟩ := foesF_inv hf0
  have hb63 : ∀ x ∈ m, 0 ≤ x.f0 ∧ x.f0 ≤ 63 := fun x hx => by have := hb x hx; unfold bad at this; omega
  have hrd := rnd_bd m hb63 0 (by omega) (by omega)
  have hrng : ∀ x ∈ m, 0 ≤ x.f0 ∧ x.f0 < roundsF m := fun x hx => ⟨(hb63 x hx).1, hrd.2.2.2 x hx⟩
  have hR : roundsF m ≤ 64 := hrd.2.1
  have hR0 : 0 ≤ roundsF m := hrd.1
  obtain ⟨hsame, _⟩ := same_of hf0
  obtain ⟨_, _, hok⟩ := foes_ok N m (by omega) _ _ hf0
  have hent : ∀ e ∈ ents m, ((0 ≤ e.1.1 ∧ e.1.1 < N) ∧ 0 ≤ e.1.2 ∧ e.1.2 < roundsF m) := by
    intro e he
    obtain ⟨x, hx, h⟩ := mem_ents.1 he
    have h1 := hb x hx
    have h2 := hrng x hx
    unfold bad at h1
    rcases h with rfl | rfl
    · dsimp only; omega
    · dsimp only; omega
  have hxs : ∀ x ∈ (ents m).filterMap (nxt (ents m) (roundsF m)), (0 ≤ x.1 ∧ x.1 < N) ∧ 0 ≤ x.2 ∧ x.2 < N := by
    intro x hx
    obtain ⟨e, he, hx⟩ := List.mem_filterMap.1 hx
    exact nxt_rng hok he hx
  have hperm := pairs_perm hsame
  rw [Int.toNat_of_nonneg hR0] at hperm
  have hfine := (fine_of hrb).1
  rw [Int.toNat_natCast] at hfine
  have hvals : Vals N (foesM N m) := foes_vals (roundsF m).toNat N m (fun x hx => (hfine.ok x hx).2) _ (fun row hrow x hx => by
    rw [F0] at hrow
    rw [List.eq_of_mem_replicate hrow] at hx
    rw [List.eq_of_mem_replicate hx]; omega)
  refine ⟨hsame.rect, hvals, by omega, ?_, ?_⟩
  · refine List.map_congr_left fun t ht => ?_
    have ht := List.mem_range.1 ht
    rw [if_pos ht, ← c1_perm hperm, ← sum_count1 N _ _ hxs]
    have : c1 (PQ (foesM N m) (roundsF m).toNat N 0 0) (t : Int) = 0 := by simp [PQ, c1]
    rw [this, Int.sub_zero, RS]
    refine congrArg List.sum (List.map_congr_left fun j hj => ?_)
    rw [cntM_get _ _ t ht, List.getD_eq_getElem?_getD, List.getElem?_map, List.getElem?_range (List.mem_range.1 hj)]; rfl
  intro hfull t ht
  rw [← hsame.rect.1] at hfull
  have hall := fullSt_all _ hfull
  have hsome : ∀ r t : Nat, r < (roundsF m).toNat → t < N → (mget (ents m) ((t : Int), (r : Int))).isSome := by
    intro r t hr ht
    have h1 := hall r t (by rw [hsame.rect.1]; exact hr) (by rw [hsame.rect.get hr]; exact ht)
    have h2 := hsame.cell r t hr ht
    cases hg : mget (ents m) ((t : Int), (r : Int)) with
    | some v => rfl
    | none =>
      rw [hg, Option.getD_none] at h2
      have h3 : (0 : Int) ≤ ((foesM N m).getD r []).getD t default := h1
      omega
  have hcol : (stL (cntM N ((ents m).filterMap (nxt (ents m) (roundsF m)))) (ones N) N N 0).getD t 0 = colW (cntM N ((ents m).filterMap (nxt (ents m) (roundsF m)))) (ones N) N t := by
    rw [List.getD_eq_getElem?_getD, stL, List.getElem?_map, List.getElem?_range ht]; simp
  have hc2 := full_cols (N := N) (R := roundsF m) rfl hk hent hsome t ht
  rw [hcol, col_loads N (ones N) t ht _ hxs, ← hc2, loadAt, c2]
  have hone : ∀ l : List (Int × Int), (∀ x ∈ l, (0 ≤ x.1 ∧ x.1 < N)) → (l.map fun x => (ones N).getD x.1.toNat 0).sum = l.length := by
    intro l
    induction l with
    | nil => intro _; rfl
    | cons x l ih =>
      intro h
      have hx := h x (by simp)
      rw [List.map_cons, List.sum_cons, ih (fun y hy => h y (by simp [hy])), ones, List.getD_eq_getElem?_getD, List.getElem?_replicate, if_pos (by omega), List.length_cons]
      simp; omega
  exact hone _ fun x hx => (hxs x (List.mem_filter.1 hx).1).1
end Go.Proofs.Ytcjpghiceebkfaa.P
