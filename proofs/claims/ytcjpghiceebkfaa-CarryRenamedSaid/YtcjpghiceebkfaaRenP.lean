/- Renamed teams: plain. -/
import Derived.Test.YtcjpghiceebkfaaP9
import Derived.Test.YtcjpghiceebkfaaEnts
import Derived.Test.YtcjpghiceebkfaaGRen
namespace Go.Proofs.Ytcjpghiceebkfaa.P
open Go.RowKit Go.Proofs.YtcjpghiceebkfaaW.PrintWords Go.Proofs.YtcjpghiceebkfaaW.PrintLast Go.Proofs.YtcjpghiceebkfaaW.PrintMore
open XW
set_option linter.unusedSimpArgs false
set_option linter.unusedVariables false

/-- an order of N teams -/
structure Ord (N : Nat) (l : List Int) : Prop where
  len : l.length = N
  nodup : l.Nodup
  rng : ∀ x ∈ l, 0 ≤ x ∧ x < N
theorem ord_of {N : Nat} {l : List Int} (hn : l.Nodup) (hr : ∀ x ∈ l, 0 ≤ x ∧ x < N) (ha : ∀ t : Nat, t < N → (t : Int) ∈ l) : Ord N l := by
  have h2 : ((List.range N).map fun r : Nat => (r : Int)).Nodup := nodup_map_on (fun a _ b _ h => by omega) List.nodup_range
  have := ((List.perm_ext_iff_of_nodup hn h2).2 fun x => by
    constructor
    · intro h
      have := hr x h
      exact List.mem_map.2 ⟨x.toNat, List.mem_range.2 (by omega), by omega⟩
    · intro h
      obtain ⟨t, ht, rfl⟩ := List.mem_map.1 h
      exact ha t (List.mem_range.1 ht)).length_eq
  exact ⟨by simpa using this, hn, hr⟩
theorem order_l1 (N : Nat) (hN : N ≤ 20) (has : List Bool) (hh : has.length = N) : ∀ (d i k : Nat) (out : List Int), N - i ≤ d → d + 1 ≤ k → i ≤ N → out.Nodup → (∀ x ∈ out, 0 ≤ x ∧ x < N) → (∀ t, t < i → (t : Int) ∈ out) → (∀ t, i ≤ t → t < N → (has.getD t false = true ↔ (t : Int) ∈ out)) →
    ∃ out', fastilaw22_order.l1 k out has N i = some out' ∧ Ord N out' := by
  intro d
  induction d with
  | zero =>
    intro i k out hd hk hi h1 h2 h3 h4
    obtain ⟨k, rfl⟩ : ∃ k', k = k' + 1 := ⟨k - 1, by omega⟩
    exact ⟨out, by rw [fastilaw22_order.l1, if_neg (by omega)], ord_of h1 h2 fun t ht => h3 t (by omega)⟩
  | succ d ih =>
    intro i k out hd hk hi h1 h2 h3 h4
    obtain ⟨k, rfl⟩ : ∃ k', k = k' + 1 := ⟨k - 1, by omega⟩
    by_cases h : i < N
    · have hle : out.length ≤ N := by
        have h5 : ((List.range N).map fun r : Nat => (r : Int)).Nodup := nodup_map_on (fun a _ b _ h => by omega) List.nodup_range
        have := h1.length_le_of_subset (l₂ := (List.range N).map fun r : Nat => (r : Int)) fun x hx => by
          have := h2 x hx
          exact List.mem_map.2 ⟨x.toNat, List.mem_range.2 (by omega), by omega⟩
        simpa using this
      rw [fastilaw22_order.l1, if_pos (by omega), if_pos (by omega), if_pos (by omega), rdOf, Int.toNat_natCast]
      by_cases hb : has.getD i false = true
      · rw [if_pos hb, w64 (by omega)]
        refine ih (i + 1) k out (by omega) (by omega) h h1 h2 (fun t ht => ?_) (fun t ht ht2 => h4 t (by omega) ht2)
        by_cases e : t = i
        · subst e; exact (h4 t (Nat.le_refl _) h).1 hb
        · exact h3 t (by omega)
      · rw [if_neg hb, if_pos (by omega), w64 (by omega)]
        have hni : (i : Int) ∉ out := fun hc => hb ((h4 i (Nat.le_refl _) h).2 hc)
        refine ih (i + 1) k (out ++ [(i : Int)]) (by omega) (by omega) h ?_ ?_ (fun t ht => ?_) (fun t ht ht2 => ?_)
        · rw [List.nodup_append]
          refine ⟨h1, by simp, ?_⟩
          rintro a ha b hb2 rfl
          rw [List.mem_singleton] at hb2; subst hb2; exact hni ha
        · intro x hx
          rcases List.mem_append.1 hx with hx | hx
          · exact h2 x hx
          · rw [List.mem_singleton] at hx; subst hx; omega
        · by_cases e : t = i
          · subst e; simp
          · exact List.mem_append_left _ (h3 t (by omega))
        · rw [h4 t (by omega) ht2, List.mem_append, List.mem_singleton]
          exact ⟨.inl, fun h => h.elim id fun e => by omega⟩
    · exact ⟨out, by rw [fastilaw22_order.l1, if_neg (by omega)], ord_of h1 h2 fun t ht => h3 t (by omega)⟩
theorem order_l0 (N : Nat) (hN : 2 ≤ N ∧ N ≤ 20) (l : List Int) (hl : ∀ x ∈ l, 0 ≤ x ∧ x ≤ 255) (hlen : l.length ≤ 100) : ∀ (d i k : Nat) (out : List Int) (has : List Bool), l.length - i ≤ d → d + 30 ≤ k → i ≤ l.length → has.length = N → out.Nodup → (∀ x ∈ out, 0 ≤ x ∧ x < N) → (∀ t, t < N → (has.getD t false = true ↔ (t : Int) ∈ out)) →
    ∃ out', fastilaw22_order.l0 k N out has l l.length i = some out' ∧ Ord N out' := by
  intro d
  induction d with
  | zero =>
    intro i k out has hd hk hi hh h1 h2 h4
    obtain ⟨k, rfl⟩ : ∃ k', k = k' + 1 := ⟨k - 1, by omega⟩
    rw [fastilaw22_order.l0, if_neg (by omega), hh]
    exact order_l1 N hN.2 has hh N 0 k out (by omega) (by omega) (by omega) h1 h2 (fun t ht => by omega) (fun t _ ht => h4 t ht)
  | succ d ih =>
    intro i k out has hd hk hi hh h1 h2 h4
    obtain ⟨k, rfl⟩ : ∃ k', k = k' + 1 := ⟨k - 1, by omega⟩
    by_cases h : i < l.length
    · have hle : out.length ≤ N := by
        have h5 : ((List.range N).map fun r : Nat => (r : Int)).Nodup := nodup_map_on (fun a _ b _ h => by omega) List.nodup_range
        have := h1.length_le_of_subset (l₂ := (List.range N).map fun r : Nat => (r : Int)) fun x hx => by
          have := h2 x hx
          exact List.mem_map.2 ⟨x.toNat, List.mem_range.2 (by omega), by omega⟩
        simpa using this
      have hx := hl _ (getD_mem' (d := (0 : Int)) h)
      have e0 : rd l (i : Int) = l.getD i 0 := by rw [rd, Int.toNat_natCast]
      have hm0 := Int.emod_nonneg (l.getD i 0) (show (N : Int) ≠ 0 by omega)
      have hm1 := Int.emod_lt_of_pos (l.getD i 0) (show (0 : Int) < N by omega)
      rw [fastilaw22_order.l0, if_pos (by omega), if_pos (by omega), if_pos (by omega), if_neg (by omega), e0, w64 (x := l.getD i 0) (by omega), Int.tmod_eq_emod_of_nonneg (by omega), if_pos (by omega), if_pos (by omega)]
      generalize l.getD i 0 % (N : Int) = t at *
      rw [rdOf]
      by_cases hb : has.getD t.toNat false = true
      · rw [if_pos hb, w64 (by omega)]
        exact ih (i + 1) k out has (by omega) (by omega) h hh h1 h2 h4
      · rw [if_neg hb, if_pos (by omega), w64 (by omega)]
        have hni : t ∉ out := fun hc => hb ((h4 t.toNat (by omega)).2 (by rwa [Int.toNat_of_nonneg hm0]))
        refine ih (i + 1) k (out ++ [t]) (has.set t.toNat true) (by omega) (by omega) h (by rw [List.length_set]; exact hh) ?_ ?_ (fun s hs => ?_)
        · rw [List.nodup_append]
          refine ⟨h1, by simp, ?_⟩
          rintro a ha b hb2 rfl
          rw [List.mem_singleton] at hb2; subst hb2; exact hni ha
        · intro x hx
          rcases List.mem_append.1 hx with hx | hx
          · exact h2 x hx
          · rw [List.mem_singleton] at hx; subst hx; omega
        · rw [List.mem_append, List.mem_singleton, List.getD_eq_getElem?_getD]
          by_cases e : t.toNat = s
          · rw [← e, List.getElem?_set_self (by omega)]
            simp; right; omega
          · rw [List.getElem?_set_ne e, ← List.getD_eq_getElem?_getD, h4 s hs]
            exact ⟨.inl, fun h => h.elim id fun e2 => by omega⟩
    · rw [fastilaw22_order.l0, if_neg (by omega), hh]
      exact order_l1 N hN.2 has hh N 0 k out (by omega) (by omega) (by omega) h1 h2 (fun t ht => by omega) (fun t _ ht => h4 t ht)
theorem order_f (N : Nat) (hN : 2 ≤ N ∧ N ≤ 20) (l : List Int) (hl : ∀ x ∈ l, 0 ≤ x ∧ x ≤ 255) (hlen : l.length ≤ 100) : ∃ out, fastilaw22_order.f 200 N l = some out ∧ Ord N out := by
  rw [fastilaw22_order.f, if_pos (by omega), if_pos (by omega), Int.toNat_natCast]
  exact order_l0 N hN l hl hlen l.length 0 200 [] (List.replicate N false) (by omega) (by omega) (by omega) (by simp) (by simp) (fun x h => by cases h) (fun t ht => by rw [List.getD_eq_getElem?_getD, List.getElem?_replicate, if_pos ht]; simp)

/-! ### the entries of renamed meetings -/
def nm (tos : List Int) (t : Int) : Int := tos.getD t.toNat 0
theorem nm_mem {N : Nat} {tos : List Int} (h : Ord N tos) {t : Int} (ht : 0 ≤ t ∧ t < N) : nm tos t ∈ tos := getD_mem' (by rw [h.len]; omega)
theorem nm_rng {N : Nat} {tos : List Int} (h : Ord N tos) {t : Int} (ht : 0 ≤ t ∧ t < N) : 0 ≤ nm tos t ∧ nm tos t < N := h.rng _ (nm_mem h ht)
theorem nm_inj {N : Nat} {tos : List Int} (h : Ord N tos) {s t : Int} (hs : 0 ≤ s ∧ s < N) (ht : 0 ≤ t ∧ t < N) (e : nm tos s = nm tos t) : s = t := by
  have hl := h.len
  unfold nm at e
  rw [List.getD_eq_getElem?_getD, List.getD_eq_getElem?_getD, List.getElem?_eq_getElem (by omega : s.toNat < tos.length), List.getElem?_eq_getElem (by omega : t.toNat < tos.length)] at e
  have e : tos[s.toNat]'(by omega) = tos[t.toNat]'(by omega) := e
  have hp := List.pairwise_iff_getElem.1 h.nodup
  rcases Nat.lt_trichotomy s.toNat t.toNat with h1 | h1 | h1
  · exact absurd e (hp _ _ _ _ h1)
  · omega
  · exact absurd e.symm (hp _ _ _ _ h1)
def renE (tos : List Int) (e : (Int × Int) × Int) : (Int × Int) × Int := ((nm tos e.1.1, e.1.2), nm tos e.2)
theorem ents_ren (tos : List Int) (m : List S45) : ents (m.map (renS tos)) = (ents m).map (renE tos) := by
  induction m with
  | nil => rfl
  | cons x m ih => rw [List.map_cons, show ents (renS tos x :: m.map (renS tos)) = ent2 (renS tos x) ++ ents (m.map (renS tos)) from rfl, ih, show ents (x :: m) = ent2 x ++ ents m from rfl, List.map_append]; rfl
theorem ents_perm {a b : List S45} (h : a.Perm b) : (ents a).Perm (ents b) := h.flatMap_right _
theorem set_perm {α : Type} {l : List α} {i : Nat} (h : i < l.length) (y : α) : (l[i] :: l.set i y).Perm (y :: l) := by
  rw [List.set_eq_take_append_cons_drop, if_pos h]
  have el : l = l.take i ++ (l[i] :: l.drop (i + 1)) := by rw [List.getElem_cons_drop, List.take_append_drop]
  have h1 : (l.take i ++ y :: l.drop (i + 1)).Perm (y :: (l.take i ++ l.drop (i + 1))) := List.perm_middle
  have h2 : (l.take i ++ l[i] :: l.drop (i + 1)).Perm (l[i] :: (l.take i ++ l.drop (i + 1))) := List.perm_middle
  rw [← el] at h2
  exact ((h1.cons _).trans (List.Perm.swap ..)).trans (h2.symm.cons _)
theorem ents_set {l : List S45} {i : Nat} (h : i < l.length) (y : S45) (hy : (ent2 y).Perm (ent2 (l.getD i z45))) : (ents (l.set i y)).Perm (ents l) := by
  have hg : l.getD i z45 = l[i] := by rw [List.getD_eq_getElem?_getD, List.getElem?_eq_getElem h]; rfl
  rw [hg] at hy
  have h1 := ents_perm (set_perm h y)
  have e1 : ents (l[i] :: l.set i y) = ent2 l[i] ++ ents (l.set i y) := rfl
  have e2 : ents (y :: l) = ent2 y ++ ents l := rfl
  rw [e1, e2] at h1
  exact (List.perm_append_left_iff _).1 (h1.trans (hy.append_right _))
theorem swap_set {α : Type} {l : List α} {i j : Nat} (hi : i < l.length) (hj : j < l.length) (hij : i ≠ j) (d : α) : ((l.set i (l.getD j d)).set j (l.getD i d)).Perm l := by
  have gi : l.getD i d = l[i] := by rw [List.getD_eq_getElem?_getD, List.getElem?_eq_getElem hi]; rfl
  have gj : l.getD j d = l[j] := by rw [List.getD_eq_getElem?_getD, List.getElem?_eq_getElem hj]; rfl
  rw [gi, gj]
  have h1 := set_perm (l := l.set i l[j]) (i := j) (by rw [List.length_set]; exact hj) l[i]
  have e : (l.set i l[j])[j]'(by rw [List.length_set]; exact hj) = l[j] := by rw [List.getElem_set_ne hij]
  rw [e] at h1
  have h2 := set_perm hi l[j]
  exact (h1.trans h2).cons_inv
theorem rounds_le {m : List S45} {R : Int} (hR : 0 ≤ R) : roundsF m ≤ R ↔ ∀ x ∈ m, x.f0 + 1 ≤ R := by
  have key : ∀ (m : List S45) (s : Int), m.foldl rndF s ≤ R ↔ s ≤ R ∧ ∀ x ∈ m, x.f0 + 1 ≤ R := by
    intro m
    induction m with
    | nil => intro s; simp
    | cons x m ih =>
      intro s
      rw [List.foldl_cons, ih]
      unfold rndF
      constructor
      · rintro ⟨h1, h2⟩
        refine ⟨by omega, fun y hy => ?_⟩
        rcases List.mem_cons.1 hy with rfl | hy
        · omega
        · exact h2 y hy
      · rintro ⟨h1, h2⟩
        have := h2 x (by simp)
        exact ⟨by omega, fun y hy => h2 y (by simp [hy])⟩
  unfold roundsF
  rw [key]
  exact ⟨fun h => h.2, fun h => ⟨hR, h⟩⟩
theorem rounds_ents {m : List S45} {R : Int} (hR : 0 ≤ R) : roundsF m ≤ R ↔ ∀ e ∈ ents m, e.1.2 + 1 ≤ R := by
  rw [rounds_le hR]
  constructor
  · intro h e he
    obtain ⟨x, hx, h1⟩ := mem_ents.1 he
    have := h x hx
    rcases h1 with rfl | rfl <;> exact this
  · intro h x hx
    exact h ((x.f1, x.f0), x.f2) (mem_ents.2 ⟨x, hx, .inl rfl⟩)
theorem rounds_nn (m : List S45) : 0 ≤ roundsF m := by
  have key : ∀ (m : List S45) (s : Int), 0 ≤ s → 0 ≤ m.foldl rndF s := by
    intro m
    induction m with
    | nil => intro s h; exact h
    | cons x m ih => intro s h; exact ih _ (by unfold rndF; omega)
  exact key m 0 (Int.le_refl _)
theorem rounds_perm {a b : List S45} (h : (ents a).Perm (ents b)) : roundsF a = roundsF b := by
  have h1 := (rounds_ents (m := a) (rounds_nn b)).2 fun e he => (rounds_ents (m := b) (rounds_nn b)).1 (Int.le_refl _) e (h.mem_iff.1 he)
  have h2 := (rounds_ents (m := b) (rounds_nn a)).2 fun e he => (rounds_ents (m := a) (rounds_nn a)).1 (Int.le_refl _) e (h.mem_iff.2 he)
  omega
theorem good_iff {n : Int} {x : S45} : ¬ bad n x ↔ ∀ e ∈ ent2 x, (0 ≤ e.1.1 ∧ e.1.1 < n) ∧ (0 ≤ e.1.2 ∧ e.1.2 ≤ 63) ∧ (0 ≤ e.2 ∧ e.2 < n) ∧ e.1.1 ≠ e.2 := by
  unfold bad
  constructor
  · intro h e he
    rcases List.mem_cons.1 he with rfl | he
    · dsimp only; omega
    · rw [List.mem_singleton] at he; subst he; dsimp only; omega
  · intro h
    have := h ((x.f1, x.f0), x.f2) (by simp [ent2])
    dsimp only at this; omega
theorem good_ents {n : Int} {m : List S45} : (∀ x ∈ m, ¬ bad n x) ↔ ∀ e ∈ ents m, (0 ≤ e.1.1 ∧ e.1.1 < n) ∧ (0 ≤ e.1.2 ∧ e.1.2 ≤ 63) ∧ (0 ≤ e.2 ∧ e.2 < n) ∧ e.1.1 ≠ e.2 := by
  constructor
  · intro h e he
    obtain ⟨x, hx, he⟩ := List.mem_flatMap.1 he
    exact good_iff.1 (h x hx) e he
  · intro h x hx
    exact good_iff.2 fun e he => h e (List.mem_flatMap.2 ⟨x, hx, he⟩)
/-- renamed, turned and in another order -/
theorem ren_foes {N : Nat} {m xs : List S45} {es : Ent} {r : Int} {tos : List Int} (ho : Ord N tos) (hf : foesF N m = some (es, r)) (hp : (ents xs).Perm (ents (m.map (renS tos)))) :
    foesF N xs = some (ents xs, r) ∧ ((ents xs).filterMap (nxt (ents xs) r)).Perm ((es.filterMap (nxt es r)).map fun p => (nm tos p.1, nm tos p.2)) := by
  obtain ⟨hn, hb, hk, rfl, rfl⟩ := foesF_inv hf
  have hg := good_ents.1 hb
  rw [ents_ren] at hp
  have hkr : (keys ((ents m).map (renE tos))).Nodup := by
    have e : keys ((ents m).map (renE tos)) = (keys (ents m)).map fun k => (nm tos k.1, k.2) := by simp [keys, renE, List.map_map, Function.comp_def]
    rw [e]
    refine nodup_map_on ?_ hk
    rintro ⟨t, s⟩ ha ⟨t2, s2⟩ hb2 h
    obtain ⟨e1, h1, h2⟩ := List.mem_map.1 ha
    obtain ⟨e2, h3, h4⟩ := List.mem_map.1 hb2
    have k1 := (hg e1 h1).1
    have k2 := (hg e2 h3).1
    rw [h2] at k1; rw [h4] at k2
    simp only [Prod.mk.injEq] at h
    exact Prod.ext (nm_inj ho k1 k2 h.1) h.2
  have hkx : (keys (ents xs)).Nodup := (hp.map (·.1)).nodup_iff.2 hkr
  have hbx : ∀ x ∈ xs, ¬ bad N x := good_ents.2 fun e he => by
    obtain ⟨e0, h0, rfl⟩ := List.mem_map.1 (hp.mem_iff.1 he)
    have := hg e0 h0
    have r1 := nm_rng ho this.1
    have r2 := nm_rng ho this.2.2.1
    exact ⟨r1, this.2.1, r2, fun e => this.2.2.2 (nm_inj ho this.1 this.2.2.1 e)⟩
  have hR : roundsF xs = roundsF m := by
    have h1 : (ents xs).Perm (ents (m.map (renS tos))) := by rw [ents_ren]; exact hp
    rw [rounds_perm h1]
    have h2 := fun R hR => rounds_le (m := m.map (renS tos)) (R := R) hR
    have h3 := fun R hR => rounds_le (m := m) (R := R) hR
    have e : ∀ R, (∀ x ∈ m.map (renS tos), x.f0 + 1 ≤ R) ↔ ∀ x ∈ m, x.f0 + 1 ≤ R := fun R => by
      constructor
      · intro h x hx; exact h (renS tos x) (List.mem_map.2 ⟨x, hx, rfl⟩)
      · intro h y hy
        obtain ⟨x, hx, rfl⟩ := List.mem_map.1 hy
        exact h x hx
    have a := (h2 _ (rounds_nn m)).2 ((e _).2 ((h3 _ (rounds_nn m)).1 (Int.le_refl _)))
    have b := (h3 _ (rounds_nn (m.map (renS tos)))).2 ((e _).1 ((h2 _ (rounds_nn (m.map (renS tos)))).1 (Int.le_refl _)))
    omega
  refine ⟨by rw [← hR]; exact foesF_make hn hbx hkx, ?_⟩
  have hnx : ∀ e, nxt (ents xs) (roundsF m) e = nxt ((ents m).map (renE tos)) (roundsF m) e := fun e => by
    unfold nxt; rw [mget_perm hkx hp]
  refine ((hp.filterMap _).trans (List.Perm.of_eq ?_))
  rw [List.filterMap_map, List.map_filterMap]
  refine fm_congr _ fun e he => ?_
  have hre := hg e he
  simp only [Function.comp, hnx]
  have hg2 : mget ((ents m).map (renE tos)) (nm tos e.1.1, (aft (roundsF m) e.1).2) = (mget (ents m) (e.1.1, (aft (roundsF m) e.1).2)).map (nm tos) := by
    cases hm : mget (ents m) (e.1.1, (aft (roundsF m) e.1).2) with
    | some v =>
      rw [Option.map_some, mget_iff hkr]
      exact List.mem_map.2 ⟨_, mget_mem hm, rfl⟩
    | none =>
      rw [Option.map_none]
      rw [mget_none_iff] at hm ⊢
      intro hc
      obtain ⟨e1, he1, hk1⟩ := List.mem_map.1 hc
      obtain ⟨e2, he2, rfl⟩ := List.mem_map.1 he1
      simp only [renE, Prod.mk.injEq] at hk1
      refine hm (List.mem_map.2 ⟨e2, he2, ?_⟩)
      exact Prod.ext (nm_inj ho (hg e2 he2).1 hre.1 hk1.1) hk1.2
  have a1 : (aft (roundsF m) (renE tos e).1) = (nm tos e.1.1, (aft (roundsF m) e.1).2) := by unfold aft renE; dsimp only; split <;> rfl
  have a2 : aft (roundsF m) e.1 = (e.1.1, (aft (roundsF m) e.1).2) := by unfold aft; split <;> rfl
  unfold nxt
  rw [a1, hg2, Option.map_map, Option.map_map]
  conv => rhs; rw [a2]
  rfl
theorem count_ren {N : Nat} {tos : List Int} (ho : Ord N tos) (i j : Int) (hi : 0 ≤ i ∧ i < N) (hj : 0 ≤ j ∧ j < N) : ∀ xs : List (Int × Int), (∀ x ∈ xs, (0 ≤ x.1 ∧ x.1 < N) ∧ 0 ≤ x.2 ∧ x.2 < N) → (xs.map fun p => (nm tos p.1, nm tos p.2)).count (nm tos i, nm tos j) = xs.count (i, j)
  | [], _ => rfl
  | x :: xs, h => by
    have hx := h x (by simp)
    rw [List.map_cons, List.count_cons, List.count_cons, count_ren ho i j hi hj xs fun y hy => h y (by simp [hy])]
    congr 1
    by_cases e : x = (i, j)
    · subst e; simp
    · have : ((nm tos x.1, nm tos x.2) == (nm tos i, nm tos j)) = false := by
        simp only [beq_eq_false_iff_ne, ne_eq, Prod.mk.injEq]
        rintro ⟨h1, h2⟩
        exact e (Prod.ext (nm_inj ho hx.1 hi h1) (nm_inj ho hx.2 hj h2))
      rw [this]
      simp [e]
/-- the sum over all cells stays -/
theorem sqsM_cnt (N : Nat) (xs : List (Int × Int)) : sqsM (cntM N xs) = ((List.range N).map fun i : Nat => ((List.range N).map fun j : Nat => (xs.count ((i : Int), (j : Int)) : Int) * (xs.count ((i : Int), (j : Int)) : Int)).sum).sum := by
  rw [sqsM, cntM, List.map_map]
  refine congrArg List.sum (List.map_congr_left fun i _ => ?_)
  simp only [Function.comp, sqs, List.map_map]
  rfl
theorem sub_full {α : Type} {l1 l2 : List α} (hn : l1.Nodup) (hs : l1 ⊆ l2) (hl : l2.length ≤ l1.length) : l2 ⊆ l1 := fun x hx => by
  by_cases h : x ∈ l1
  · exact h
  · have := (List.nodup_cons.2 ⟨h, hn⟩).length_le_of_subset (l₂ := l2) fun y hy => by
      rcases List.mem_cons.1 hy with rfl | hy
      · exact hx
      · exact hs hy
    simp at this; omega
theorem ord_perm {N : Nat} {tos : List Int} (ho : Ord N tos) : ((List.range N).map fun i : Nat => (nm tos i).toNat).Perm (List.range N) := by
  refine (List.perm_ext_iff_of_nodup (nodup_map_on (fun a ha b hb h => ?_) List.nodup_range) List.nodup_range).2 fun t => ?_
  · have ha := List.mem_range.1 ha
    have hb := List.mem_range.1 hb
    have r1 := nm_rng ho (t := (a : Int)) (by omega)
    have r2 := nm_rng ho (t := (b : Int)) (by omega)
    have := nm_inj ho (s := (a : Int)) (t := (b : Int)) (by omega) (by omega) (by omega)
    omega
  · constructor
    · intro h
      obtain ⟨i, hi, rfl⟩ := List.mem_map.1 h
      have hi := List.mem_range.1 hi
      have r1 := nm_rng ho (t := (i : Int)) (by omega)
      exact List.mem_range.2 (by omega)
    · intro h
      have ht := List.mem_range.1 h
      have hsub : (List.range N).map (fun r : Nat => (r : Int)) ⊆ tos := by
        have h1 : tos ⊆ (List.range N).map fun r : Nat => (r : Int) := fun x hx => by
          have := ho.rng x hx
          exact List.mem_map.2 ⟨x.toNat, List.mem_range.2 (by omega), by omega⟩
        exact sub_full ho.nodup h1 (by simp [ho.len])
      have hmem := hsub (List.mem_map.2 ⟨t, h, rfl⟩)
      obtain ⟨i, hi, e⟩ := List.getElem_of_mem hmem
      refine List.mem_map.2 ⟨i, List.mem_range.2 (by rw [← ho.len]; exact hi), ?_⟩
      unfold nm
      rw [Int.toNat_natCast, List.getD_eq_getElem?_getD, List.getElem?_eq_getElem hi, Option.getD_some, e]
      omega
theorem sum_re {N : Nat} {tos : List Int} (ho : Ord N tos) (f : Nat → Int) : ((List.range N).map f).sum = ((List.range N).map fun i : Nat => f (nm tos i).toNat).sum := by
  have := sum_perm ((ord_perm ho).map f)
  rw [List.map_map] at this
  exact this.symm
theorem ren_val {N : Nat} {tos : List Int} (ho : Ord N tos) {xs ys : List (Int × Int)} (hx : ∀ x ∈ xs, (0 ≤ x.1 ∧ x.1 < N) ∧ 0 ≤ x.2 ∧ x.2 < N) (hp : ys.Perm (xs.map fun p => (nm tos p.1, nm tos p.2))) : sqsM (cntM N ys) = sqsM (cntM N xs) := by
  rw [sqsM_cnt, sqsM_cnt, sum_re ho]
  refine congrArg List.sum (List.map_congr_left fun i hi => ?_)
  have hi := List.mem_range.1 hi
  rw [sum_re ho]
  refine congrArg List.sum (List.map_congr_left fun j hj => ?_)
  have hj := List.mem_range.1 hj
  have r1 := nm_rng ho (t := (i : Int)) (by omega)
  have r2 := nm_rng ho (t := (j : Int)) (by omega)
  rw [Int.toNat_of_nonneg r1.1, Int.toNat_of_nonneg r2.1, hp.count_eq, count_ren ho i j (by omega) (by omega) xs hx]
end Go.Proofs.Ytcjpghiceebkfaa.P
