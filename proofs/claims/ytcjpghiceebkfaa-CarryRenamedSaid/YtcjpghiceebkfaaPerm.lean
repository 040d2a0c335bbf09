/- The reference's pairs are the program's: plain. -/
import Derived.Test.YtcjpghiceebkfaaGFo
namespace Go.Proofs.Ytcjpghiceebkfaa.P
open Go.RowKit
open XW
set_option linter.unusedSimpArgs false
set_option linter.unusedVariables false

/-- the entries, and the reference's table, tell the same -/
structure Same (N R : Nat) (es : Ent) (M : List (List Int)) : Prop where
  nodup : (es.map (·.1)).Nodup
  key : ∀ e ∈ es, (0 ≤ e.1.1 ∧ e.1.1 < N) ∧ (0 ≤ e.1.2 ∧ e.1.2 < R) ∧ 0 ≤ e.2
  rect : Rect R N M
  cell : ∀ r t : Nat, r < R → t < N → (M.getD r []).getD t default = (mget es ((t : Int), (r : Int))).getD (-1)
theorem get_set2 {M : List (List Int)} {R N : Nat} (h : Rect R N M) {r0 j r t : Nat} {v : Int} (h0 : r0 < R) (hj : j < N) (hr : r < R) (ht : t < N) :
    ((M.set r0 ((M.getD r0 []).set j v)).getD r []).getD t default = if r = r0 ∧ t = j then v else (M.getD r []).getD t default := by
  have hl := h.get h0
  have hM := h.1
  by_cases e : r = r0
  · subst e
    rw [List.getD_eq_getElem?_getD (l := M.set _ _), List.getElem?_set_self (by omega), Option.getD_some]
    by_cases e2 : t = j
    · subst e2
      rw [if_pos ⟨rfl, rfl⟩, List.getD_eq_getElem?_getD, List.getElem?_set_self (by omega), Option.getD_some]
    · rw [if_neg (fun h => e2 h.2), List.getD_eq_getElem?_getD, List.getElem?_set_ne (fun h => e2 h.symm), ← List.getD_eq_getElem?_getD]
  · rw [if_neg (fun h => e h.1), List.getD_eq_getElem?_getD (l := M.set _ _), List.getElem?_set_ne (fun h => e h.symm), ← List.getD_eq_getElem?_getD]
theorem Same.put {N R : Nat} {es : Ent} {M : List (List Int)} (h : Same N R es M) {t r v : Int} (ht : 0 ≤ t ∧ t < N) (hr : 0 ≤ r ∧ r < R) (hv : 0 ≤ v) (hn : (mget es (t, r)).isSome = false) :
    Same N R (mput es (t, r) v) (M.set r.toNat ((M.getD r.toNat []).set t.toNat v)) := by
  have hn' : mget es (t, r) = none := by simpa using hn
  have hput := mput_new v hn'
  refine ⟨?_, ?_, h.rect.set (by rw [List.length_set]; exact h.rect.get (by omega)), ?_⟩
  · rw [hput, List.map_append, List.map_singleton, List.nodup_append]
    refine ⟨h.nodup, by simp, ?_⟩
    rintro a ha b hb rfl
    rw [List.mem_singleton] at hb
    subst hb
    exact (mget_none_iff es _).1 hn' ha
  · intro e he
    rw [hput] at he
    rcases List.mem_append.1 he with he | he
    · exact h.key e he
    · rw [List.mem_singleton] at he
      subst he
      exact ⟨ht, hr, hv⟩
  · intro r' t' hr' ht'
    rw [get_set2 h.rect (by omega) (by omega) hr' ht']
    by_cases e : r' = r.toNat ∧ t' = t.toNat
    · rw [if_pos e]
      have e2 : (((t' : Int), (r' : Int)) : Int × Int) = (t, r) := by
        obtain ⟨rfl, rfl⟩ := e
        rw [Int.toNat_of_nonneg ht.1, Int.toNat_of_nonneg hr.1]
      rw [e2, mget_mput_same]; rfl
    · rw [if_neg e, mget_mput_ne _ _ (fun e2 => e (by
        have h1 := congrArg Prod.fst e2
        have h2 := congrArg Prod.snd e2
        simp only at h1 h2
        omega))]
      exact h.cell r' t' hr' ht'
theorem same_fold (N R : Nat) : ∀ (m : List S45) (es : Ent) (r : Int) (M : List (List Int)), (∀ x ∈ m, x.f0 < R) → Same N R es M → ∀ es' r', m.foldl (foeStep N) (some (es, r)) = some (es', r') → Same N R es' (m.foldl setFoe M) ∧ r' = m.foldl rndF r
  | [], es, r, M, _, h, es', r', he => by cases he; exact ⟨h, rfl⟩
  | x :: m, es, r, M, hm, h, es', r', he => by
    rw [List.foldl_cons] at he
    have hx := hm x (by simp)
    simp only [foeStep, Option.bind_some] at he
    by_cases hb : bad N x
    · rw [if_pos hb, fold_none] at he; cases he
    · rw [if_neg hb] at he
      split at he
      · rw [fold_none] at he; cases he
      · rename_i n1
        split at he
        · rw [fold_none] at he; cases he
        · rename_i n2
          have hb' : ¬ (x.f0 < 0 ∨ x.f0 > 63 ∨ min x.f1 x.f2 < 0 ∨ max x.f1 x.f2 ≥ N ∨ min x.f1 x.f2 = max x.f1 x.f2) := hb
          have h1 := h.put (t := x.f1) (r := x.f0) (v := x.f2) (by omega) (by omega) (by omega) (by simpa using n1)
          have h2 := h1.put (t := x.f2) (r := x.f0) (v := x.f1) (by omega) (by omega) (by omega) (by simpa using n2)
          exact same_fold N R m _ _ _ (fun y hy => hm y (by simp [hy])) h2 es' r' he
theorem same_of {N : Nat} {m : List S45} {es : Ent} {r : Int} (h : foesF N m = some (es, r)) : Same N (roundsF m).toNat es (foesM N m) ∧ r = roundsF m := by
  have hs : (foesF N m).isSome := by rw [h]; rfl
  unfold foesF at h hs
  split at h
  · cases h
  · rename_i hn
    rw [if_neg hn] at hs
    have hnb := not_bad m _ hs
    have hrd := rnd_bd m (fun x hx => by have := hnb x hx; unfold bad at this; omega) 0 (by omega) (by omega)
    refine same_fold N (roundsF m).toNat m [] 0 _ (fun x hx => by have := hrd.2.2.2 x hx; unfold roundsF; omega) ⟨by simp, fun e he => (by cases he), Rect.rep _ _, fun r t hr ht => ?_⟩ es r h
    have e1 : (F0 (roundsF m).toNat N).getD r [] = List.replicate N (-1) := by rw [F0, List.getD_eq_getElem?_getD, List.getElem?_replicate, if_pos hr]; rfl
    rw [e1, List.getD_eq_getElem?_getD, List.getElem?_replicate, if_pos ht]; rfl
theorem mem_get {es : Ent} (hn : (es.map (·.1)).Nodup) {e : (Int × Int) × Int} (he : e ∈ es) : mget es e.1 = some e.2 := by
  induction es with
  | nil => cases he
  | cons p es ih =>
    obtain ⟨k, v⟩ := p
    rw [List.map_cons, List.nodup_cons] at hn
    simp only [mget]
    rcases List.mem_cons.1 he with rfl | he
    · rw [if_pos rfl]
    · rw [if_neg (fun e' => hn.1 (List.mem_map.2 ⟨e, he, e'.symm⟩))]
      exact ih hn.2 he
theorem fm_congr {α β : Type} {f g : α → Option β} : ∀ (l : List α), (∀ x ∈ l, f x = g x) → l.filterMap f = l.filterMap g
  | [], _ => rfl
  | x :: l, h => by rw [List.filterMap_cons, List.filterMap_cons, h x (by simp), fm_congr l (fun y hy => h y (by simp [hy]))]
end Go.Proofs.Ytcjpghiceebkfaa.P
