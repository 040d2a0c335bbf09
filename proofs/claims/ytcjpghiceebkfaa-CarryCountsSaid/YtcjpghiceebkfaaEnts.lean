/- What right meetings are: their entries, plain. -/
import Derived.Test.YtcjpghiceebkfaaNums
namespace Go.Proofs.Ytcjpghiceebkfaa.P
open Go.RowKit
open XW
set_option linter.unusedSimpArgs false
set_option linter.unusedVariables false

def ent2 (x : S45) : Ent := [((x.f1, x.f0), x.f2), ((x.f2, x.f0), x.f1)]
def ents (m : List S45) : Ent := m.flatMap ent2
abbrev keys (es : Ent) : List (Int × Int) := es.map (·.1)
theorem step_some {n : Int} {es : Ent} {r : Int} {x : S45} (hb : ¬ bad n x) (h1 : (x.f1, x.f0) ∉ keys es) (h2 : (x.f2, x.f0) ∉ keys es) : foeStep n (some (es, r)) x = some (es ++ ent2 x, rndF r x) := by
  have e1 : mget es (x.f1, x.f0) = none := (mget_none_iff _ _).2 h1
  have e2 : mget (mput es (x.f1, x.f0) x.f2) (x.f2, x.f0) = none := by
    rw [mget_mput_ne _ _ (fun h => hb (by have := congrArg Prod.fst h; simp only at this; simp only [bad]; omega))]
    exact (mget_none_iff _ _).2 h2
  simp only [foeStep, Option.bind_some]
  rw [if_neg hb, e1, e2, if_neg (by simp), if_neg (by simp), mput_new _ e2, mput_new _ e1, List.append_assoc]
  rfl
theorem step_inv {n : Int} {es es' : Ent} {r r' : Int} {x : S45} (h : foeStep n (some (es, r)) x = some (es', r')) : ¬ bad n x ∧ (x.f1, x.f0) ∉ keys es ∧ (x.f2, x.f0) ∉ keys es ∧ es' = es ++ ent2 x ∧ r' = rndF r x := by
  have h0 := h
  simp only [foeStep, Option.bind_some] at h
  by_cases hb : bad n x
  · rw [if_pos hb] at h; cases h
  · rw [if_neg hb] at h
    split at h
    · cases h
    · rename_i n1
      split at h
      · cases h
      · rename_i n2
        have e1 : mget es (x.f1, x.f0) = none := by simpa using n1
        have e2 : mget (mput es (x.f1, x.f0) x.f2) (x.f2, x.f0) = none := by simpa using n2
        rw [mget_mput_ne _ _ (fun h => hb (by have := congrArg Prod.fst h; simp only at this; simp only [bad]; omega))] at e2
        have h1 := (mget_none_iff _ _).1 e1
        have h2 := (mget_none_iff _ _).1 e2
        rw [step_some hb h1 h2] at h0
        cases h0
        exact ⟨hb, h1, h2, rfl, rfl⟩
theorem keys_new {es : Ent} {x : S45} {n : Int} (hb : ¬ bad n x) (hn : (keys es).Nodup) (h1 : (x.f1, x.f0) ∉ keys es) (h2 : (x.f2, x.f0) ∉ keys es) : (keys (es ++ ent2 x)).Nodup := by
  have hne : x.f1 ≠ x.f2 := fun h => hb (by simp only [bad]; omega)
  simp only [keys, ent2, List.map_append, List.map_cons, List.map_nil] at h1 h2 ⊢
  rw [List.nodup_append]
  refine ⟨hn, by simp [hne], ?_⟩
  intro a ha b hbm e
  subst e
  rcases List.mem_cons.1 hbm with rfl | hbm
  · exact h1 ha
  · rw [List.mem_singleton] at hbm; subst hbm; exact h2 ha
theorem fold_inv {n : Int} : ∀ (m : List S45) (es : Ent) (r : Int), (keys es).Nodup → ∀ es' r', m.foldl (foeStep n) (some (es, r)) = some (es', r') → (∀ x ∈ m, ¬ bad n x) ∧ (keys (es ++ ents m)).Nodup ∧ es' = es ++ ents m ∧ r' = m.foldl rndF r
  | [], es, r, hn, es', r', h => by cases h; simpa [ents] using hn
  | x :: m, es, r, hn, es', r', h => by
    rw [List.foldl_cons] at h
    cases hs : foeStep n (some (es, r)) x with
    | none => rw [hs, fold_none] at h; cases h
    | some p =>
      obtain ⟨es1, r1⟩ := p
      obtain ⟨h1, h2, h3, rfl, rfl⟩ := step_inv hs
      rw [hs] at h
      obtain ⟨g1, g2, g3, g4⟩ := fold_inv m _ _ (keys_new h1 hn h2 h3) es' r' h
      rw [List.append_assoc] at g2 g3
      exact ⟨fun y hy => (List.mem_cons.1 hy).elim (fun e => e ▸ h1) (g1 y), g2, g3, g4⟩
theorem foesF_inv {n : Int} {m : List S45} {es : Ent} {r : Int} (h : foesF n m = some (es, r)) : (2 ≤ n ∧ n ≤ 20) ∧ (∀ x ∈ m, ¬ bad n x) ∧ (keys (ents m)).Nodup ∧ es = ents m ∧ r = roundsF m := by
  unfold foesF at h
  split at h
  · cases h
  · obtain ⟨g1, g2, g3, g4⟩ := fold_inv m [] 0 (by simp) es r h
    exact ⟨by omega, g1, g2, g3, g4⟩
theorem mem_ents {m : List S45} {e : (Int × Int) × Int} : e ∈ ents m ↔ ∃ x ∈ m, e = ((x.f1, x.f0), x.f2) ∨ e = ((x.f2, x.f0), x.f1) := by
  simp [ents, ent2, List.mem_flatMap]
/-- what is carried, the other way -/
def bef (r : Int) (k : Int × Int) : Int × Int := if k.2 = 0 then (k.1, r - 1) else (k.1, k.2 - 1)
theorem aft_bef {r : Int} {k : Int × Int} (h : 0 ≤ k.2 ∧ k.2 < r) : aft r (bef r k) = k ∧ bef r (aft r k) = k ∧ 0 ≤ (aft r k).2 ∧ (aft r k).2 < r ∧ 0 ≤ (bef r k).2 ∧ (bef r k).2 < r := by
  obtain ⟨t, s⟩ := k
  simp only [aft, bef]
  dsimp only at h
  refine ⟨?_, ?_, ?_⟩
  · by_cases e : s = 0
    · rw [if_pos e]; dsimp only; rw [if_pos (by omega)]; simp [e]
    · rw [if_neg e]; dsimp only; rw [if_neg (by omega)]; simp
  · by_cases e : s + 1 = r
    · rw [if_pos e]; dsimp only; rw [if_pos rfl]; simp; omega
    · rw [if_neg e]; dsimp only; rw [if_neg (by omega)]; simp
  · by_cases e : s + 1 = r
    · by_cases e2 : s = 0
      · rw [if_pos e, if_pos e2]; dsimp only; omega
      · rw [if_pos e, if_neg e2]; dsimp only; omega
    · by_cases e2 : s = 0
      · rw [if_neg e, if_pos e2]; dsimp only; omega
      · rw [if_neg e, if_neg e2]; dsimp only; omega
def nxtB (es : Ent) (r : Int) (e : (Int × Int) × Int) : Option (Int × Int) := (mget es (bef r e.1)).map fun j => (j, e.2)
theorem nodup_fm {α β : Type} {f : α → Option β} : ∀ {l : List α}, (∀ a ∈ l, ∀ b ∈ l, ∀ c, f a = some c → f b = some c → a = b) → l.Nodup → (l.filterMap f).Nodup
  | [], _, _ => by simp
  | a :: l, hf, hn => by
    rw [List.nodup_cons] at hn
    have ih := nodup_fm (f := f) (l := l) (fun x hx y hy => hf x (by simp [hx]) y (by simp [hy])) hn.2
    rw [List.filterMap_cons]
    cases h : f a with
    | none => exact ih
    | some c =>
      refine List.nodup_cons.2 ⟨fun hc => ?_, ih⟩
      obtain ⟨b, hb, hfb⟩ := List.mem_filterMap.1 hc
      exact hn.1 (hf a (by simp) b (by simp [hb]) c h hfb ▸ hb)
theorem nodup_map_on {α β : Type} {f : α → β} : ∀ {l : List α}, (∀ a ∈ l, ∀ b ∈ l, f a = f b → a = b) → l.Nodup → (l.map f).Nodup
  | [], _, _ => by simp
  | a :: l, hf, hn => by
    rw [List.nodup_cons] at hn
    rw [List.map_cons, List.nodup_cons]
    refine ⟨fun h => ?_, nodup_map_on (fun x hx y hy => hf x (by simp [hx]) y (by simp [hy])) hn.2⟩
    obtain ⟨b, hb, e⟩ := List.mem_map.1 h
    exact hn.1 (hf a (by simp) b (by simp [hb]) e.symm ▸ hb)
theorem nodup_of_keys {es : Ent} (hn : (keys es).Nodup) : es.Nodup := (List.pairwise_map.1 hn).imp fun h e => h (congrArg Prod.fst e)
theorem swap_perm {es : Ent} {r : Int} (hn : (keys es).Nodup) (hr : ∀ e ∈ es, 0 ≤ e.1.2 ∧ e.1.2 < r) : (es.filterMap (nxt es r)).Perm (es.filterMap (nxtB es r)) := by
  let PA := es.filterMap fun e => (mget es (aft r e.1)).map fun j => (e, (aft r e.1, j))
  let PB := es.filterMap fun e => (mget es (bef r e.1)).map fun j => ((bef r e.1, j), e)
  have hA : PA.map (fun q => (q.1.2, q.2.2)) = es.filterMap (nxt es r) := by
    rw [List.map_filterMap]
    refine fm_congr _ fun e _ => ?_
    rw [nxt, Option.map_map]; rfl
  have hB : PB.map (fun q => (q.1.2, q.2.2)) = es.filterMap (nxtB es r) := by
    rw [List.map_filterMap]
    refine fm_congr _ fun e _ => ?_
    rw [nxtB, Option.map_map]; rfl
  rw [← hA, ← hB]
  refine List.Perm.map _ ?_
  have n0 := nodup_of_keys hn
  refine (List.perm_ext_iff_of_nodup (nodup_fm ?_ n0) (nodup_fm ?_ n0)).2 ?_
  · intro a _ b _ c ha hb
    rw [Option.map_eq_some_iff] at ha hb
    obtain ⟨_, _, rfl⟩ := ha
    obtain ⟨_, _, h⟩ := hb
    exact (congrArg Prod.fst h).symm
  · intro a _ b _ c ha hb
    rw [Option.map_eq_some_iff] at ha hb
    obtain ⟨_, _, rfl⟩ := ha
    obtain ⟨_, _, h⟩ := hb
    exact (congrArg Prod.snd h).symm
  · rintro ⟨e, e'⟩
    constructor
    · intro h
      obtain ⟨a, ha, h⟩ := List.mem_filterMap.1 h
      rw [Option.map_eq_some_iff] at h
      obtain ⟨j, hj, h⟩ := h
      cases h
      refine List.mem_filterMap.2 ⟨_, mget_mem hj, ?_⟩
      have hb := aft_bef (hr e ha)
      dsimp only
      rw [hb.2.1, mem_get hn ha]; rfl
    · intro h
      obtain ⟨a, ha, h⟩ := List.mem_filterMap.1 h
      rw [Option.map_eq_some_iff] at h
      obtain ⟨j, hj, h⟩ := h
      cases h
      refine List.mem_filterMap.2 ⟨_, mget_mem hj, ?_⟩
      have hb := aft_bef (hr e' ha)
      dsimp only
      rw [hb.1, mem_get hn ha]; rfl
end Go.Proofs.Ytcjpghiceebkfaa.P
