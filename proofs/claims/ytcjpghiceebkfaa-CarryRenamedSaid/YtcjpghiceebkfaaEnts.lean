/- What right meetings are: their entries, plain. -/
import Derived.Test.YtcjpghiceebkfaaNums
namespace Go.Proofs.Ytcjpghiceebkfaa.P
open Go.RowKit
open XW
set_option linter.unusedSimpArgs false
set_option linter.unusedVariables false

def ent2 (x : S45) : Ent := [((x.f1, x.f0), x.f2), ((x.f2, x.f0), x.f1)]
def ents (m : List S45) : Ent := m.flatMap ent2
abbrev keys (es : Ent) : List (Int × Int) := es.map (·.1)
theorem step_some {n : Int} {es : Ent} {r : Int} {x : S45} (hb : ¬ bad n x) (h1 : (x.f1, x.f0) ∉ keys es) (h2 : (x.f2, x.f0) ∉ keys es) : foeStep n (some (es, r)) x = some (es ++ ent2 x, rndF r x) := by
  have e1 : mget es (x.f1, x.f0) = none := (mget_none_iff _ _).2 h1
  have e2 : mget (mput es (x.f1, x.f0) x.f2) (x.f2, x.f0) = none := by
    rw [mget_mput_ne _ _ (fun h => hb (by have := congrArg Prod.fst h; simp only at this; simp only [bad]; omega))]
    exact (mget_none_iff _ _).2 h2
  simp only [foeStep, Option.bind_some]
  rw [if_neg hb, e1, e2, if_neg (by simp), if_neg (by simp), mput_new _ e2, mput_new _ e1, List.append_assoc]
  rfl
theorem step_inv {n : Int} {es es' : Ent} {r r' : Int} {x : S45} (h : foeStep n (some (es, r)) x = some (es', r')) : ¬ bad n x ∧ (x.f1, x.f0) ∉ keys es ∧ (x.f2, x.f0) ∉ keys es ∧ es' = es ++ ent2 x ∧ r' = rndF r x := by
  have h0 := h
  simp only [foeStep, Option.bind_some] at h
  by_cases hb : bad n x
  · rw [if_pos hb] at h; cases h
  · rw [if_neg hb] at h
    split at h
    · cases h
    · rename_i n1
      split at h
      · cases h
      · rename_i n2
        have e1 : mget es (x.f1, x.f0) = none := by simpa using n1
        have e2 : mget (mput es (x.f1, x.f0) x.f2) (x.f2, x.f0) = none := by simpa using n2
        rw [mget_mput_ne _ _ (fun h => hb (by have := congrArg Prod.fst h; simp only at this; simp only [bad]; omega))] at e2
        have h1 := (mget_none_iff _ _).1 e1
        have h2 := (mget_none_iff _ _).1 e2
        rw [step_some hb h1 h2] at h0
        cases h0
        exact ⟨hb, h1, h2, rfl, rfl⟩
theorem keys_new {es : Ent} {x : S45} {n : Int} (hb : ¬ bad n x) (hn : (keys es).Nodup) (h1 : (x.f1, x.f0) ∉ keys es) (h2 : (x.f2, x.f0) ∉ keys es) : (keys (es ++ ent2 x)).Nodup := by
  have hne : x.f1 ≠ x.f2 := fun h => hb (by simp only [bad]; omega)
  simp only [keys, ent2, List.map_append, List.map_cons, List.map_nil] at h1 h2 ⊢
  rw [List.nodup_append]
  refine ⟨hn, by simp [hne], ?_⟩
  intro a ha b hbm e
  subst e
  rcases List.mem_cons.1 hbm with rfl | hbm
  · exact h1 ha
  · rw [List.mem_singleton] at hbm; subst hbm; exact h2 ha
theorem fold_inv {n : Int} : ∀ (m : List S45) (es : Ent) (r : Int), (keys es).Nodup → ∀ es' r', m.foldl (foeStep n) (some (es, r)) = some (es', r') → (∀ x ∈ m, ¬ bad n x) ∧ (keys (es ++ ents m)).Nodup ∧ es' = es ++ ents m ∧ r' = m.foldl rndF r
  | [], es, r, hn, es', r', h => by cases h; simpa [ents] using hn
  | x :: m, es, r, hn, es', r', h => by
    rw [List.foldl_cons] at h
    cases hs : foeStep n (some (es, r)) x with
    | none => rw [hs, fold_none] at h; cases h
    | some p =>
      obtain ⟨es1, r1⟩ := p
      obtain ⟨h1, h2, h3, rfl, rfl⟩ := step_inv hs
      rw [hs] at h
      obtain ⟨g1, g2, g3, g4⟩ := fold_inv m _ _ (keys_new h1 hn h2 h3) es' r' h
      rw [List.append_assoc] at g2 g3
      exact ⟨fun y hy => (List.mem_cons.1 hy).elim (fun e => e ▸ h1) (g1 y), g2, g3, g4⟩
theorem fold_make {n : Int} : ∀ (m : List S45) (es : Ent) (r : Int), (∀ x ∈ m, ¬ bad n x) → (keys (es ++ ents m)).Nodup → m.foldl (foeStep n) (some (es, r)) = some (es ++ ents m, m.foldl rndF r)
  | [], es, r, _, _ => by simp [ents]
  | x :: m, es, r, hb, hn => by
    have e : ents (x :: m) = ent2 x ++ ents m := rfl
    rw [e, ← List.append_assoc] at hn ⊢
    have hk : (keys (es ++ ent2 x)).Nodup := by
      rw [keys, List.map_append] at hn; exact (List.nodup_append.1 hn).1
    have hk2 := hk
    rw [keys, List.map_append, List.nodup_append] at hk2
    have h1 : (x.f1, x.f0) ∉ keys es := fun h => hk2.2.2 _ h _ (by simp [ent2]) rfl
    have h2 : (x.f2, x.f0) ∉ keys es := fun h => hk2.2.2 _ h (x.f2, x.f0) (by simp [ent2]) rfl
    rw [List.foldl_cons, step_some (hb x (by simp)) h1 h2]
    exact fold_make m _ _ (fun y hy => hb y (by simp [hy])) hn
theorem foesF_inv {n : Int} {m : List S45} {es : Ent} {r : Int} (h : foesF n m = some (es, r)) : (2 ≤ n ∧ n ≤ 20) ∧ (∀ x ∈ m, ¬ bad n x) ∧ (keys (ents m)).Nodup ∧ es = ents m ∧ r = roundsF m := by
  unfold foesF at h
  split at h
  · cases h
  · obtain ⟨g1, g2, g3, g4⟩ := fold_inv m [] 0 (by simp) es r h
    exact ⟨by omega, g1, g2, g3, g4⟩
theorem foesF_make {n : Int} {m : List S45} (hn : 2 ≤ n ∧ n ≤ 20) (hb : ∀ x ∈ m, ¬ bad n x) (hk : (keys (ents m)).Nodup) : foesF n m = some (ents m, roundsF m) := by
  unfold foesF
  rw [if_neg (by omega), fold_make m [] 0 hb hk]; rfl
/-- a list of entries, searched -/
theorem mget_iff {es : Ent} (hn : (keys es).Nodup) {k : Int × Int} {v : Int} : mget es k = some v ↔ (k, v) ∈ es := ⟨mget_mem, fun h => mem_get hn h⟩
theorem mget_perm {es es' : Ent} (hn : (keys es).Nodup) (hp : es.Perm es') (k : Int × Int) : mget es k = mget es' k := by
  have hn' : (keys es').Nodup := (hp.map (·.1)).nodup_iff.1 hn
  cases h : mget es k with
  | none =>
    symm
    rw [mget_none_iff] at h ⊢
    exact fun h2 => h ((hp.map (·.1)).mem_iff.2 h2)
  | some v => rw [mget_iff hn] at h; symm; rw [mget_iff hn']; exact hp.mem_iff.1 h
theorem mem_ents {m : List S45} {e : (Int × Int) × Int} : e ∈ ents m ↔ ∃ x ∈ m, e = ((x.f1, x.f0), x.f2) ∨ e = ((x.f2, x.f0), x.f1) := by
  simp [ents, ent2, List.mem_flatMap]
theorem nodup_map_on {α β : Type} {f : α → β} : ∀ {l : List α}, (∀ a ∈ l, ∀ b ∈ l, f a = f b → a = b) → l.Nodup → (l.map f).Nodup
  | [], _, _ => by simp
  | a :: l, hf, hn => by
    rw [List.nodup_cons] at hn
    rw [List.map_cons, List.nodup_cons]
    refine ⟨fun h => ?_, nodup_map_on (fun x hx y hy => hf x (by simp [hx]) y (by simp [hy])) hn.2⟩
    obtain ⟨b, hb, e⟩ := List.mem_map.1 h
    exact hn.1 (hf a (by simp) b (by simp [hb]) e.symm ▸ hb)
end Go.Proofs.Ytcjpghiceebkfaa.P
