/- Seat 09, plain: the values of polynomials. -/
import Derived.Test.YtbbffpgnjdejiaaP5
import Derived.Test.YtbbffpgnjdejiaaLag
namespace Go.Proofs.Ytbbffpgnjdejiaa.P
open Go.RowKit Go.Proofs.YtbbffpgnjdejiaaW.PrintWords
open FieldMath XW
set_option linter.unusedSimpArgs false
set_option linter.unusedVariables false

theorem ev_drop (l : List Int) (t : Int) (i : Nat) (h : i < l.length) : ev (l.drop i) t = l.getD i 0 + t * ev (l.drop (i + 1)) t := by
  rw [List.drop_eq_getElem_cons h, List.getD_eq_getElem?_getD, List.getElem?_eq_getElem h]; rfl
theorem rd_nat (l : List Int) (i : Nat) : rd l (i : Int) = l.getD i 0 := by simp [rd]

theorem val_l0 (l : List Int) (hl : l.length ≤ 1000000) (t : Int) : ∀ (n i k : Nat) (y p : Int), n + i = l.length → n + 4 ≤ k → 0 ≤ y → y < 1073741789 → field_Value.l0 k t y p l l.length i = some ((y + p * ev (l.drop i) t) % 1073741789)
  | 0, i, k + 1, y, p, hn, hk, h0, h1 => by
    unfold field_Value.l0
    rw [if_neg (by omega), List.drop_of_length_le (by omega)]
    simp only [ev, Int.mul_zero, Int.add_zero]
    rw [mod_self h0 h1]
  | n + 1, i, k + 1, y, p, hn, hk, h0, h1 => by
    unfold field_Value.l0
    have hi : i < l.length := by omega
    rw [if_pos (by omega), if_pos (by omega), if_pos (by omega), mul_eq, Option.bind_some, sum_ge (by omega), Option.bind_some, mul_eq, Option.bind_some, w64 (by omega) (by omega), rd_nat]
    have hr := mod_rng (y + l.getD i 0 * p % 1073741789)
    rw [show ((i : Int) + 1) = ((i + 1 : Nat) : Int) by omega, val_l0 l hl t n (i + 1) k _ _ (by omega) (by omega) hr.1 hr.2, ev_drop l t i hi]
    congr 1
    refine mod_of_dvd (Cg.trans ((Cg.mod _).add ((Cg.mod _).mul (Cg.refl _))) (Cg.trans (((Cg.refl y).add (Cg.mod _)).add (Cg.refl _)) (Cg.of_eq ?_)))
    grind
theorem val_eq (l : List Int) (hl : l.length ≤ 1000000) (t : Int) (k : Nat) (hk : l.length + 4 ≤ k) : field_Value.f k l t = some (ev l t % 1073741789) := by
  unfold field_Value.f
  have := val_l0 l hl t l.length 0 k 0 1 (by omega) hk (by omega) (by omega)
  rw [show ((0 : Nat) : Int) = 0 from rfl] at this
  rw [this, List.drop_zero, Int.zero_add, Int.one_mul]

theorem rval_l0 (l : List Int) (hl : l.length ≤ 1000000) (t : Int) : ∀ (n k : Nat), n ≤ l.length → n + 1 ≤ k → fastiref09_Value.l0 k l t (ev (l.drop n) t % 1073741789) ((n : Int) - 1) = some (ev l t % 1073741789)
  | 0, k + 1, hn, hk => by
    unfold fastiref09_Value.l0
    rw [if_neg (by omega), List.drop_zero]
  | n + 1, k + 1, hn, hk => by
    unfold fastiref09_Value.l0
    have e : ((n + 1 : Nat) : Int) - 1 = (n : Int) := by omega
    rw [e, if_pos (by omega), rmul_eq, Option.bind_some, if_pos (by omega), if_pos (by omega), radd_eq, Option.bind_some, w64 (by omega) (by omega), rd_nat]
    have h2 : (ev (l.drop (n + 1)) t % 1073741789 * t % 1073741789 + l.getD n 0) % 1073741789 = ev (l.drop n) t % 1073741789 := by
      rw [ev_drop l t n (by omega)]
      refine mod_of_dvd (Cg.trans (((Cg.mod _).trans ((Cg.mod _).mul (Cg.refl _))).add (Cg.refl _)) (Cg.of_eq ?_))
      grind
    rw [h2]
    exact rval_l0 l hl t n k (by omega) (by omega)
theorem rval_eq (l : List Int) (hl : l.length ≤ 1000000) (t : Int) (k : Nat) (hk : l.length + 1 ≤ k) : fastiref09_Value.f k l t = some (ev l t % 1073741789) := by
  unfold fastiref09_Value.f
  rw [w64 (by omega) (by omega)]
  have := rval_l0 l hl t l.length k (Nat.le_refl _) hk
  rw [List.drop_of_length_le (Nat.le_refl _)] at this
  exact this

/-! ### the keys of the map -/
theorem mput_keys {κ β : Type} [DecidableEq κ] (k : κ) (v : β) : ∀ es : List (κ × β), (mput es k v).map (·.1) = if k ∈ es.map (·.1) then es.map (·.1) else es.map (·.1) ++ [k]
  | [] => by simp [mput]
  | (k', v') :: es => by
    unfold mput
    by_cases h : k' = k
    · subst h; simp
    · rw [if_neg h]
      have ih := mput_keys k v es
      simp only [List.map_cons]
      rw [ih]
      by_cases hm : k ∈ es.map (·.1)
      · rw [if_pos hm, if_pos (List.mem_cons_of_mem _ hm)]
      · rw [if_neg hm, if_neg (fun h' => (List.mem_cons.1 h').elim (fun e => h e.symm) hm)]; rfl
theorem keys_fold : ∀ (l : List S38) (es : List (Int × Bool)), (es.map (·.1)).Nodup →
    ((l.foldl (fun es p => mput es (p.f0 % 1073741789) true) es).length ≤ es.length + l.length) ∧
    ((l.foldl (fun es p => mput es (p.f0 % 1073741789) true) es).length = es.length + l.length ↔ (es.map (fun e : Int × Bool => e.1) ++ l.map (fun p : S38 => p.f0 % 1073741789)).Nodup)
  | [], es, h => by simpa using h
  | p :: l, es, h => by
    rw [List.foldl_cons]
    have hk := mput_keys (p.f0 % 1073741789) true es
    have hlen : (mput es (p.f0 % 1073741789) true).length = (if p.f0 % 1073741789 ∈ es.map (·.1) then es.map (·.1) else es.map (·.1) ++ [p.f0 % 1073741789]).length := by rw [← hk, List.length_map]
    by_cases hm : p.f0 % 1073741789 ∈ es.map (·.1)
    · rw [if_pos hm] at hk hlen
      have ih := keys_fold l (mput es (p.f0 % 1073741789) true) (by rw [hk]; exact h)
      rw [List.length_map] at hlen
      refine ⟨by simp only [List.length_cons]; omega, ⟨fun e => ?_, fun e => ?_⟩⟩
      · simp only [List.length_cons] at e; omega
      · exfalso
        rw [List.map_cons] at e
        obtain ⟨_, _, h3⟩ := List.nodup_append.1 e
        exact h3 _ hm _ (List.mem_cons_self ..) rfl
    · rw [if_neg hm] at hk hlen
      have hnd : ((mput es (p.f0 % 1073741789) true).map (·.1)).Nodup := by
        rw [hk, List.nodup_append]
        refine ⟨h, by simp, ?_⟩
        rintro a ha b hb rfl
        rw [List.mem_singleton] at hb
        exact hm (hb ▸ ha)
      have ih := keys_fold l (mput es (p.f0 % 1073741789) true) hnd
      simp only [List.length_append, List.length_map, List.length_cons, List.length_nil] at hlen
      rw [hk, List.append_assoc, hlen] at ih
      rw [List.map_cons, List.length_cons]
      exact ⟨by omega, ⟨fun e => ih.2.1 (by omega), fun e => by have := ih.2.2 e; omega⟩⟩
theorem keys_diff (l : List S38) : (keys l).length < l.length ↔ diff l = false := by
  obtain ⟨h1, h2⟩ := keys_fold l [] (by simp)
  have h3 : (keys l).length = l.length ↔ (l.map fun p => p.f0 % 1073741789).Nodup := by simpa [keys] using h2
  have h4 : (keys l).length ≤ l.length := by simpa [keys] using h1
  rw [diff, decide_eq_false_iff_not, ← h3]
  omega

/-! ### At -/
theorem step_rng (a : Int) : 0 ≤ a % 1073741789 ∧ a % 1073741789 < 1073741789 := mod_rng a
theorem atSum_rng (t : Int) (l : List S38) : ∀ (ps : List (S38 × Nat)) (y : Int), 0 ≤ y → y < 1073741789 → 0 ≤ ps.foldl (atStep t l) y ∧ ps.foldl (atStep t l) y < 1073741789
  | [], y, h0, h1 => ⟨h0, h1⟩
  | p :: ps, y, _, _ => atSum_rng t l ps _ (mod_rng _).1 (mod_rng _).2
theorem rSum_rng (t : Int) (l : List S38) : ∀ (ps : List (S38 × Nat)) (y : Int), 0 ≤ y → y < 1073741789 → 0 ≤ ps.foldl (fun y p => (y + rPart t p.1 p.2 l) % 1073741789) y ∧ ps.foldl (fun y p => (y + rPart t p.1 p.2 l) % 1073741789) y < 1073741789
  | [], y, h0, h1 => ⟨h0, h1⟩
  | p :: ps, y, _, _ => rSum_rng t l ps _ (mod_rng _).1 (mod_rng _).2
/-- what At answers on different points: the values of one polynomial -/
theorem at_poly {l : List S38} (hl : l.length ≤ 64) (h : diff l = true) : ∃ P : List Int, P.length ≤ l.length ∧ (∀ t, field_At.f l t = some (ev P t % 1073741789, 0)) ∧ (∀ t, fastiref09_At.f l t = some (ev P t % 1073741789, 0)) ∧ ∀ p ∈ l, ev P p.f0 % 1073741789 = p.f1 % 1073741789 := by
  obtain ⟨P, h1, h2, h3, h4⟩ := lag h
  refine ⟨P, h1, fun t => ?_, fun t => ?_, fun p hp => mod_of_dvd (h4 p hp)⟩
  · have hr : 0 ≤ atSum t l l.zipIdx ∧ atSum t l l.zipIdx < 1073741789 := atSum_rng t l l.zipIdx 0 (by omega) (by omega)
    rw [field_At.f, if_neg (by omega), if_neg (fun hk => by rw [(keys_diff l).1 hk] at h; cases h)]
    have := mod_of_dvd (h2 t)
    rw [mod_self hr.1 hr.2] at this
    rw [this]
  · have hr : 0 ≤ rSum t l l.zipIdx ∧ rSum t l l.zipIdx < 1073741789 := rSum_rng t l l.zipIdx 0 (by omega) (by omega)
    rw [fastiref09_At.f, if_neg (by omega), if_pos h]
    have := mod_of_dvd (h3 t)
    rw [mod_self hr.1 hr.2] at this
    rw [this]
theorem at_same (l : List S38) (t : Int) : fastiref09_At.f l t = field_At.f l t := by
  by_cases h64 : 64 < l.length
  · rw [fastiref09_At.f, field_At.f, if_pos h64, if_pos h64]
  · by_cases hd : diff l = true
    · obtain ⟨P, _, h2, h3, _⟩ := at_poly (by omega) hd
      rw [h2, h3]
    · rw [fastiref09_At.f, field_At.f, if_neg h64, if_neg h64, if_neg hd, if_pos ((keys_diff l).2 (by simpa using hd))]
theorem at_some (l : List S38) (t : Int) : ∃ r : Int × Int, field_At.f l t = some r := by
  unfold field_At.f; split
  · exact ⟨_, rfl⟩
  · split <;> exact ⟨_, rfl⟩
theorem at_bad {l : List S38} (hl : l.length ≤ 64) (h : diff l = false) (t : Int) : field_At.f l t = some (0, 90) := by
  rw [field_At.f, if_neg (by omega), if_pos ((keys_diff l).2 h)]
end Go.Proofs.Ytbbffpgnjdejiaa.P
