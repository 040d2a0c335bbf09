/- Seat 09, plain: interpolation. What At and the reference's At answer are values of one polynomial. -/
import Derived.Test.YtbbffpgnjdejiaaGRef
namespace Go.Proofs.Ytbbffpgnjdejiaa.P
open FieldMath XW
set_option linter.unusedSimpArgs false
set_option linter.unusedVariables false

abbrev QQ : Int := 1073741789
abbrev Cg (a b : Int) : Prop := (1073741789 : Int) ∣ a - b
theorem Cg.refl (a : Int) : Cg a a := ⟨0, by omega⟩
theorem Cg.symm {a b : Int} : Cg a b → Cg b a := by rintro ⟨q, h⟩; exact ⟨-q, by omega⟩
theorem Cg.trans {a b c : Int} : Cg a b → Cg b c → Cg a c := by rintro ⟨q, h⟩ ⟨r, k⟩; exact ⟨q + r, by omega⟩
theorem Cg.add {a b c d : Int} : Cg a b → Cg c d → Cg (a + c) (b + d) := by rintro ⟨q, h⟩ ⟨r, k⟩; exact ⟨q + r, by omega⟩
theorem Cg.sub {a b c d : Int} : Cg a b → Cg c d → Cg (a - c) (b - d) := by rintro ⟨q, h⟩ ⟨r, k⟩; exact ⟨q - r, by omega⟩
theorem Cg.mul {a b c d : Int} : Cg a b → Cg c d → Cg (a * c) (b * d) := by rintro ⟨q, h⟩ ⟨r, k⟩; exact ⟨a * r + q * d, by grind⟩
theorem Cg.mod (a : Int) : Cg (a % 1073741789) a := by obtain ⟨q, h⟩ := mod_w a; exact ⟨q, by omega⟩
theorem Cg.of_eq {a b : Int} (h : a = b) : Cg a b := h ▸ Cg.refl a
theorem Cg.inv_cancel {a c d : Int} (h1 : Cg (a * c) 1) (h2 : Cg (a * d) 1) : Cg c d := by
  have e1 : Cg (a * c * d) (1 * d) := h1.mul (Cg.refl d)
  have e2 : Cg (a * d * c) (1 * c) := h2.mul (Cg.refl c)
  rw [Int.one_mul] at e1 e2
  rw [show a * d * c = a * c * d by grind] at e2
  exact e2.symm.trans e1

/-- the product of t - x over the points but one -/
def pr (i : Nat) (t : Int) : List (S38 × Nat) → Int
  | [] => 1
  | q :: l => if q.2 = i then pr i t l else (t - q.1.f0) * pr i t l
/-- the same as a polynomial -/
def PP (i : Nat) : List (S38 × Nat) → List Int
  | [] => [1]
  | q :: l => if q.2 = i then PP i l else mulLin q.1.f0 (PP i l)
theorem ev_PP (i : Nat) (t : Int) : ∀ l, ev (PP i l) t = pr i t l
  | [] => by simp [PP, pr, ev]
  | q :: l => by
    unfold PP pr
    split
    · exact ev_PP i t l
    · rw [ev_mulLin, ev_PP i t l]
theorem len_PP (i : Nat) : ∀ l, (PP i l).length ≤ l.length + 1
  | [] => by simp [PP]
  | q :: l => by
    unfold PP
    have := len_PP i l
    split
    · simp only [List.length_cons]; omega
    · rw [len_mulLin]; simp only [List.length_cons]; omega
theorem len_PP' (i : Nat) : ∀ l, (∃ q ∈ l, q.2 = i) → (PP i l).length ≤ l.length
  | [], h => by obtain ⟨q, h, _⟩ := h; cases h
  | q :: l, h => by
    unfold PP
    split
    · have := len_PP i l; simp only [List.length_cons]; omega
    · rename_i hq
      have h' : ∃ q ∈ l, q.2 = i := by
        obtain ⟨q', hm, e⟩ := h
        rcases List.mem_cons.1 hm with rfl | hm
        · exact absurd e hq
        · exact ⟨q', hm, e⟩
      have := len_PP' i l h'
      rw [len_mulLin]; simp only [List.length_cons]; omega
theorem pr_zero (i : Nat) : ∀ (l : List (S38 × Nat)) (q : S38 × Nat), q ∈ l → q.2 ≠ i → pr i q.1.f0 l = 0
  | q' :: l, q, hm, hn => by
    unfold pr
    rcases List.mem_cons.1 hm with rfl | hm
    · rw [if_neg hn]; simp
    · rw [pr_zero i l q hm hn]; split <;> simp
theorem pr_unit (i : Nat) (t : Int) : ∀ (l : List (S38 × Nat)), (∀ q ∈ l, q.2 ≠ i → ¬ (1073741789 : Int) ∣ t - q.1.f0) → ¬ (1073741789 : Int) ∣ pr i t l
  | [], _, h => by unfold pr at h; omega
  | q :: l, hq, h => by
    unfold pr at h
    split at h
    · exact pr_unit i t l (fun q hm => hq q (List.mem_cons_of_mem _ hm)) h
    · rename_i hn
      rcases euclidI (p := 1073741789) primeQ h with h | h
      · exact hq q (List.mem_cons_self ..) hn h
      · exact pr_unit i t l (fun q hm => hq q (List.mem_cons_of_mem _ hm)) h

theorem ab_pr (at_ px : Int) (i : Nat) : ∀ (l : List (S38 × Nat)) (acc : Int × Int), Cg (l.foldl (abStep at_ px i) acc).1 (acc.1 * pr i at_ l) ∧ Cg (l.foldl (abStep at_ px i) acc).2 (acc.2 * pr i px l)
  | [], acc => by simp [pr, Cg.refl]
  | q :: l, acc => by
    have ih := ab_pr at_ px i l (abStep at_ px i acc q)
    rw [List.foldl_cons]
    unfold pr
    by_cases h : q.2 = i
    · rw [if_pos h, if_pos h]
      rw [abStep, if_pos h] at ih
      rw [abStep, if_pos h]; exact ih
    · rw [if_neg h, if_neg h]
      rw [abStep, if_neg h] at ih
      rw [abStep, if_neg h]
      refine ⟨ih.1.trans ?_, ih.2.trans ?_⟩
      · rw [← Int.mul_assoc]
        exact ((Cg.mod _).trans ((Cg.refl _).mul (Cg.mod _))).mul (Cg.refl _)
      · rw [← Int.mul_assoc]
        exact ((Cg.mod _).trans ((Cg.refl _).mul (Cg.mod _))).mul (Cg.refl _)

theorem inv_one {b : Int} (h : ¬ (1073741789 : Int) ∣ b) : Cg (b * inv b) 1 := inv_mul (fun e => h (Int.dvd_of_emod_eq_zero e))
theorem not_dvd_cong {a b : Int} (h : Cg a b) (hb : ¬ (1073741789 : Int) ∣ b) : ¬ (1073741789 : Int) ∣ a := fun ha => hb (by obtain ⟨q, h⟩ := h; obtain ⟨r, ha⟩ := ha; exact ⟨r - q, by omega⟩)

theorem rpart_pr (at_ px : Int) (i : Nat) : ∀ (l : List (S38 × Nat)) (acc : Int), (∀ q ∈ l, q.2 ≠ i → ¬ (1073741789 : Int) ∣ px - q.1.f0) → ∃ c, Cg (pr i px l * c) 1 ∧ Cg (l.foldl (rStep at_ px i) acc) (acc * (pr i at_ l * c))
  | [], acc, _ => ⟨1, by simp [pr, Cg.refl], by simp [pr, Cg.refl]⟩
  | q :: l, acc, h => by
    obtain ⟨c, h1, h2⟩ := rpart_pr at_ px i l (rStep at_ px i acc q) (fun q hm => h q (List.mem_cons_of_mem _ hm))
    rw [List.foldl_cons]
    unfold pr
    by_cases hq : q.2 = i
    · simp only [rStep, if_pos hq] at h2 ⊢
      exact ⟨c, h1, h2⟩
    · simp only [rStep, if_neg hq] at h2 ⊢
      have hn : ¬ (1073741789 : Int) ∣ (px - q.1.f0) % 1073741789 := not_dvd_cong (Cg.mod _) (h q (List.mem_cons_self ..) hq)
      have hi := inv_one hn
      refine ⟨inv ((px - q.1.f0) % 1073741789) * c, ?_, h2.trans ?_⟩
      · rw [show (px - q.1.f0) * pr i px l * (inv ((px - q.1.f0) % 1073741789) * c) = ((px - q.1.f0) * inv ((px - q.1.f0) % 1073741789)) * (pr i px l * c) by grind]
        have := (((Cg.mod (px - q.1.f0)).symm.mul (Cg.refl (inv ((px - q.1.f0) % 1073741789)))).trans hi).mul h1
        rwa [Int.one_mul] at this
      · refine (((Cg.mod _).trans ((Cg.refl acc).mul ((Cg.mod _).trans ((Cg.mod _).mul (Cg.refl _))))).mul (Cg.refl _)).trans (Cg.of_eq ?_)
        grind

/-- the points, numbered, and pairwise different -/
structure Pts (L : List (S38 × Nat)) : Prop where
  num : ∀ q ∈ L, ∀ q' ∈ L, q.2 = q'.2 → q = q'
  apart : ∀ q ∈ L, ∀ q' ∈ L, q.2 ≠ q'.2 → ¬ (1073741789 : Int) ∣ q.1.f0 - q'.1.f0

/-- one point's part at t, but for its y -/
theorem part_at {L : List (S38 × Nat)} (hL : Pts L) {p : S38 × Nat} (hp : p ∈ L) : ∃ c, Cg (pr p.2 p.1.f0 L * c) 1 ∧ ∀ t : Int,
    Cg ((L.foldl (abStep t p.1.f0 p.2) (p.1.f1 % 1073741789, 1)).1 * inv (L.foldl (abStep t p.1.f0 p.2) (p.1.f1 % 1073741789, 1)).2) (p.1.f1 * c * pr p.2 t L) ∧
    Cg (L.foldl (rStep t p.1.f0 p.2) (p.1.f1 % 1073741789)) (p.1.f1 * c * pr p.2 t L) := by
  have hn : ∀ q ∈ L, q.2 ≠ p.2 → ¬ (1073741789 : Int) ∣ p.1.f0 - q.1.f0 := fun q hq hne => hL.apart p hp q hq (fun e => hne e.symm)
  have hu := pr_unit p.2 p.1.f0 L hn
  refine ⟨inv (pr p.2 p.1.f0 L), inv_one hu, fun t => ⟨?_, ?_⟩⟩
  · obtain ⟨h1, h2⟩ := ab_pr t p.1.f0 p.2 L (p.1.f1 % 1073741789, 1)
    simp only [Int.one_mul] at h1 h2
    have h3 := inv_one (not_dvd_cong h2 hu)
    have h4 : Cg (inv (L.foldl (abStep t p.1.f0 p.2) (p.1.f1 % 1073741789, 1)).2) (inv (pr p.2 p.1.f0 L)) :=
      Cg.inv_cancel ((h2.symm.mul (Cg.refl _)).trans h3) (inv_one hu)
    refine (h1.mul h4).trans ((((Cg.mod _).mul (Cg.refl _)).mul (Cg.refl _)).trans (Cg.of_eq ?_))
    grind
  · obtain ⟨c, h1, h2⟩ := rpart_pr t p.1.f0 p.2 L (p.1.f1 % 1073741789) hn
    have h4 : Cg c (inv (pr p.2 p.1.f0 L)) := Cg.inv_cancel h1 (inv_one hu)
    refine h2.trans (((Cg.mod _).mul ((Cg.refl _).mul h4)).trans (Cg.of_eq ?_))
    grind

/-- the polynomial through the points ps -/
theorem lag_of {L : List (S38 × Nat)} (hL : Pts L) : ∀ (ps : List (S38 × Nat)), (∀ q ∈ ps, q ∈ L) → (ps.map (·.2)).Nodup → ∃ P : List Int, P.length ≤ L.length ∧
    (∀ (t y y' : Int), Cg y y' → Cg (ps.foldl (fun y p => (y + (L.foldl (abStep t p.1.f0 p.2) (p.1.f1 % 1073741789, 1)).1 * inv (L.foldl (abStep t p.1.f0 p.2) (p.1.f1 % 1073741789, 1)).2 % 1073741789) % 1073741789) y) (y' + ev P t)) ∧
    (∀ (t y y' : Int), Cg y y' → Cg (ps.foldl (fun y p => (y + L.foldl (rStep t p.1.f0 p.2) (p.1.f1 % 1073741789)) % 1073741789) y) (y' + ev P t)) ∧
    (∀ q ∈ L, (q ∈ ps → Cg (ev P q.1.f0) q.1.f1) ∧ (q ∉ ps → Cg (ev P q.1.f0) 0))
  | [], _, _ => ⟨[], by simp, fun t y y' h => by simpa [ev] using h, fun t y y' h => by simpa [ev] using h, fun q _ => ⟨fun h => by simp at h, fun _ => by simp [ev, Cg.refl]⟩⟩
  | p :: ps, hs, hd => by
    have hd' := List.nodup_cons.1 hd
    obtain ⟨P, hl, h1, h2, h3⟩ := lag_of hL ps (fun q hq => hs q (List.mem_cons_of_mem _ hq)) hd'.2
    have hp := hs p (List.mem_cons_self ..)
    obtain ⟨c, hc, hpt⟩ := part_at hL hp
    have hev : ∀ t, ev (addp (scale (p.1.f1 * c) (PP p.2 L)) P) t = p.1.f1 * c * pr p.2 t L + ev P t := fun t => by rw [ev_addp, ev_scale, ev_PP]
    refine ⟨addp (scale (p.1.f1 * c) (PP p.2 L)) P, ?_, ?_, ?_, ?_⟩
    · rw [len_addp, len_scale]
      have := len_PP' p.2 L ⟨p, hp, rfl⟩
      omega
    · intro t y y' hy
      rw [List.foldl_cons, hev]
      refine (h1 t _ (y' + p.1.f1 * c * pr p.2 t L) ?_).trans (Cg.of_eq (by omega))
      exact (Cg.mod _).trans (hy.add ((Cg.mod _).trans (hpt t).1))
    · intro t y y' hy
      rw [List.foldl_cons, hev]
      refine (h2 t _ (y' + p.1.f1 * c * pr p.2 t L) ?_).trans (Cg.of_eq (by omega))
      exact (Cg.mod _).trans (hy.add (hpt t).2)
    · intro q hq
      rw [hev]
      by_cases he : q = p
      · subst he
        have hnot : q ∉ ps := fun hm => hd'.1 (List.mem_map.2 ⟨q, hm, rfl⟩)
        have h4 := (h3 q hq).2 hnot
        refine ⟨fun _ => ?_, fun h => absurd (List.mem_cons_self ..) h⟩
        have := (((Cg.refl q.1.f1).mul hc).add h4)
        refine Cg.trans (Cg.of_eq ?_) (this.trans (Cg.of_eq ?_)) <;> grind
      · have hne : q.2 ≠ p.2 := fun e => he (hL.num q hq p hp e)
        rw [pr_zero p.2 L q hq hne]
        have e0 : p.1.f1 * c * 0 + ev P q.1.f0 = ev P q.1.f0 := by grind
        rw [e0]
        refine ⟨fun h => (h3 q hq).1 ((List.mem_cons.1 h).resolve_left he), fun h => (h3 q hq).2 fun hm => h (List.mem_cons_of_mem _ hm)⟩

theorem mem_zip {l : List S38} {q : S38 × Nat} : q ∈ l.zipIdx → q.2 < l.length ∧ l.getD q.2 z38 = q.1 := by
  intro h
  obtain ⟨p, i⟩ := q
  rw [List.mem_zipIdx_iff_getElem?] at h
  obtain ⟨hi, e⟩ := List.getElem?_eq_some_iff.1 h
  refine ⟨hi, ?_⟩
  rw [List.getD_eq_getElem?_getD, h]; rfl
theorem zip_mem {l : List S38} {p : S38} (h : p ∈ l) : ∃ i, (p, i) ∈ l.zipIdx := by
  obtain ⟨i, hi, rfl⟩ := List.mem_iff_getElem.1 h
  exact ⟨i, by rw [List.mem_zipIdx_iff_getElem?]; exact List.getElem?_eq_getElem hi⟩
theorem cg_of_mod {a b : Int} (h : a % 1073741789 = b % 1073741789) : Cg a b := dvd_of_mod h
theorem pts_of {l : List S38} (h : diff l = true) : Pts l.zipIdx := by
  have hnd : (l.map fun p => p.f0 % 1073741789).Nodup := of_decide_eq_true h
  refine ⟨fun q hq q' hq' e => ?_, fun q hq q' hq' hne hdv => ?_⟩
  · obtain ⟨h1, h2⟩ := mem_zip hq
    obtain ⟨h3, h4⟩ := mem_zip hq'
    rw [e] at h2
    exact Prod.ext (h2.symm.trans h4) e
  · obtain ⟨h1, h2⟩ := mem_zip hq
    obtain ⟨h3, h4⟩ := mem_zip hq'
    apply hne
    have hm := mod_of_dvd hdv
    rw [← h2, ← h4] at hm
    rw [List.getD_eq_getElem?_getD, List.getD_eq_getElem?_getD, List.getElem?_eq_getElem h1, List.getElem?_eq_getElem h3] at hm
    refine (List.getElem_inj (h₀ := by rw [List.length_map]; exact h1) (h₁ := by rw [List.length_map]; exact h3) hnd).1 ?_
    rw [List.getElem_map, List.getElem_map]; exact hm

theorem zip_nums (l : List S38) (n : Nat) : ((l.zipIdx n).map (·.2)).Nodup := by
  rw [List.zipIdx_map_snd]; exact List.nodup_range' ..

/-- what both answer, as one polynomial -/
theorem lag {l : List S38} (h : diff l = true) : ∃ P : List Int, P.length ≤ l.length ∧ (∀ t, Cg (atSum t l l.zipIdx) (ev P t)) ∧ (∀ t, Cg (rSum t l l.zipIdx) (ev P t)) ∧ ∀ p ∈ l, Cg (ev P p.f0) p.f1 := by
  obtain ⟨P, h1, h2, h3, h4⟩ := lag_of (pts_of h) l.zipIdx (fun _ h => h) (zip_nums l 0)
  refine ⟨P, by simpa using h1, fun t => ?_, fun t => ?_, fun p hp => ?_⟩
  · have := h2 t 0 0 (Cg.refl 0); rwa [Int.zero_add] at this
  · have := h3 t 0 0 (Cg.refl 0); rwa [Int.zero_add] at this
  · obtain ⟨i, hi⟩ := zip_mem hp
    have := h4 (p, i) hi
    exact this.1 hi
end Go.Proofs.Ytbbffpgnjdejiaa.P
