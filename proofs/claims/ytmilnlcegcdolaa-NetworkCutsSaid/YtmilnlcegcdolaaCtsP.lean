/- Links cut and mended, plainly. -/
import Derived.Test.YtmilnlcegcdolaaNetQ
import Derived.Test.YtmilnlcegcdolaaCutsW
namespace Go.Proofs.Ytmilnlcegcdolaa.P
open Go.RowKit Go.Proofs.YtmilnlcegcdolaaW.PrintWords
open XW RegInv
set_option linter.unusedSimpArgs false
set_option linter.unusedVariables false

theorem allL_sorted : allL.Pairwise befL := by decide +kernel
theorem allL_okL : ∀ x ∈ allL, okL x := by decide +kernel
theorem allL_nat : ∀ m : Nat, m < 24 → ∀ n : Nat, n < 24 → m < n → ((m : Int), (n : Int)) ∈ allL := fun m hm n hn h => List.mem_flatMap.2 ⟨m, List.mem_range.2 hm, List.mem_map.2 ⟨n, List.mem_filter.2 ⟨List.mem_range.2 hn, decide_eq_true h⟩, rfl⟩⟩
theorem mem_allL {x : Int × Int} (h : okL x) : x ∈ allL := by
  obtain ⟨u, v⟩ := x
  obtain ⟨h1, h2, h3⟩ := h
  simp only at h1 h2 h3
  have := allL_nat u.toNat (by omega) v.toNat (by omega) (by omega)
  rwa [Int.toNat_of_nonneg h1, Int.toNat_of_nonneg (by omega)] at this
theorem befL_irrefl (x : Int × Int) : ¬ befL x x := by unfold befL; omega
theorem allL_nodup : allL.Nodup := List.Pairwise.imp (S := fun a b => a ≠ b) (fun {a b} h => by rintro rfl; exact befL_irrefl a h) allL_sorted
section
variable {a : List (Int × Int)} {l : Int × Int} {on : Bool}
theorem mem_cutsL {x : Int × Int} : x ∈ cutsL a l on ↔ x ∈ allL ∧ keepL a l on x = true := List.mem_filter
theorem okA_of {b : List (Int × Int)} (h1 : b.Pairwise befL) (h2 : ∀ x ∈ b, okL x) : ∀ i, i < b.length → okA b i := by
  intro i hi
  refine ⟨h2 _ (getD_mem' hi), fun h0 => ?_⟩
  have := List.pairwise_iff_getElem.1 h1 (i - 1) i (by omega) hi (by omega)
  rwa [List.getD_eq_getElem?_getD, List.getD_eq_getElem?_getD, List.getElem?_eq_getElem hi, List.getElem?_eq_getElem (show i - 1 < b.length by omega)]
theorem okN_cuts {q : List PKT} (h : okN q a) : okN q (cutsL a l on) :=
  ⟨h.1, h.2.1, okA_of (allL_sorted.sublist List.filter_sublist) (fun x hx => allL_okL x (mem_cutsL.1 hx).1)⟩
theorem keep_cuts (on' : Bool) {x : Int × Int} (hx : x ∈ allL) : keepL (cutsL a l on) l on' x = keepL a l on' x := by
  unfold keepL
  by_cases e : x = l
  · rw [if_pos e, if_pos e]
  · rw [if_neg e, if_neg e, decide_eq_decide, mem_cutsL]
    unfold keepL
    rw [if_neg e, decide_eq_true_iff]
    exact ⟨fun h => h.2, fun h => ⟨hx, h⟩⟩
theorem cuts_cuts (on' : Bool) : cutsL (cutsL a l on) l on' = cutsL a l on' := List.filter_congr fun x hx => keep_cuts on' hx
theorem len_filter_one {α : Type} [DecidableEq α] {p p' : α → Bool} {l : α} : ∀ {L : List α}, L.Nodup → l ∈ L → p l = true → p' l = false → (∀ x, x ≠ l → p x = p' x) → (L.filter p).length = (L.filter p').length + 1
  | [], _, hm, _, _, _ => by cases hm
  | x :: L, hn, hm, h1, h2, h3 => by
    obtain ⟨hn1, hn2⟩ := List.nodup_cons.1 hn
    by_cases e : x = l
    · subst e
      have : L.filter p = L.filter p' := List.filter_congr fun y hy => h3 y (fun e => hn1 (by rw [← e]; exact hy))
      rw [List.filter_cons_of_pos h1, List.filter_cons_of_neg (by rw [h2]; simp), this]; rfl
    · have ih := len_filter_one hn2 ((List.mem_cons.1 hm).resolve_left (fun h => e h.symm)) h1 h2 h3
      cases hp : p' x with
      | true => rw [List.filter_cons_of_pos (by rw [h3 x e]; exact hp), List.filter_cons_of_pos hp, List.length_cons, List.length_cons, ih]
      | false => rw [List.filter_cons_of_neg (by rw [h3 x e, hp]; simp), List.filter_cons_of_neg (by rw [hp]; simp), ih]
theorem cuts_len1 (hl : okL l) : (cutsL a l true).length = (cutsL a l false).length + 1 :=
  len_filter_one allL_nodup (mem_allL hl) (by unfold keepL; rw [if_pos rfl]) (by unfold keepL; rw [if_pos rfl]) (fun x hx => by unfold keepL; rw [if_neg hx, if_neg hx])
theorem btw_comm (x y : Int) : btw x y = btw y x := by unfold btw; rw [Int.min_comm, Int.max_comm]
theorem btw_eq {f t x y : Int} : btw f t = btw x y ↔ (f = x ∧ t = y) ∨ (f = y ∧ t = x) := by
  unfold btw
  rw [Prod.mk.injEq]
  omega
/-- what is delivered where a link is cut, and where it is mended -/
theorem cut_pkts {q : List PKT} {x y : Int} {k : Nat} (h : okN q a) (hk : k < q.length) (hl : okL (btw x y)) :
    (∃ pk : PKT, dlvQ q (cutsL a (btw x y) true) k = zP ∧ dlvQ q (cutsL a (btw x y) false) k = pk ∧ ((pk.f = x ∧ pk.t = y) ∨ (pk.f = y ∧ pk.t = x))) ∨
    (∃ o : PKT, dlvQ q (cutsL a (btw x y) true) k = o ∧ dlvQ q (cutsL a (btw x y) false) k = o ∧ ¬ ((o.f = x ∧ o.t = y) ∨ (o.f = y ∧ o.t = x)) ∧ (o = zP ∨ (o.f ≠ 0 ∨ o.t ≠ 0))) := by
  have hp := h.2.1 _ (getD_mem' (d := zP) hk)
  unfold dlvQ
  generalize q.getD k zP = p at *
  have hpl := mem_allL hp.1
  have hpt := hp.1
  unfold okL btw at hpt
  simp only at hpt
  by_cases e : btw p.f p.t = btw x y
  · refine .inl ⟨p, if_pos (mem_cutsL.2 ⟨hpl, by unfold keepL; rw [if_pos e]⟩), if_neg (fun hm => ?_), btw_eq.1 e⟩
    have := (mem_cutsL.1 hm).2
    unfold keepL at this
    rw [if_pos e] at this
    cases this
  · have hb : ∀ on, btw p.f p.t ∈ cutsL a (btw x y) on ↔ btw p.f p.t ∈ a := fun on => by
      rw [mem_cutsL]; unfold keepL; rw [if_neg e, decide_eq_true_iff]; exact ⟨fun h => h.2, fun h => ⟨hpl, h⟩⟩
    by_cases hin : btw p.f p.t ∈ a
    · refine .inr ⟨zP, if_pos ((hb _).2 hin), if_pos ((hb _).2 hin), fun h2 => ?_, .inl rfl⟩
      unfold okL btw at hl
      simp only [zP] at h2 hl
      omega
    · refine .inr ⟨p, if_neg (fun h2 => hin ((hb _).1 h2)), if_neg (fun h2 => hin ((hb _).1 h2)), fun h2 => e (btw_eq.2 h2), .inr ?_⟩
      omega
/-- all that the cuts of the law give -/
theorem cuts_all {q : List PKT} {x y : Int} (h : okN q a) (hl : okL (btw x y)) : ∃ a1 a2, cutF q a x y true = ((q, a1), 0) ∧ cutF q a y x true = ((q, a1), 0) ∧ cutF q a1 x y true = ((q, a1), 0) ∧ cutF q a1 y x false = ((q, a2), 0) ∧ cutF q a x y false = ((q, a2), 0) ∧
    a1.length = a2.length + 1 ∧ a2.length ≤ 276 ∧ okN q a1 ∧ okN q a2 ∧ ∀ k, k < q.length →
      (∃ pk : PKT, dlvQ q a1 k = zP ∧ dlvQ q a2 k = pk ∧ ((pk.f = x ∧ pk.t = y) ∨ (pk.f = y ∧ pk.t = x))) ∨
      (∃ o : PKT, dlvQ q a1 k = o ∧ dlvQ q a2 k = o ∧ ¬ ((o.f = x ∧ o.t = y) ∨ (o.f = y ∧ o.t = x)) ∧ (o = zP ∨ (o.f ≠ 0 ∨ o.t ≠ 0))) := by
  have hl' : okL (btw y x) := by rw [btw_comm]; exact hl
  refine ⟨cutsL a (btw x y) true, cutsL a (btw x y) false, cut_ok h hl true, ?_, ?_, ?_, cut_ok h hl false, cuts_len1 hl, cutsL_len _ _ _, okN_cuts h, okN_cuts h, fun k hk => cut_pkts h hk hl⟩
  · rw [cut_ok h hl' true, btw_comm y x]
  · rw [cut_ok (okN_cuts h) hl true, cuts_cuts]
  · rw [cut_ok (okN_cuts h) hl' false, btw_comm y x, cuts_cuts]
theorem cut_no {q : List PKT} {x y : Int} (h : okN q a) (hl : ¬ okL (btw x y)) (on : Bool) : cutF q a x y on = (([], []), 1) := by
  unfold cutF
  rw [if_neg (fun h2 => h2 h), if_pos hl]
end
end Go.Proofs.Ytmilnlcegcdolaa.P
