/- What happens, plainly; what is known of a net after a move, whoever holds what. -/
import Derived.Test.YtmilnlcegcdolaaCtsP
import Derived.Test.YtmilnlcegcdolaaSaneW
namespace Go.Proofs.Ytmilnlcegcdolaa.P
open Go.RowKit Go.Proofs.YtmilnlcegcdolaaW.PrintWords
open XW RegInv
set_option linter.unusedSimpArgs false
set_option linter.unusedVariables false

section
variable {N : NET} {p : PKT} {u : Value} {Rs : List Res} {i x y : Int} {on : Bool}
theorem snd_tr (h : sndPost N p u Rs) : ∃ A c B d, u = .tuple #[NET.v ⟨A, c, B, d, (sendF N.q N.a p).1.1, (sendF N.q N.a p).1.2⟩, .int .i64 (sendF N.q N.a p).2] ∧ ∀ base T, Kn base T N → Kp base T p → Kn base (Rs ++ T) ⟨A, c, B, d, (sendF N.q N.a p).1.1, (sendF N.q N.a p).1.2⟩ := by
  rcases h with ⟨e, h1, h2, rfl, rfl⟩ | ⟨b, c, h1, rfl, rfl⟩
  · rw [h1]; exact ⟨none, 0, none, 0, rfl, fun _ _ _ _ => Kn.z⟩
  · rw [h1]; exact ⟨some ⟨b, 0, none⟩, c, N.B, N.d, rfl, fun base T hN hp w hw => ok_rowW (A := some b) (hN w (hw.sub (List.sublist_append_right _ _))) hw (by simp [rowR]) (fun x hx => by
      rcases List.mem_append.1 hx with hx | hx
      · exact hN.rd x hx w (hw.sub (List.sublist_append_right _ _))
      · rw [List.mem_singleton.1 hx]; exact hp w (hw.sub (List.sublist_append_right _ _)))⟩
theorem wth_tr {k : Nat} (hk : k ≤ N.q.length) (h : wthPost N k u Rs) : ∃ A c B d, u = NET.v ⟨A, c, B, d, N.q.eraseIdx k, N.a⟩ ∧ ∀ base T, Kn base T N → Kn base (Rs ++ T) ⟨A, c, B, d, N.q.eraseIdx k, N.a⟩ := by
  rcases h with ⟨h1, rfl, rfl⟩ | ⟨b, c, rfl, rfl⟩
  · rw [h1]; exact ⟨N.A, k, N.B, N.d, rfl, fun base T hN w hw => cutN_ok (hN w hw) hk⟩
  · exact ⟨some ⟨b, 0, none⟩, c, N.B, N.d, rfl, fun base T hN w hw => ok_rowW (A := some b) (hN w (hw.sub (List.sublist_append_right _ _))) hw (by simp [rowR]) (fun x hx => hN.rd x (List.eraseIdx_subset hx) w (hw.sub (List.sublist_append_right _ _)))⟩
theorem los_tr (h : losPost N i u Rs) : ∃ A c B d, u = .tuple #[NET.v ⟨A, c, B, d, (losF N.q N.a i).1.1, (losF N.q N.a i).1.2⟩, .int .i64 (losF N.q N.a i).2] ∧ ∀ base T, Kn base T N → Kn base (Rs ++ T) ⟨A, c, B, d, (losF N.q N.a i).1.1, (losF N.q N.a i).1.2⟩ := by
  rcases h with ⟨h1, rfl, rfl⟩ | ⟨h1, v, rfl, h⟩
  · rw [show losF N.q N.a i = (([], []), atE N.q N.a i) from if_pos h1]; exact ⟨none, 0, none, 0, rfl, fun _ _ _ => Kn.z⟩
  · rw [show losF N.q N.a i = ((N.q.eraseIdx i.toNat, N.a), 0) from if_neg (fun h => h h1)]
    obtain ⟨A, c, B, d, rfl, hk⟩ := wth_tr (atE_le h1) h
    exact ⟨A, c, B, d, rfl, hk⟩
theorem rep_tr (h : repPost N i u Rs) : ∃ A c B d, u = .tuple #[NET.v ⟨A, c, B, d, (repF N.q N.a i).1.1, (repF N.q N.a i).1.2⟩, .int .i64 (repF N.q N.a i).2] ∧ ∀ base T, Kn base T N → Kn base (Rs ++ T) ⟨A, c, B, d, (repF N.q N.a i).1.1, (repF N.q N.a i).1.2⟩ := by
  rcases h with ⟨h1, rfl, rfl⟩ | ⟨h1, h⟩
  · rw [show repF N.q N.a i = (([], []), atE N.q N.a i) from if_pos h1]; exact ⟨none, 0, none, 0, rfl, fun _ _ _ => Kn.z⟩
  · rw [show repF N.q N.a i = sendF N.q N.a (N.q.getD i.toNat zP) from if_neg (fun h => h h1)]
    obtain ⟨A, c, B, d, rfl, hk⟩ := snd_tr h
    refine ⟨A, c, B, d, rfl, fun base T hN => hk base T hN ?_⟩
    obtain ⟨_, h2, h3⟩ := atE_0 h1
    exact hN.rd _ (getD_mem' (by omega))
theorem del_tr (h : delPost N i u Rs) : ∃ A c B d, u = .tuple #[(delF N.q N.a i).1.v, NET.v ⟨A, c, B, d, (delF N.q N.a i).2.1.1, (delF N.q N.a i).2.1.2⟩, .int .i64 (delF N.q N.a i).2.2] ∧ ∀ base T, Kn base T N → Kn base (Rs ++ T) ⟨A, c, B, d, (delF N.q N.a i).2.1.1, (delF N.q N.a i).2.1.2⟩ ∧ Kp base (Rs ++ T) (delF N.q N.a i).1 := by
  rcases h with ⟨h1, rfl, rfl⟩ | ⟨h1, v, rfl, h⟩
  · rw [show delF N.q N.a i = (zP, ([], []), atE N.q N.a i) from if_pos h1]; exact ⟨none, 0, none, 0, rfl, fun _ _ _ => ⟨Kn.z, Kp.z⟩⟩
  · obtain ⟨A, c, B, d, rfl, hk⟩ := wth_tr (atE_le h1) h
    rw [show delF N.q N.a i = (dlvP N i.toNat, (N.q.eraseIdx i.toNat, N.a), 0) from if_neg (fun h => h h1)]
    refine ⟨A, c, B, d, rfl, fun base T hN => ⟨hk base T hN, ?_⟩⟩
    obtain ⟨_, h2, h3⟩ := atE_0 h1
    unfold dlvP
    split
    · exact Kp.z
    · exact (hN.rd _ (getD_mem' (by omega))).mono (List.sublist_append_right _ _)
theorem cut_tr (h : cutPost N x y on u Rs) : ∃ A c B d, u = .tuple #[NET.v ⟨A, c, B, d, (cutF N.q N.a x y on).1.1, (cutF N.q N.a x y on).1.2⟩, .int .i64 (cutF N.q N.a x y on).2] ∧ ∀ base T, Kn base T N → Kn base (Rs ++ T) ⟨A, c, B, d, (cutF N.q N.a x y on).1.1, (cutF N.q N.a x y on).1.2⟩ := by
  rcases h with ⟨e, h1, h2, rfl, rfl⟩ | ⟨B, d, h1, rfl, rfl⟩
  · rw [h1]; exact ⟨none, 0, none, 0, rfl, fun _ _ _ => Kn.z⟩
  · rw [h1]; exact ⟨N.A, N.c, B.map fun b => ⟨b, 0, none⟩, d, rfl, fun base T hN w hw => ok_cutW (hN w (hw.sub (List.sublist_append_right _ _))) hw (by simp)⟩
end
/-- what a move leads to, from right links -/
def HapOk (m : Int) (q : List PKT) (a : List (Int × Int)) (q' : List PKT) (a' : List (Int × Int)) (p : PKT) (e : Int) : Prop :=
  (e ≠ 0 ∧ q' = [] ∧ a' = []) ∨ (e = 0 ∧ okN q' a' ∧ ((m = 0 ∧ (∃ s, q' = q ++ [s]) ∧ a' = a) ∨ (m = 1 ∧ (∀ x ∈ q', x ∈ q) ∧ a' = a ∧ ((p = zP ∧ a ≠ []) ∨ p ∈ q)) ∨ ((m = 2 ∨ m = 3) ∧ (∀ x ∈ q', x ∈ q) ∧ a' = a) ∨ (m = 4 ∧ q' = q) ∨ (m = 5 ∧ q' = q ∧ (a = [] → a' = []))))
section
variable {q : List PKT} {a : List (Int × Int)} {k : Nat}
theorem hap_send (h : okN q a) (p : PKT) : HapOk 0 q a (sendF q a p).1.1 (sendF q a p).1.2 zP (sendF q a p).2 := by
  by_cases hp : okP p
  · by_cases hl : q.length = 4096
    · rw [show sendF q a p = (([], []), 2) by unfold sendF; rw [if_neg (by simp [h, hp]), if_pos hl]]
      exact .inl ⟨by decide, rfl, rfl⟩
    · have hl' : q.length < 4096 := Nat.lt_of_le_of_ne h.1 hl
      rw [snd_ok h hp hl']
      exact .inr ⟨rfl, okN_snoc h hp hl', .inl ⟨rfl, ⟨p, rfl⟩, rfl⟩⟩
  · rw [show sendF q a p = (([], []), 60) from if_pos (.inr hp)]
    exact .inl ⟨by decide, rfl, rfl⟩
theorem atE_no (h : okN q a) (hk : ¬ k < q.length) : atE q a (k : Int) = 1 := by
  unfold atE
  rw [if_neg (fun h2 => h2 h), if_pos (by omega)]
theorem hap_del (h : okN q a) : HapOk 1 q a (delF q a k).2.1.1 (delF q a k).2.1.2 (delF q a k).1 (delF q a k).2.2 := by
  by_cases hk : k < q.length
  · rw [del_ok h hk]
    refine .inr ⟨rfl, okN_erase h k, .inr (.inl ⟨rfl, fun x hx => List.eraseIdx_subset hx, rfl, ?_⟩)⟩
    show dlvQ q a k = zP ∧ a ≠ [] ∨ dlvQ q a k ∈ q
    unfold dlvQ
    split
    · next hin => exact .inl ⟨rfl, fun e => by rw [e] at hin; cases hin⟩
    · exact .inr (getD_mem' hk)
  · rw [show delF q a (k : Int) = (zP, ([], []), 1) by unfold delF; rw [atE_no h hk]; rfl]
    exact .inl ⟨by decide, rfl, rfl⟩
theorem hap_los (h : okN q a) : HapOk 2 q a (losF q a k).1.1 (losF q a k).1.2 zP (losF q a k).2 := by
  by_cases hk : k < q.length
  · rw [los_ok h hk]
    exact .inr ⟨rfl, okN_erase h k, .inr (.inr (.inl ⟨.inl rfl, fun x hx => List.eraseIdx_subset hx, rfl⟩))⟩
  · rw [show losF q a (k : Int) = (([], []), 1) by unfold losF; rw [atE_no h hk]; rfl]
    exact .inl ⟨by decide, rfl, rfl⟩
theorem hap_rep (h : okN q a) : HapOk 3 q a (repF q a k).1.1 (repF q a k).1.2 zP (repF q a k).2 := by
  by_cases hk : k < q.length
  · have hp := getD_mem' (d := zP) hk
    have e : repF q a (k : Int) = sendF q a (q.getD k zP) := by unfold repF; rw [if_neg (by rw [atE_ok h hk]; simp), Int.toNat_natCast]
    rw [e]
    by_cases hl : q.length = 4096
    · rw [show sendF q a (q.getD k zP) = (([], []), 2) by unfold sendF; rw [if_neg (fun h3 => h3.elim (fun h4 => h4 h) (fun h4 => h4 (h.2.1 _ hp))), if_pos hl]]
      exact .inl ⟨by decide, rfl, rfl⟩
    · have hl' : q.length < 4096 := Nat.lt_of_le_of_ne h.1 hl
      rw [snd_ok h (h.2.1 _ hp) hl']
      refine .inr ⟨rfl, okN_snoc h (h.2.1 _ hp) hl', .inr (.inr (.inl ⟨.inr rfl, fun x hx => ?_, rfl⟩))⟩
      rcases List.mem_append.1 hx with hx | hx
      · exact hx
      · rw [List.mem_singleton.1 hx]; exact hp
  · rw [show repF q a (k : Int) = (([], []), 1) by unfold repF; rw [atE_no h hk]; rfl]
    exact .inl ⟨by decide, rfl, rfl⟩
theorem hap_cut (h : okN q a) (x y : Int) (on : Bool) : HapOk (if on then 4 else 5) q a (cutF q a x y on).1.1 (cutF q a x y on).1.2 zP (cutF q a x y on).2 := by
  by_cases hl : okL (btw x y)
  · rw [cut_ok h hl on]
    refine .inr ⟨rfl, okN_cuts h, .inr (.inr (.inr ?_))⟩
    cases on with
    | true => exact .inl ⟨rfl, rfl⟩
    | false =>
      refine .inr ⟨rfl, rfl, fun e => ?_⟩
      subst e
      exact List.filter_eq_nil_iff.2 fun z hz => by
        unfold keepL
        split <;> simp
  · rw [cut_no h hl on]
    exact .inl ⟨by decide, rfl, rfl⟩
end
end Go.Proofs.Ytmilnlcegcdolaa.P
