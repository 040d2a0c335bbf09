/- Calls of the chapter's functions, by what is known of nets while memory is held. -/
import Derived.Test.YtmilnlcegcdolaaSameW
namespace Go.Proofs.Ytmilnlcegcdolaa.P
open Go.RowKit Go.Proofs.YtmilnlcegcdolaaW.PrintWords
open XW RegInv
attribute [local irreducible] Addr.add
set_option linter.unusedSimpArgs false
set_option linter.unusedVariables false
set_option linter.unusedSectionVars false

/-- what is known of a net, a packet, while memory is held -/
def Kn (base : World) (T : List Res) (N : NET) : Prop := ∀ w, Mem base w T → N.ok w
def Kp (base : World) (T : List Res) (p : PKT) : Prop := ∀ w, Mem base w T → p.rd w
section
variable {base w : World} {T T' R Rs : List Res} {N : NET} {p : PKT} {u : Value} {i x y : Int} {on : Bool}
theorem Kn.mono (h : Kn base T N) (hs : T.Sublist T') : Kn base T' N := fun w hw => h w (hw.sub hs)
theorem Kp.mono (h : Kp base T p) (hs : T.Sublist T') : Kp base T' p := fun w hw => h w (hw.sub hs)
theorem Kn.at (h : Kn base T N) (k : Nat) (hT : R.drop k = T) (hw : Mem base w R) : N.ok w := h w (hw.sub (by rw [← hT]; exact List.drop_sublist k R))
theorem Kp.at (h : Kp base T p) (k : Nat) (hT : R.drop k = T) (hw : Mem base w R) : p.rd w := h w (hw.sub (by rw [← hT]; exact List.drop_sublist k R))
theorem Kn.rd (h : Kn base T N) : ∀ p ∈ N.q, Kp base T p := fun p hp w hw => C_rds (h w hw).q p hp
theorem Kn.z : Kn base T zN := fun w _ => zN_ok w
theorem Kp.z : Kp base T zP := fun w _ => zP_rd w
theorem Kn.of (h : N.ok base) : Kn base T N := fun w hw => h.below hw.below
theorem Kp.of (h : p.rd base) : Kp base T p := fun w hw => h.below hw.below
theorem C_rowL {B : Option Nat} {d : Nat} {l : List (Int × Int)} (hw : Mem base w R) (hm : rowL B d l ∈ R) : Kd.C kL w (B.map fun b => ⟨b, 0, none⟩) l.length l := by
  have h0 : RowOk 55 2 encL B d l w := hw.ok _ hm
  obtain ⟨_, hlc, hcm, h4⟩ := h0
  refine ⟨rfl, Nat.le_trans hlc (Nat.le_trans hcm (by decide)), fun h => ?_⟩
  cases B with
  | none => rw [h4.1] at h; exact absurd h (by simp)
  | some b =>
    obtain ⟨junk, hh, _⟩ := h4
    refine ⟨⟨b, 0, none⟩, rfl, fun j p hj => ?_⟩
    have hjl := (List.getElem?_eq_some_iff.1 hj).1
    have hp : l.getD j (0, 0) = p := by rw [List.getD_eq_getElem?_getD, hj]; rfl
    refine ⟨encL p, rfl, rfl, fun i u hu => ?_⟩
    rw [XW.add_plain, Nat.zero_add]
    exact cell_of hh (buf_get (sz := 2) encL_len (0, 0) hjl (by rw [hp]; exact hu))
theorem ok_rowW (h : N.ok w) {q : List PKT} {A : Option Nat} {c : Nat} (hw : Mem base w R) (hm : Res.row 28 3 encP A c q ∈ R) (hrd : ∀ p ∈ q, p.rd w) : (rowO A c N q).ok w := by
  have hrow : RowOk 28 3 encP A c q w := hw.ok _ hm
  exact ⟨hrow.2.1, h.ac, hrow.2.2.1, C_rowP hw hm hrd, h.a⟩
theorem ok_cutW (h : N.ok w) {l : List (Int × Int)} {B : Option Nat} {d : Nat} (hw : Mem base w R) (hm : rowL B d l ∈ R) : (cutO B d N l).ok w := by
  have hrow : RowOk 55 2 encL B d l w := hw.ok _ hm
  exact ⟨h.qc, hrow.2.1, h.cm, h.q, C_rowL hw hm⟩
theorem snd_up (hN : Kn base T N) (hp : Kp base T p) (h : sndPost N p u Rs) : ∃ A c B d, u = .tuple #[NET.v ⟨A, c, B, d, (sendF N.q N.a p).1.1, (sendF N.q N.a p).1.2⟩, .int .i64 (sendF N.q N.a p).2] ∧ Kn base (Rs ++ T) ⟨A, c, B, d, (sendF N.q N.a p).1.1, (sendF N.q N.a p).1.2⟩ := by
  rcases h with ⟨e, h1, h2, rfl, rfl⟩ | ⟨b, c, h1, rfl, rfl⟩
  · rw [h1]; exact ⟨none, 0, none, 0, rfl, Kn.z⟩
  · rw [h1]; exact ⟨some ⟨b, 0, none⟩, c, N.B, N.d, rfl, fun w hw => ok_rowW (A := some b) (hN w (hw.sub (List.sublist_append_right _ _))) hw (by simp [rowR]) (fun x hx => by
      rcases List.mem_append.1 hx with hx | hx
      · exact hN.rd x hx w (hw.sub (List.sublist_append_right _ _))
      · rw [List.mem_singleton.1 hx]; exact hp w (hw.sub (List.sublist_append_right _ _)))⟩
theorem rsd_up (hN : Kn base T N) (hp : Kp base T p) (h : rsdPost N p u Rs) : ∃ A c B d, u = .tuple #[NET.v ⟨A, c, B, d, (sendF N.q N.a p).1.1, (sendF N.q N.a p).1.2⟩, .int .i64 (sendF N.q N.a p).2] ∧ Kn base (Rs ++ T) ⟨A, c, B, d, (sendF N.q N.a p).1.1, (sendF N.q N.a p).1.2⟩ := by
  rcases h with ⟨e, h1, h2, rfl, rfl⟩ | ⟨A, c, h1, rfl, rfl⟩
  · rw [h1]; exact ⟨none, 0, none, 0, rfl, Kn.z⟩
  · rw [h1]; exact ⟨A.map fun b => ⟨b, 0, none⟩, c, N.B, N.d, rfl, fun w hw => ok_rowW (hN w (hw.sub (List.sublist_append_right _ _))) hw (by simp [rowP]) (fun x hx => by
      rcases List.mem_append.1 hx with hx | hx
      · exact hN.rd x hx w (hw.sub (List.sublist_append_right _ _))
      · rw [List.mem_singleton.1 hx]; exact hp w (hw.sub (List.sublist_append_right _ _)))⟩
theorem wth_up (hN : Kn base T N) {k : Nat} (hk : k ≤ N.q.length) (h : wthPost N k u Rs) : ∃ A c B d, u = NET.v ⟨A, c, B, d, N.q.eraseIdx k, N.a⟩ ∧ Kn base (Rs ++ T) ⟨A, c, B, d, N.q.eraseIdx k, N.a⟩ := by
  rcases h with ⟨h1, rfl, rfl⟩ | ⟨b, c, rfl, rfl⟩
  · rw [h1]; exact ⟨N.A, k, N.B, N.d, rfl, fun w hw => cutN_ok (hN w hw) hk⟩
  · exact ⟨some ⟨b, 0, none⟩, c, N.B, N.d, rfl, fun w hw => ok_rowW (A := some b) (hN w (hw.sub (List.sublist_append_right _ _))) hw (by simp [rowR]) (fun x hx => hN.rd x (List.eraseIdx_subset hx) w (hw.sub (List.sublist_append_right _ _)))⟩
theorem rwt_up (hN : Kn base T N) {k : Nat} (hk : k ≤ N.q.length) (h : rwtPost N k u Rs) : ∃ A c B d, u = NET.v ⟨A, c, B, d, N.q.eraseIdx k, N.a⟩ ∧ Kn base (Rs ++ T) ⟨A, c, B, d, N.q.eraseIdx k, N.a⟩ := by
  obtain ⟨A, c, rfl, rfl⟩ := h
  exact ⟨A.map fun b => ⟨b, 0, none⟩, c, N.B, N.d, rfl, fun w hw => ok_rowW (hN w (hw.sub (List.sublist_append_right _ _))) hw (by simp [rowP]) (fun x hx => hN.rd x (List.eraseIdx_subset hx) w (hw.sub (List.sublist_append_right _ _)))⟩
theorem atE_le (h : atE N.q N.a i = 0) : i.toNat ≤ N.q.length := by
  obtain ⟨_, h2, h3⟩ := atE_0 h; omega
theorem los_up (hN : Kn base T N) (h : losPost N i u Rs ∨ rlosPost N i u Rs) : ∃ A c B d, u = .tuple #[NET.v ⟨A, c, B, d, (losF N.q N.a i).1.1, (losF N.q N.a i).1.2⟩, .int .i64 (losF N.q N.a i).2] ∧ Kn base (Rs ++ T) ⟨A, c, B, d, (losF N.q N.a i).1.1, (losF N.q N.a i).1.2⟩ := by
  rcases h with (⟨h1, rfl, rfl⟩ | ⟨h1, v, rfl, h⟩) | (⟨h1, rfl, rfl⟩ | ⟨h1, v, rfl, h⟩)
  · rw [show losF N.q N.a i = (([], []), atE N.q N.a i) from if_pos h1]; exact ⟨none, 0, none, 0, rfl, Kn.z⟩
  · rw [show losF N.q N.a i = ((N.q.eraseIdx i.toNat, N.a), 0) from if_neg (fun h => h h1)]
    obtain ⟨A, c, B, d, rfl, hk⟩ := wth_up hN (atE_le h1) h
    exact ⟨A, c, B, d, rfl, hk⟩
  · rw [show losF N.q N.a i = (([], []), atE N.q N.a i) from if_pos h1]; exact ⟨none, 0, none, 0, rfl, Kn.z⟩
  · rw [show losF N.q N.a i = ((N.q.eraseIdx i.toNat, N.a), 0) from if_neg (fun h => h h1)]
    obtain ⟨A, c, B, d, rfl, hk⟩ := rwt_up hN (atE_le h1) h
    exact ⟨A, c, B, d, rfl, hk⟩
theorem rep_up (hN : Kn base T N) (h : repPost N i u Rs ∨ rrepPost N i u Rs) : ∃ A c B d, u = .tuple #[NET.v ⟨A, c, B, d, (repF N.q N.a i).1.1, (repF N.q N.a i).1.2⟩, .int .i64 (repF N.q N.a i).2] ∧ Kn base (Rs ++ T) ⟨A, c, B, d, (repF N.q N.a i).1.1, (repF N.q N.a i).1.2⟩ := by
  have hrd : atE N.q N.a i = 0 → Kp base T (N.q.getD i.toNat zP) := fun h1 => by
    obtain ⟨_, h2, h3⟩ := atE_0 h1
    exact hN.rd _ (getD_mem' (by omega))
  rcases h with (⟨h1, rfl, rfl⟩ | ⟨h1, h⟩) | (⟨h1, rfl, rfl⟩ | ⟨h1, h⟩)
  · rw [show repF N.q N.a i = (([], []), atE N.q N.a i) from if_pos h1]; exact ⟨none, 0, none, 0, rfl, Kn.z⟩
  · rw [show repF N.q N.a i = sendF N.q N.a (N.q.getD i.toNat zP) from if_neg (fun h => h h1)]
    exact snd_up hN (hrd h1) h
  · rw [show repF N.q N.a i = (([], []), atE N.q N.a i) from if_pos h1]; exact ⟨none, 0, none, 0, rfl, Kn.z⟩
  · rw [show repF N.q N.a i = sendF N.q N.a (N.q.getD i.toNat zP) from if_neg (fun h => h h1)]
    exact rsd_up hN (hrd h1) h
theorem del_up (hN : Kn base T N) (h : delPost N i u Rs ∨ rdelPost N i u Rs) : ∃ A c B d, u = .tuple #[(delF N.q N.a i).1.v, NET.v ⟨A, c, B, d, (delF N.q N.a i).2.1.1, (delF N.q N.a i).2.1.2⟩, .int .i64 (delF N.q N.a i).2.2] ∧ Kn base (Rs ++ T) ⟨A, c, B, d, (delF N.q N.a i).2.1.1, (delF N.q N.a i).2.1.2⟩ ∧ Kp base (Rs ++ T) (delF N.q N.a i).1 := by
  have hd : atE N.q N.a i = 0 → delF N.q N.a i = (dlvP N i.toNat, (N.q.eraseIdx i.toNat, N.a), 0) := fun h1 => if_neg (fun h => h h1)
  have hrd : atE N.q N.a i = 0 → Kp base (Rs ++ T) (dlvP N i.toNat) := fun h1 => by
    obtain ⟨_, h2, h3⟩ := atE_0 h1
    unfold dlvP
    split
    · exact Kp.z
    · exact (hN.rd _ (getD_mem' (by omega))).mono (List.sublist_append_right _ _)
  rcases h with (⟨h1, rfl, rfl⟩ | ⟨h1, v, rfl, h⟩) | (⟨h1, rfl, rfl⟩ | ⟨h1, v, rfl, h⟩)
  · rw [show delF N.q N.a i = (zP, ([], []), atE N.q N.a i) from if_pos h1]; exact ⟨none, 0, none, 0, rfl, Kn.z, Kp.z⟩
  · obtain ⟨A, c, B, d, rfl, hk⟩ := wth_up hN (atE_le h1) h
    rw [hd h1]
    exact ⟨A, c, B, d, rfl, hk, hrd h1⟩
  · rw [show delF N.q N.a i = (zP, ([], []), atE N.q N.a i) from if_pos h1]; exact ⟨none, 0, none, 0, rfl, Kn.z, Kp.z⟩
  · obtain ⟨A, c, B, d, rfl, hk⟩ := rwt_up hN (atE_le h1) h
    rw [hd h1]
    exact ⟨A, c, B, d, rfl, hk, hrd h1⟩
theorem cut_up (hN : Kn base T N) (h : cutPost N x y on u Rs) : ∃ A c B d, u = .tuple #[NET.v ⟨A, c, B, d, (cutF N.q N.a x y on).1.1, (cutF N.q N.a x y on).1.2⟩, .int .i64 (cutF N.q N.a x y on).2] ∧ Kn base (Rs ++ T) ⟨A, c, B, d, (cutF N.q N.a x y on).1.1, (cutF N.q N.a x y on).1.2⟩ := by
  rcases h with ⟨e, h1, h2, rfl, rfl⟩ | ⟨B, d, h1, rfl, rfl⟩
  · rw [h1]; exact ⟨none, 0, none, 0, rfl, Kn.z⟩
  · rw [h1]; exact ⟨N.A, N.c, B.map fun b => ⟨b, 0, none⟩, d, rfl, fun w hw => ok_cutW (hN w (hw.sub (List.sublist_append_right _ _))) hw (by simp)⟩
end
theorem sameEq_rets (p : PKT) (w : World) (hp : p.rd w) : Rets Try.prog 19 #[p.v, p.v] w fun u w' => u = .bool true ∧ Below w.heap.size w w' := by
  obtain ⟨b, h1, _, h⟩ := samep_rets p p hp hp
  rw [h1 rfl] at h
  exact h w (Below.refl _ _)
theorem sameNe_rets (p q : PKT) (w : World) (hp : p.rd w) (hq : q.rd w) (hne : p.f ≠ q.f ∨ p.t ≠ q.t) : Rets Try.prog 19 #[p.v, q.v] w fun u w' => u = .bool false ∧ Below w.heap.size w w' := by
  obtain ⟨b, _, h1, h⟩ := samep_rets p q hp hq
  rw [h1 hne] at h
  exact h w (Below.refl _ _)
theorem sameAny_rets (p q : PKT) (w : World) (hp : p.rd w) (hq : q.rd w) : Rets Try.prog 19 #[p.v, q.v] w fun u w' => ∃ Rs, ((∃ b, u = .bool b ∧ (p = q → b = true)) ∧ Rs = []) ∧ Mem w w' Rs := by
  obtain ⟨b, h1, _, h⟩ := samep_rets p q hp hq
  refine (h w (Below.refl _ _)).mono ?_
  rintro _ w' ⟨v, rfl, rfl, hb⟩
  exact ⟨_, rfl, [], ⟨⟨b, rfl, h1⟩, rfl⟩, (Mem.start w).keep hb⟩
section
variable {F : Fence} {P : Program} {n : Nat} {Q : XW.Post} {ρ : Nat → Value} {ds : List Deferred} {base : World} {R : List Res} {ops : Array Oper} {l : List Oper}
theorem AL.wit (h : ∀ w, Mem base w R → AL F P n Q ops l ρ ds base R) : AL F P n Q ops l ρ ds base R := ⟨fun w hw => (h w hw).use w hw⟩
theorem At.wit {Φ : World → Prop} (h : ∀ w, Mem base w R → At base R Φ) : At base R Φ := fun w hw => h w hw w hw
/-- the first holding moved behind k others -/
theorem AL.down {r : Res} (k : Nat) (h : AL F P n Q ops l ρ ds base (R.take k ++ (r :: R.drop k))) : AL F P n Q ops l ρ ds base (r :: R) := ⟨fun w hw => h.use w (hw.perm (by
  have := List.perm_middle (a := r) (l₁ := R.take k) (l₂ := R.drop k)
  rwa [List.take_append_drop] at this))⟩
theorem At_loadK {a : Addr} {vs : List Value} {dst : Option Tmp} {t ty : TypeId} {x : Operand} {pos : String} {af : Array Edge} {rest : List Oper} (hF : Wide F) [T : TAgg P t] (hx : xv n ρ x = .pointer (some a)) (hs : vs.length = T.size) (hc : ∀ w, Mem base w R → ∀ j u, vs[j]? = some u → w.cell? (a.add j) = some u) (h : AL F P n Q ops rest (updO ρ dst (.agg vs.toArray)) ds base R) :
    AL F P n Q ops (⟨dst, .load t x, ty, pos, af, none⟩ :: rest) ρ ds base R := ⟨fun w hw => by
  obtain ⟨d, i', hu, hd, hi', hsz⟩ := T.h
  exact XL_load hF hx (loads_agg (cs := vs) hu hd hi' (by omega) (hc w hw)) (h.use w hw)⟩
end
section
variable {F : Fence} {n : Nat} {Q : XW.Post} {ρ : Nat → Value} {ds : List Deferred} {base : World} {R : List Res} {ops : Array Oper}
variable (hF : Wide F) {dst : Option Tmp} {ty : TypeId} {args : Array Operand} {ats : Array TypeId} {pos : String} {af : Array Edge} {rest : List Oper} {T : List Res}
include hF
theorem At_netG {f : FuncId} (hE : Enters Try.prog f) (ha : F.alive = false) (k : Nat) (hT : R.drop k = T) {vs : Array Value} (hv : args.map (xv n ρ) = vs) {Po : Value → List Res → Prop} (hc : ∀ w, Mem base w T → Rets Try.prog f vs w fun u w' => ∃ Rs, Po u Rs ∧ Mem w w' Rs) (h : ∀ u Rs, Po u Rs → AL F Try.prog n Q ops rest (updO ρ dst u) ds base (R.take k ++ (Rs ++ T))) :
    AL F Try.prog n Q ops (⟨dst, .call { callee := .value (.func f), args := args, argTypes := ats }, ty, pos, af, none⟩ :: rest) ρ ds base R :=
  At_callM hF hE ha hv (Post := Po) (fun w hw => hc w (hw.sub (by rw [← hT]; exact List.drop_sublist k R))) (fun u Rs hp => ⟨fun w hw => (h u Rs hp).use w (hw.perm (by
    have e : Rs ++ R = (Rs ++ R.take k) ++ T := by rw [List.append_assoc, ← hT, List.take_append_drop]
    rw [e, ← List.append_assoc]
    exact (List.perm_append_comm).append_right T))⟩)
/-- a net and an error -/
abbrev retN (A : Option Addr) (c : Nat) (B : Option Addr) (d : Nat) (q : List PKT) (a : List (Int × Int)) (e : Int) : Value := .tuple #[.agg #[.slice A q.length c, .slice B a.length d], .int .i64 e]
abbrev retP (p : PKT) (A : Option Addr) (c : Nat) (B : Option Addr) (d : Nat) (q : List PKT) (a : List (Int × Int)) (e : Int) : Value := .tuple #[.agg #[.int .i64 p.f, .int .i64 p.t, .slice p.A p.l p.c], .agg #[.slice A q.length c, .slice B a.length d], .int .i64 e]
theorem At_send (ha : F.alive = false) (k : Nat) (hT : R.drop k = T) (N : NET) (p : PKT) (hv : args.map (xv n ρ) = #[N.v, p.v]) (hN : Kn base T N) (hp : Kp base T p) {q : List PKT} {a : List (Int × Int)} {e : Int} (he : sendF N.q N.a p = ((q, a), e))
    (h : ∀ A c B d T', T.Sublist T' → Kn base T' ⟨A, c, B, d, q, a⟩ → AL F Try.prog n Q ops rest (updO ρ dst (retN A c B d q a e)) ds base (R.take k ++ T')) :
    AL F Try.prog n Q ops (⟨dst, .call { callee := .value (.func 11), args := args, argTypes := ats }, ty, pos, af, none⟩ :: rest) ρ ds base R :=
  At_netG hF E11 ha k hT hv (fun w hw => send_rets N p w (hN w hw) (hp w hw)) (fun u Rs hs => by
    obtain ⟨A, c, B, d, rfl, hk⟩ := snd_up hN hp hs
    rw [he] at hk ⊢
    exact h A c B d _ (List.sublist_append_right _ _) hk)
theorem At_rsend (ha : F.alive = false) (k : Nat) (hT : R.drop k = T) (N : NET) (p : PKT) (hv : args.map (xv n ρ) = #[N.v, p.v]) (hN : Kn base T N) (hp : Kp base T p) {q : List PKT} {a : List (Int × Int)} {e : Int} (he : sendF N.q N.a p = ((q, a), e))
    (h : ∀ A c B d T', T.Sublist T' → Kn base T' ⟨A, c, B, d, q, a⟩ → AL F Try.prog n Q ops rest (updO ρ dst (retN A c B d q a e)) ds base (R.take k ++ T')) :
    AL F Try.prog n Q ops (⟨dst, .call { callee := .value (.func 12), args := args, argTypes := ats }, ty, pos, af, none⟩ :: rest) ρ ds base R :=
  At_netG hF E12 ha k hT hv (fun w hw => rsend_rets N p w (hN w hw) (hp w hw)) (fun u Rs hs => by
    obtain ⟨A, c, B, d, rfl, hk⟩ := rsd_up hN hp hs
    rw [he] at hk ⊢
    exact h A c B d _ (List.sublist_append_right _ _) hk)
theorem At_lose (ha : F.alive = false) (k : Nat) (hT : R.drop k = T) (N : NET) (i : Int) (hv : args.map (xv n ρ) = #[N.v, .int .i64 i]) (hN : Kn base T N) {q : List PKT} {a : List (Int × Int)} {e : Int} (he : losF N.q N.a i = ((q, a), e))
    (h : ∀ A c B d T', T.Sublist T' → Kn base T' ⟨A, c, B, d, q, a⟩ → AL F Try.prog n Q ops rest (updO ρ dst (retN A c B d q a e)) ds base (R.take k ++ T')) :
    AL F Try.prog n Q ops (⟨dst, .call { callee := .value (.func 23), args := args, argTypes := ats }, ty, pos, af, none⟩ :: rest) ρ ds base R :=
  At_netG hF E23 ha k hT hv (fun w hw => lose_rets N i w (hN w hw)) (fun u Rs hs => by
    obtain ⟨A, c, B, d, rfl, hk⟩ := los_up hN (.inl hs)
    rw [he] at hk ⊢
    exact h A c B d _ (List.sublist_append_right _ _) hk)
theorem At_rlose (ha : F.alive = false) (k : Nat) (hT : R.drop k = T) (N : NET) (i : Int) (hv : args.map (xv n ρ) = #[N.v, .int .i64 i]) (hN : Kn base T N) {q : List PKT} {a : List (Int × Int)} {e : Int} (he : losF N.q N.a i = ((q, a), e))
    (h : ∀ A c B d T', T.Sublist T' → Kn base T' ⟨A, c, B, d, q, a⟩ → AL F Try.prog n Q ops rest (updO ρ dst (retN A c B d q a e)) ds base (R.take k ++ T')) :
    AL F Try.prog n Q ops (⟨dst, .call { callee := .value (.func 24), args := args, argTypes := ats }, ty, pos, af, none⟩ :: rest) ρ ds base R :=
  At_netG hF E24 ha k hT hv (fun w hw => rlose_rets N i w (hN w hw)) (fun u Rs hs => by
    obtain ⟨A, c, B, d, rfl, hk⟩ := los_up hN (.inr hs)
    rw [he] at hk ⊢
    exact h A c B d _ (List.sublist_append_right _ _) hk)
theorem At_repeat (ha : F.alive = false) (k : Nat) (hT : R.drop k = T) (N : NET) (i : Int) (hv : args.map (xv n ρ) = #[N.v, .int .i64 i]) (hN : Kn base T N) {q : List PKT} {a : List (Int × Int)} {e : Int} (he : repF N.q N.a i = ((q, a), e))
    (h : ∀ A c B d T', T.Sublist T' → Kn base T' ⟨A, c, B, d, q, a⟩ → AL F Try.prog n Q ops rest (updO ρ dst (retN A c B d q a e)) ds base (R.take k ++ T')) :
    AL F Try.prog n Q ops (⟨dst, .call { callee := .value (.func 25), args := args, argTypes := ats }, ty, pos, af, none⟩ :: rest) ρ ds base R :=
  At_netG hF E25 ha k hT hv (fun w hw => repeat_rets N i w (hN w hw)) (fun u Rs hs => by
    obtain ⟨A, c, B, d, rfl, hk⟩ := rep_up hN (.inl hs)
    rw [he] at hk ⊢
    exact h A c B d _ (List.sublist_append_right _ _) hk)
theorem At_rrepeat (ha : F.alive = false) (k : Nat) (hT : R.drop k = T) (N : NET) (i : Int) (hv : args.map (xv n ρ) = #[N.v, .int .i64 i]) (hN : Kn base T N) {q : List PKT} {a : List (Int × Int)} {e : Int} (he : repF N.q N.a i = ((q, a), e))
    (h : ∀ A c B d T', T.Sublist T' → Kn base T' ⟨A, c, B, d, q, a⟩ → AL F Try.prog n Q ops rest (updO ρ dst (retN A c B d q a e)) ds base (R.take k ++ T')) :
    AL F Try.prog n Q ops (⟨dst, .call { callee := .value (.func 26), args := args, argTypes := ats }, ty, pos, af, none⟩ :: rest) ρ ds base R :=
  At_netG hF E26 ha k hT hv (fun w hw => rrepeat_rets N i w (hN w hw)) (fun u Rs hs => by
    obtain ⟨A, c, B, d, rfl, hk⟩ := rep_up hN (.inr hs)
    rw [he] at hk ⊢
    exact h A c B d _ (List.sublist_append_right _ _) hk)
theorem At_deliver (ha : F.alive = false) (k : Nat) (hT : R.drop k = T) (N : NET) (i : Int) (hv : args.map (xv n ρ) = #[N.v, .int .i64 i]) (hN : Kn base T N) {p : PKT} {q : List PKT} {a : List (Int × Int)} {e : Int} (he : delF N.q N.a i = (p, (q, a), e))
    (h : ∀ A c B d T', T.Sublist T' → Kn base T' ⟨A, c, B, d, q, a⟩ → Kp base T' p → AL F Try.prog n Q ops rest (updO ρ dst (retP p A c B d q a e)) ds base (R.take k ++ T')) :
    AL F Try.prog n Q ops (⟨dst, .call { callee := .value (.func 18), args := args, argTypes := ats }, ty, pos, af, none⟩ :: rest) ρ ds base R :=
  At_netG hF E18 ha k hT hv (fun w hw => deliver_rets N i w (hN w hw)) (fun u Rs hs => by
    obtain ⟨A, c, B, d, rfl, hk, hp⟩ := del_up hN (.inl hs)
    rw [he] at hk hp ⊢
    exact h A c B d _ (List.sublist_append_right _ _) hk hp)
theorem At_rdeliver (ha : F.alive = false) (k : Nat) (hT : R.drop k = T) (N : NET) (i : Int) (hv : args.map (xv n ρ) = #[N.v, .int .i64 i]) (hN : Kn base T N) {p : PKT} {q : List PKT} {a : List (Int × Int)} {e : Int} (he : delF N.q N.a i = (p, (q, a), e))
    (h : ∀ A c B d T', T.Sublist T' → Kn base T' ⟨A, c, B, d, q, a⟩ → Kp base T' p → AL F Try.prog n Q ops rest (updO ρ dst (retP p A c B d q a e)) ds base (R.take k ++ T')) :
    AL F Try.prog n Q ops (⟨dst, .call { callee := .value (.func 22), args := args, argTypes := ats }, ty, pos, af, none⟩ :: rest) ρ ds base R :=
  At_netG hF E22 ha k hT hv (fun w hw => rdeliver_rets N i w (hN w hw)) (fun u Rs hs => by
    obtain ⟨A, c, B, d, rfl, hk, hp⟩ := del_up hN (.inr hs)
    rw [he] at hk hp ⊢
    exact h A c B d _ (List.sublist_append_right _ _) hk hp)
theorem At_cut (ha : F.alive = false) (k : Nat) (hT : R.drop k = T) (N : NET) (x y : Int) (on : Bool) (hv : args.map (xv n ρ) = #[N.v, .int .i64 x, .int .i64 y, .bool on]) (hN : Kn base T N) {q : List PKT} {a : List (Int × Int)} {e : Int} (he : cutF N.q N.a x y on = ((q, a), e))
    (h : ∀ A c B d T', T.Sublist T' → Kn base T' ⟨A, c, B, d, q, a⟩ → AL F Try.prog n Q ops rest (updO ρ dst (retN A c B d q a e)) ds base (R.take k ++ T')) :
    AL F Try.prog n Q ops (⟨dst, .call { callee := .value (.func 20), args := args, argTypes := ats }, ty, pos, af, none⟩ :: rest) ρ ds base R :=
  At_netG hF E20 ha k hT hv (fun w hw => cut_rets N x y on w (hN w hw)) (fun u Rs hs => by
    obtain ⟨A, c, B, d, rfl, hk⟩ := cut_up hN hs
    rw [he] at hk ⊢
    exact h A c B d _ (List.sublist_append_right _ _) hk)
theorem At_rcut (ha : F.alive = false) (k : Nat) (hT : R.drop k = T) (N : NET) (x y : Int) (on : Bool) (hv : args.map (xv n ρ) = #[N.v, .int .i64 x, .int .i64 y, .bool on]) (hN : Kn base T N) {q : List PKT} {a : List (Int × Int)} {e : Int} (he : cutF N.q N.a x y on = ((q, a), e))
    (h : ∀ A c B d T', T.Sublist T' → Kn base T' ⟨A, c, B, d, q, a⟩ → AL F Try.prog n Q ops rest (updO ρ dst (retN A c B d q a e)) ds base (R.take k ++ T')) :
    AL F Try.prog n Q ops (⟨dst, .call { callee := .value (.func 21), args := args, argTypes := ats }, ty, pos, af, none⟩ :: rest) ρ ds base R :=
  At_netG hF E21 ha k hT hv (fun w hw => rcut_rets N x y on w (hN w hw)) (fun u Rs hs => by
    obtain ⟨A, c, B, d, rfl, hk⟩ := cut_up hN hs
    rw [he] at hk ⊢
    exact h A c B d _ (List.sublist_append_right _ _) hk)
end
end Go.Proofs.Ytmilnlcegcdolaa.P
