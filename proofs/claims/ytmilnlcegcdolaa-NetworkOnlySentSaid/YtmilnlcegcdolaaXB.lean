/- My general texts: XDraw XRng XEnd XMapR XAtI XBuild XGrid XDrawW XMisc XNest XGridc. -/
import Derived.Test.YtmilnlcegcdolaaXA
/- A region that draws its order, over holdings: operations that turn no memory first, in whatever order, and others behind them. -/
namespace XW
open Go Go.RowKit RegInv
set_option linter.unusedSimpArgs false
set_option linter.unusedVariables false
set_option linter.unusedSectionVars false

/-- one value, in every world of the kind -/
def QStep (F : Fence) (P : Program) (n : Nat) (ops : Array Oper) (ds : List Deferred) (base : World) (R : List Res) (o : Oper) (ρ : Nat → Value) (v : Value) : Prop :=
  ∀ (K : (Nat → Value) → List Deferred → World → Prop) (Q : Post), At base R (K (updO ρ o.dst v) ds) → AL F P n (Then K Q) ops [o] ρ ds base R
def AQ (F : Fence) (P : Program) (n : Nat) (ops : Array Oper) (ds : List Deferred) (base : World) (R : List Res) : List Oper → (Nat → Value) → ((Nat → Value) → Prop) → Prop
  | [], ρ, K => K ρ
  | o :: rest, ρ, K => ∃ v, QStep F P n ops ds base R o ρ v ∧ AQ F P n ops ds base R rest (updO ρ o.dst v) K

/-- what operation i has behind it, by what it waits for -/
def clo (ops : Array Oper) : Nat → Nat → List Nat
  | 0, _ => []
  | f + 1, i => (deps ops i).flatMap fun j => j :: clo ops f j
def noSD (o : Oper) : Bool := match o.op with
  | .select .. | .defer _ => false
  | _ => true
def drawOk (ops : Array Oper) (m : Nat) : Bool :=
  ordered ops && decide (m ≤ ops.size) && ops.toList.all noSD &&
  ((List.range ops.size).all fun i => decide (i < m) || (List.range i).all fun j => (clo ops ops.size i).contains j) &&
  ((List.range m).all fun i => (List.range m).all fun j => i == j || (match ops[i]?, ops[j]? with
    | some oi, some oj => match oj.dst with
      | some d => (oi.dst != some d) && (!(oi.looksAt ops).contains d || (clo ops ops.size i).contains j)
      | none => true
    | _, _ => false))

section
variable {F : Fence} {P : Program} {n : Nat} {Q : Post} {ρ : Nat → Value} {ds : List Deferred} {w base : World} {R : List Res} {ops : Array Oper}

theorem clo_done {b : Nat → Bool} (hc : ∀ i', b i' = true → ∀ j ∈ deps ops i', b j = true) : ∀ (f i : Nat), (∀ j ∈ deps ops i, b j = true) → ∀ j ∈ clo ops f i, b j = true
  | 0, _, _, j, h => by cases h
  | f + 1, i, hi, j, h => by
    obtain ⟨a, ha, hj⟩ := List.mem_flatMap.1 h
    rcases List.mem_cons.1 hj with rfl | hj
    · exact hi _ ha
    · exact clo_done hc f a (hc a (hi a ha)) j hj

/-- the frame behind the first operations, with their values -/
def lex (val : Nat → Value) : List Oper → Nat → (Nat → Value) → Nat → Value
  | [], _, ρ => ρ
  | o :: l, k, ρ => lex val l (k + 1) (updO ρ o.dst (val k))
theorem lex_congr {val val' : Nat → Value} : ∀ (l : List Oper) (k : Nat) (ρ : Nat → Value), (∀ i, k ≤ i → i < k + l.length → val i = val' i) → lex val l k ρ = lex val' l k ρ
  | [], _, _, _ => rfl
  | o :: l, k, ρ, h => by
    simp only [lex]
    rw [h k (Nat.le_refl _) (by simp), lex_congr l (k + 1) _ (fun i h1 h2 => h i (by omega) (by simp; omega))]
theorem AQ_vals : ∀ (l : List Oper) (k : Nat) (ρ : Nat → Value) (K : (Nat → Value) → Prop), AQ F P n ops ds base R l ρ K →
    ∃ val : Nat → Value, (∀ i o, l[i]? = some o → QStep F P n ops ds base R o (lex val (l.take i) k ρ) (val (k + i))) ∧ K (lex val l k ρ)
  | [], k, ρ, K, h => ⟨fun _ => undef, fun i o h => by simp at h, h⟩
  | o :: l, k, ρ, K, ⟨v, hq, h⟩ => by
    obtain ⟨val, h1, h2⟩ := AQ_vals l (k + 1) _ K h
    have hc : ∀ (l' : List Oper) (ρ' : Nat → Value), lex (fun i => if i = k then v else val i) l' (k + 1) ρ' = lex val l' (k + 1) ρ' := fun l' ρ' => lex_congr l' (k + 1) ρ' (fun i h1 h2 => by show (if i = k then v else val i) = val i; rw [if_neg (by omega)])
    refine ⟨fun i => if i = k then v else val i, ?_, ?_⟩
    · intro i o' hi
      cases i with
      | zero =>
        obtain rfl : o = o' := by simpa using hi
        simpa [lex] using hq
      | succ i =>
        have := h1 i o' (by simpa using hi)
        simp only [List.take_succ_cons, lex, if_true]
        rw [hc, if_neg (by omega), show k + (i + 1) = k + 1 + i by omega]
        exact this
    · simp only [lex, if_true]
      rw [hc]; exact h2
theorem lex_at (val : Nat → Value) : ∀ (l : List Oper) (k : Nat) (ρ : Nat → Value), (∀ (i j : Nat) (oi oj : Oper) (d : Nat), l[i]? = some oi → l[j]? = some oj → oi.dst = some d → oj.dst = some d → i = j) →
    (∀ (i : Nat) (o : Oper) (d : Nat), l[i]? = some o → o.dst = some d → lex val l k ρ d = val (k + i)) ∧ ∀ t : Nat, (∀ (i : Nat) (o : Oper), l[i]? = some o → o.dst ≠ some t) → lex val l k ρ t = ρ t
  | [], k, ρ, _ => ⟨fun i o d h => by simp at h, fun t h => rfl⟩
  | o :: l, k, ρ, hd => by
    obtain ⟨h1, h2⟩ := lex_at val l (k + 1) (updO ρ o.dst (val k)) (fun i j oi oj d hi hj => by
      intro e1 e2
      have := hd (i + 1) (j + 1) oi oj d (by simpa using hi) (by simpa using hj) e1 e2
      omega)
    constructor
    · intro i o' d hi ho
      cases i with
      | zero =>
        obtain rfl : o = o' := by simpa using hi
        simp only [lex]
        rw [h2 d (fun j oj hj e => by
          have := hd 0 (j + 1) o oj d (by simp) (by simpa using hj) ho e
          omega), ho]
        simp [updO, upd]
      | succ i =>
        have := h1 i o' d (by simpa using hi) ho
        simp only [lex]
        rw [this]; congr 1; omega
    · intro t ht
      simp only [lex]
      rw [h2 t (fun i o' hi => ht (i + 1) o' (by simpa using hi))]
      have := ht 0 o (by simp)
      cases hdo : o.dst with
      | none => rfl
      | some d =>
        simp only [updO, upd]
        rw [if_neg (fun e => this (by rw [hdo, e]))]

theorem fr_inj {ρ' : Nat → Value} {ds' : List Deferred} (h : fr n ρ ds = fr n ρ' ds') : (∀ t, t < n → ρ t = ρ' t) ∧ ds = ds' := by
  have h1 := congrArg Act.tmps h
  have h2 := congrArg Act.defers h
  refine ⟨fun t ht => ?_, h2⟩
  have : (fr n ρ ds).tmps[t]? = (fr n ρ' ds').tmps[t]? := by rw [h]
  rw [fr_get ht, show (fr n ρ' ds').tmps[t]? = some (ρ' t) from fr_get ht] at this
  exact Option.some.inj this
theorem fr_eq {ρ' : Nat → Value} (h : ∀ t, t < n → ρ t = ρ' t) : fr n ρ ds = fr n ρ' ds := by
  simp only [fr]
  congr 2
  exact List.map_congr_left fun t ht => h t (by simpa using ht)

/-- operation o comes up in a frame that is as the told one where o looks -/
theorem qstep_run (hF : Wide F) {o : Oper} {i : Nat} (ho : ops[i]? = some o) (hnd : noSD o = true) {ρ1 ρ2 : Nat → Value} {v : Value} (hq : QStep F P n ops ds base R o ρ1 v) (hag : ∀ d ∈ o.looksAt ops, d < n → ρ1 d = ρ2 d) (hw : Mem base w R) {Q' : Exit → Act → World → Prop} {K' : Act → World → Prop}
    (hK : ∀ w', Mem base w' R → K' (fr n (updO ρ2 o.dst v) ds) w') : wpOpIn F 0 P ops Q' i K' (fr n ρ2 ds) w := by
  have hsel : ∀ cs b, o.op ≠ .select cs b := fun cs b e => by unfold noSD at hnd; rw [e] at hnd; cases hnd
  have hdef : ∀ c, o.op ≠ .defer c := fun c e => by unfold noSD at hnd; rw [e] at hnd; cases hnd
  have hrun := (hq (fun ρ ds' w' => fr n ρ ds' = fr n (updO ρ1 o.dst v) ds ∧ Mem base w' R) (fun _ _ _ _ => False) (fun w' hw' => ⟨rfl, hw'⟩)).use w hw
  have hev : ∀ x ∈ o.op.operands, (fr n ρ1 ds).eval x = (fr n ρ2 ds).eval x := by
    intro x hx
    rw [eval_fr, eval_fr]
    cases x with
    | tmp t =>
      simp only [xv]
      by_cases h : t < n
      · rw [if_pos h, if_pos h]
        exact hag t (List.mem_append_left _ (List.mem_filterMap.2 ⟨.tmp t, by simpa using hx, rfl⟩)) h
      · rw [if_neg h, if_neg h]
    | _ => rfl
  have hwa : Region.wanted o (yielded ops (fr n ρ1 ds).tmps) = Region.wanted o (yielded ops (fr n ρ2 ds).tmps) := by
    unfold Region.wanted
    cases hg : o.guard with
    | none => rfl
    | some gw =>
      obtain ⟨g, want⟩ := gw
      have hy : yielded ops (fr n ρ1 ds).tmps g = yielded ops (fr n ρ2 ds).tmps g := by
        unfold yielded
        cases ht : (ops[g]?).bind (·.dst) with
        | none => rfl
        | some t =>
          by_cases h : t < n
          · have := hag t (List.mem_append_right _ (by simp [hg, ht])) h
            have e0 : (fr n ρ1 ds).tmps[t]? = (fr n ρ2 ds).tmps[t]? := by rw [fr_get (ρ := ρ1) (ds := ds) h, fr_get (ρ := ρ2) (ds := ds) h, this]
            simp only [Option.bind_some, e0]
          · have e1 : (fr n ρ1 ds).tmps[t]? = none := Array.getElem?_eq_none (by rw [fr_size]; exact Nat.le_of_not_lt h)
            have e2 : (fr n ρ2 ds).tmps[t]? = none := Array.getElem?_eq_none (by rw [fr_size]; exact Nat.le_of_not_lt h)
            simp only [Option.bind_some, e1, e2]
      simp only [hy]
  have hab : o.about P w (fr n ρ1 ds).eval = o.about P w (fr n ρ2 ds).eval := about_congr o w hev
  have hex : ∀ ro, o.semAt ro (fr n ρ1 ds).eval = o.semAt ro (fr n ρ2 ds).eval := fun ro => by rw [Oper.semAt_eq _ _ _ hdef, Oper.semAt_eq _ _ _ hdef]; exact execOp_congr o hsel hev
  have hput : ∀ v' w' (a' : Act), a' = fr n (updO ρ1 o.dst v') ds → wpListIn F 0 P ops (lift n (Then (fun ρ ds' w' => fr n ρ ds' = fr n (updO ρ1 o.dst v) ds ∧ Mem base w' R) (fun _ _ _ _ => False))) [] a' w' → K' ((fr n ρ2 ds).put o.dst v') w' := by
    rintro v' w' a' rfl ⟨ρ', ds', e1, e2, e3⟩
    have e := e1.trans e2
    rw [put_fr]
    have : fr n (updO ρ2 o.dst v') ds = fr n (updO ρ2 o.dst v) ds := by
      refine fr_eq fun t ht => ?_
      cases hd : o.dst with
      | none => rfl
      | some d =>
        simp only [updO, upd]
        by_cases htd : t = d
        · subst htd
          rw [if_pos rfl, if_pos rfl]
          have := (fr_inj e).1 t ht
          simpa [hd, updO, upd] using this
        · rw [if_neg htd, if_neg htd]
    rw [this]; exact hK w' e3
  have hrun' : wpListIn F 0 P ops (lift n (Then (fun ρ ds' w' => fr n ρ ds' = fr n (updO ρ1 o.dst v) ds ∧ Mem base w' R) (fun _ _ _ _ => False))) [o] (fr n ρ1 ds) w := hrun
  unfold wpOpIn
  rw [ho]
  simp only
  unfold wpListIn at hrun'
  rw [hwa] at hrun'
  split
  · rename_i hw'
    rw [if_pos hw'] at hrun'
    unfold Oper.wpIn at hrun' ⊢
    rw [hab, hex] at hrun'
    refine ⟨hrun'.1, ?_⟩
    have h2 := hrun'.2
    generalize (o.semAt F.round (fr n ρ2 ds).eval).run P w = r at h2 ⊢
    cases r with
    | ok x w' =>
      cases x <;> simp only [Oper.uponIn] at h2 ⊢
      case value u => exact hput u w' _ (put_fr ..) h2
      case skip => exact hput undef w' _ (put_fr ..) h2
      case enter f args =>
        refine ⟨h2.1, CallsIn.mono h2.2 fun e w'' he => ?_⟩
        cases e with
        | returned u => exact hput u w'' _ (put_fr ..) he
        | panicked ch => obtain ⟨_, _, _, hf⟩ := he; exact hf.elim
        | outgrown => obtain ⟨_, _, _, _, _, hf⟩ := he; exact hf.elim
      case row row args => exact ⟨h2.1, RowsIn.mono h2.2 fun u w'' he => hput u w'' _ (put_fr ..) he⟩
      case round l f tmps assign body =>
        refine ⟨h2.1, RoundIn.mono h2.2 fun e w'' he => ?_⟩
        cases e with
        | returned u => exact hput u w'' _ (put_fr ..) he
        | panicked ch => obtain ⟨_, _, _, hf⟩ := he; exact hf.elim
        | outgrown => obtain ⟨_, _, _, _, _, hf⟩ := he; exact hf.elim
      case defer d =>
        obtain ⟨ρ', ds', e1, e2, e3⟩ := h2
        have := congrArg Act.defers (e1.trans e2)
        have hl := congrArg List.length this
        exfalso
        cases hd : o.dst <;> rw [hd] at hl <;> simp [Act.put, fr] at hl
    | halt x w' =>
      cases x <;> simp only [Oper.uponIn] at h2 ⊢
      case panic u => obtain ⟨_, _, _, hf⟩ := h2; exact hf.elim
  · rename_i hw'
    rw [if_neg hw'] at hrun'
    rw [hab] at hrun'
    exact ⟨hrun'.1, hput undef w _ (put_fr ..) hrun'.2⟩

/-- THE RULE. -/
theorem At_draw (hF : Wide F) {id : Nat} {l : List Oper} (m : Nat) (hm : P.follows .mixedOrders = true) (hck : drawOk l.toArray m = true)
    (hq : AQ F P n l.toArray ds base R (l.take m) ρ (fun ρ' => AL F P n Q l.toArray (l.drop m) ρ' ds base R)) : At base R (X F P n Q (.region id l.toArray true) ρ ds) := fun w hw => by
  obtain ⟨val, hval, hend⟩ := AQ_vals (l.take m) 0 ρ _ hq
  simp only [drawOk, Bool.and_eq_true, List.all_eq_true, List.mem_range, decide_eq_true_eq, Bool.or_eq_true, List.contains_iff_mem] at hck
  obtain ⟨⟨⟨⟨hor, hms⟩, hno⟩, hlate⟩, hpair⟩ := hck
  have hms' : m ≤ l.length := by simpa using hms
  have hlen : (l.take m).length = m := by simp [hms']
  have hget : ∀ i, i < m → (l.take m)[i]? = l[i]? := fun i hi => by rw [List.getElem?_take, if_pos hi]
  have hpr : ∀ (i j : Nat) (oi oj : Oper) (d : Nat), i < m → j < m → i ≠ j → l[i]? = some oi → l[j]? = some oj → oj.dst = some d → oi.dst ≠ some d ∧ (d ∈ oi.looksAt l.toArray → j ∈ clo l.toArray l.length i) := by
    intro i j oi oj d hi hj hij h1 h2 h3
    have := hpair i hi j hj
    simp only [List.getElem?_toArray, h1, h2, h3] at this
    rcases this with h | h
    · exact absurd (by simpa using h) hij
    · simp only [Bool.and_eq_true, bne_iff_ne, ne_eq, Bool.or_eq_true, Bool.not_eq_true', List.contains_iff_mem] at h
      refine ⟨h.1, fun hd => ?_⟩
      rcases h.2 with h4 | h4
      · exfalso
        have : (oi.looksAt l.toArray).contains d = true := by simpa using hd
        rw [this] at h4; cases h4
      · simpa using h4
  have hdist : ∀ (k : Nat), k ≤ m → ∀ (i j : Nat) (oi oj : Oper) (d : Nat), (l.take k)[i]? = some oi → (l.take k)[j]? = some oj → oi.dst = some d → oj.dst = some d → i = j := by
    intro k hk i j oi oj d h1 h2 h3 h4
    have hik : i < k := by have := (List.getElem?_eq_some_iff.1 h1).1; simp at this; omega
    have hjk : j < k := by have := (List.getElem?_eq_some_iff.1 h2).1; simp at this; omega
    rw [List.getElem?_take, if_pos hik] at h1
    rw [List.getElem?_take, if_pos hjk] at h2
    by_cases e : i = j
    · exact e
    · exact absurd h3 (hpr i j oi oj d (by omega) (by omega) e h1 h2 h4).1
  refine region_inv hm hor (fun b a w => (∀ i', b i' = true → ∀ j ∈ deps l.toArray i', b j = true) ∧
    ((∃ ρ', a = fr n ρ' ds ∧ (∀ i, m ≤ i → b i = false) ∧ Mem base w R ∧ (∀ (i : Nat) (o : Oper) (d : Nat), i < m → l[i]? = some o → o.dst = some d → b i = true → ρ' d = val i) ∧ (∀ t : Nat, (∀ (i : Nat) (o : Oper), i < m → l[i]? = some o → b i = true → o.dst ≠ some t) → ρ' t = ρ t)) ∨
     ∃ k : Nat, m ≤ k ∧ (∀ i, i < l.length → (b i = true ↔ i < k + 1)) ∧ wpListIn F 0 P l.toArray (lift n Q) (l.drop (k + 1)) a w)) ?_ ?_ ?_
  · exact ⟨fun i h => (by cases h), .inl ⟨ρ, rfl, fun _ _ => rfl, hw.drewN 1, fun i o d _ _ _ h => (by cases h), fun _ _ => rfl⟩⟩
  · rintro i hi b a w ⟨hcl, hI⟩ hbi hd
    have hi' : i < l.length := by simpa using hi
    have hcl' : ∀ i', upb b i i' = true → ∀ j ∈ deps l.toArray i', upb b i j = true := by
      intro i' h' j hj
      rcases upb_or h' with rfl | ⟨_, h'⟩
      · have hne : j ≠ i' := by rintro rfl; rw [hd _ hj] at hbi; cases hbi
        rw [upb_ne hne]; exact hd j hj
      · have := hcl i' h' j hj
        by_cases e : j = i
        · rw [e, upb_self]
        · rw [upb_ne e]; exact this
    have hcd := clo_done hcl l.length i hd
    obtain ⟨o, ho⟩ : ∃ o, l[i]? = some o := ⟨_, List.getElem?_eq_getElem hi'⟩
    have ho' : l.toArray[i]? = some o := by simpa using ho
    have hnd : noSD o = true := hno o (by simpa using List.mem_of_getElem? ho)
    have hlt : ∀ j, m ≤ i → j < i → b j = true := fun j hmi hji => by
      rcases hlate i hi with h | h
      · omega
      · exact hcd j (by simpa using h j hji)
    rcases hI with ⟨ρ', rfl, hb0, hmem, hv1, hv2⟩ | ⟨k, hk, hbk, hx⟩
    · by_cases him : i < m
      · -- a quiet one
        have hqi := hval i o (by rw [hget i him]; exact ho)
        rw [Nat.zero_add] at hqi
        have hla := lex_at val ((l.take m).take i) 0 ρ (by
          rw [List.take_take, Nat.min_eq_left (Nat.le_of_lt him)]
          exact hdist i (Nat.le_of_lt him))
        have hgi : ∀ j, j < i → ((l.take m).take i)[j]? = l[j]? := fun j hj => by rw [List.getElem?_take, if_pos hj, hget j (by omega)]
        have hgn : ∀ j o, ((l.take m).take i)[j]? = some o → j < i ∧ l[j]? = some o := fun j o h => by
          have hj : j < i := by have := (List.getElem?_eq_some_iff.1 h).1; simp at this; omega
          exact ⟨hj, by rw [← hgi j hj]; exact h⟩
        refine qstep_run hF ho' hnd hqi (fun d hdl hdn => ?_) hmem (fun w' hw' => ⟨hcl', .inl ⟨_, rfl, fun i' h' => ?_, hw', ?_, ?_⟩⟩)
        · -- they agree where o looks
          by_cases hw : ∃ j oj, j < m ∧ l[j]? = some oj ∧ oj.dst = some d ∧ j ≠ i
          · obtain ⟨j, oj, hj, hoj, hdj, hji⟩ := hw
            have hc := (hpr i j o oj d him hj (fun e => hji e.symm) ho hoj hdj).2 hdl
            have hbj := hcd j hc
            rw [hv1 j oj d hj hoj hdj hbj]
            have hjl : j < i := by
              -- what is behind i is before it
              have : ∀ (f a : Nat), a < l.length → ∀ x ∈ clo l.toArray f a, x < a := by
                intro f
                induction f with
                | zero => intro a _ x hx; cases hx
                | succ f ih =>
                  intro a ha x hx
                  obtain ⟨y, hy, hx⟩ := List.mem_flatMap.1 hx
                  have h1 : y < a := by
                    have h := List.all_eq_true.1 hor a (List.mem_range.2 (by simpa using ha))
                    simpa using List.all_eq_true.1 h y hy
                  rcases List.mem_cons.1 hx with rfl | hx
                  · exact h1
                  · have := ih y (by omega) x hx; omega
              exact this _ i hi' j hc
            have := hla.1 j oj d (by rw [hgi j hjl]; exact hoj) hdj
            rw [this, Nat.zero_add]
          · have hn1 : ∀ (j : Nat) (o' : Oper), ((l.take m).take i)[j]? = some o' → o'.dst ≠ some d := fun j o' h e => by
              obtain ⟨h1, h2⟩ := hgn j o' h
              exact hw ⟨j, o', by omega, h2, e, by omega⟩
            rw [hla.2 d hn1]
            symm
            refine hv2 d (fun j o' hj hoj hbj e => hw ⟨j, o', hj, hoj, e, fun e' => ?_⟩)
            rw [e', hbi] at hbj; cases hbj
        · rw [upb_ne (by omega)]; exact hb0 i' h'
        · intro j oj d hj hoj hdj hbj
          by_cases e : j = i
          · subst e
            rw [ho] at hoj; cases hoj
            rw [hdj]; simp [updO, upd]
          · rw [upb_ne e] at hbj
            have hne := (hpr i j o oj d him hj (fun e' => e e'.symm) ho hoj hdj).1
            have : updO ρ' o.dst (val i) d = ρ' d := by
              cases hdo : o.dst with
              | none => rfl
              | some d' => simp only [updO, upd]; rw [if_neg (fun e' => hne (by rw [hdo, e']))]
            rw [this]; exact hv1 j oj d hj hoj hdj hbj
        · intro t ht
          have h1 : o.dst ≠ some t := ht i o him ho (upb_self b i)
          have : updO ρ' o.dst (val i) t = ρ' t := by
            cases hdo : o.dst with
            | none => rfl
            | some d' => simp only [updO, upd]; rw [if_neg (fun e' => h1 (by rw [hdo, e']))]
          rw [this]
          refine hv2 t (fun j oj hj hoj hbj => ht j oj hj hoj ?_)
          by_cases e : j = i
          · rw [e, upb_self]
          · rw [upb_ne e]; exact hbj
      · -- the first of the later ones
        have him' : i = m := by
          rcases Nat.lt_or_ge m i with h | h
          · have := hlt m (by omega) h
            rw [hb0 m (Nat.le_refl _)] at this; cases this
          · omega
        subst him'
        have hall : ∀ j, j < i → b j = true := fun j hj => hlt j (Nat.le_refl _) hj
        have hla := lex_at val (l.take i) 0 ρ (hdist i (Nat.le_refl _))
        have hρ : lex val (l.take i) 0 ρ = ρ' := by
          funext t
          by_cases hw : ∃ j oj, j < i ∧ l[j]? = some oj ∧ oj.dst = some t
          · obtain ⟨j, oj, hj, hoj, hdj⟩ := hw
            rw [hla.1 j oj t (by rw [hget j hj]; exact hoj) hdj, Nat.zero_add, hv1 j oj t hj hoj hdj (hall j hj)]
          · rw [hla.2 t (fun j oj h e => by
              have hj : j < i := by have := (List.getElem?_eq_some_iff.1 h).1; simp at this; omega
              exact hw ⟨j, oj, hj, by rw [← hget j hj]; exact h, e⟩)]
            exact (hv2 t (fun j oj hj hoj _ e => hw ⟨j, oj, hj, hoj, e⟩)).symm
        rw [hρ] at hend
        have hx : wpListIn F 0 P l.toArray (lift n Q) (l.drop i) (fr n ρ' ds) w := hend.use w hmem
        have hdrop : l.drop i = o :: l.drop (i + 1) := by
          rw [List.drop_eq_getElem_cons hi']
          have : l[i] = o := (List.getElem?_eq_some_iff.1 ho).2
          rw [this]
        rw [hdrop] at hx
        have hnext : ∀ a' w', wpListIn F 0 P l.toArray (lift n Q) (l.drop (i + 1)) a' w' → (∀ i', upb b i i' = true → ∀ j ∈ deps l.toArray i', upb b i j = true) ∧
            ((∃ ρ'_1, a' = fr n ρ'_1 ds ∧ (∀ i_1, i ≤ i_1 → upb b i i_1 = false) ∧ Mem base w' R ∧ (∀ (i_1 : Nat) (o : Oper) (d : Nat), i_1 < i → l[i_1]? = some o → o.dst = some d → upb b i i_1 = true → ρ'_1 d = val i_1) ∧ (∀ t : Nat, (∀ (i_1 : Nat) (o : Oper), i_1 < i → l[i_1]? = some o → upb b i i_1 = true → o.dst ≠ some t) → ρ'_1 t = ρ t)) ∨
              ∃ k, i ≤ k ∧ (∀ i_1, i_1 < l.length → (upb b i i_1 = true ↔ i_1 < k + 1)) ∧ wpListIn F 0 P l.toArray (lift n Q) (l.drop (k + 1)) a' w') := by
          intro a' w' h
          refine ⟨hcl', .inr ⟨i, Nat.le_refl _, fun j hj => ?_, h⟩⟩
          by_cases e : j = i
          · subst e; simp [upb_self]
          · rw [upb_ne e]
            by_cases hji : j < i
            · simp [hall j hji]; omega
            · rw [hb0 j (by omega)]; simp; omega
        unfold wpOpIn
        rw [ho']
        simp only
        unfold wpListIn at hx
        split
        · rename_i hw'
          rw [if_pos hw'] at hx
          exact Oper.wpIn_mono hnext hx
        · rename_i hw'
          rw [if_neg hw'] at hx
          exact ⟨hx.1, hnext _ _ hx.2⟩
    · -- a later one
      have hik : i = k + 1 := by
        have h1 : ¬ i < k + 1 := fun h => by
          have := (hbk i hi').2 h
          rw [hbi] at this; cases this
        rcases Nat.lt_or_ge (k + 1) i with h | h
        · have := hlt (k + 1) (by omega) h
          have := (hbk (k + 1) (by omega)).1 this
          omega
        · omega
      subst hik
      have hdrop : l.drop (k + 1) = o :: l.drop (k + 1 + 1) := by
        rw [List.drop_eq_getElem_cons hi']
        have : l[k + 1] = o := (List.getElem?_eq_some_iff.1 ho).2
        rw [this]
      rw [hdrop] at hx
      have hnext : ∀ a' w', wpListIn F 0 P l.toArray (lift n Q) (l.drop (k + 1 + 1)) a' w' → (∀ i', upb b (k + 1) i' = true → ∀ j ∈ deps l.toArray i', upb b (k + 1) j = true) ∧
          ((∃ ρ', a' = fr n ρ' ds ∧ (∀ i, m ≤ i → upb b (k + 1) i = false) ∧ Mem base w' R ∧ (∀ (i : Nat) (o : Oper) (d : Nat), i < m → l[i]? = some o → o.dst = some d → upb b (k + 1) i = true → ρ' d = val i) ∧ (∀ t : Nat, (∀ (i : Nat) (o : Oper), i < m → l[i]? = some o → upb b (k + 1) i = true → o.dst ≠ some t) → ρ' t = ρ t)) ∨
            ∃ k_1, m ≤ k_1 ∧ (∀ i, i < l.length → (upb b (k + 1) i = true ↔ i < k_1 + 1)) ∧ wpListIn F 0 P l.toArray (lift n Q) (l.drop (k_1 + 1)) a' w') := by
        intro a' w' h
        refine ⟨hcl', .inr ⟨k + 1, by omega, fun j hj => ?_, h⟩⟩
        by_cases e : j = k + 1
        · subst e; simp [upb_self]
        · rw [upb_ne e, hbk j hj]; omega
      unfold wpOpIn
      rw [ho']
      simp only
      unfold wpListIn at hx
      split
      · rename_i hw'
        rw [if_pos hw'] at hx
        exact Oper.wpIn_mono hnext hx
      · rename_i hw'
        rw [if_neg hw'] at hx
        exact ⟨hx.1, hnext _ _ hx.2⟩
  · rintro b a w hall ⟨_, hI⟩
    rcases hI with ⟨ρ', rfl, hb0, hmem, hv1, hv2⟩ | ⟨k, hk, hbk, hx⟩
    · have hml : m = l.length := by
        rcases Nat.lt_or_ge m l.length with h | h
        · have := hall m (by simpa using h)
          rw [hb0 m (Nat.le_refl _)] at this; cases this
        · omega
      have hla := lex_at val (l.take m) 0 ρ (hdist m (Nat.le_refl _))
      have hρ : lex val (l.take m) 0 ρ = ρ' := by
        funext t
        by_cases hw : ∃ j oj, j < m ∧ l[j]? = some oj ∧ oj.dst = some t
        · obtain ⟨j, oj, hj, hoj, hdj⟩ := hw
          rw [hla.1 j oj t (by rw [hget j hj]; exact hoj) hdj, Nat.zero_add, hv1 j oj t hj hoj hdj (hall j (by simp; omega))]
        · rw [hla.2 t (fun j oj h e => by
            have hj : j < m := by have := (List.getElem?_eq_some_iff.1 h).1; simp at this; omega
            exact hw ⟨j, oj, hj, by rw [← hget j hj]; exact h, e⟩)]
          exact (hv2 t (fun j oj hj hoj _ e => hw ⟨j, oj, hj, hoj, e⟩)).symm
      rw [hρ] at hend
      have hx : wpListIn F 0 P l.toArray (lift n Q) (l.drop m) (fr n ρ' ds) w := hend.use w hmem
      rw [List.drop_of_length_le (by omega)] at hx
      exact hx
    · have : l.length ≤ k + 1 := by
        rcases Nat.lt_or_ge (k + 1) l.length with h | h
        · have := (hbk (k + 1) h).1 (hall (k + 1) (by simpa using h))
          omega
        · exact h
      rw [List.drop_of_length_le this] at hx
      exact hx
theorem AQ_cons {o : Oper} {rest : List Oper} {K : (Nat → Value) → Prop} {v : Value} (hs : ∀ (K : (Nat → Value) → List Deferred → World → Prop) (Q : Post), At base R (K (updO ρ o.dst v) ds) → AL F P n (Then K Q) ops [o] ρ ds base R) (h : AQ F P n ops ds base R rest (updO ρ o.dst v) K) : AQ F P n ops ds base R (o :: rest) ρ K := ⟨v, hs, h⟩
theorem AQ_done {l2 : List Oper} (h : AL F P n Q ops l2 ρ ds base R) : AQ F P n ops ds base R [] ρ (fun ρ' => AL F P n Q ops l2 ρ' ds base R) := h
theorem At_nilK {K : (Nat → Value) → List Deferred → World → Prop} (h : At base R (K ρ ds)) : AL F P n (Then K Q) ops [] ρ ds base R := At_nil h
theorem is_load {dst : Option Tmp} {ty : TypeId} {pos : String} {af : Array Edge} {rest : List Oper} {t : TypeId} {x : Operand} (h : AL F P n Q ops (⟨dst, .load t x, ty, pos, af, none⟩ :: rest) ρ ds base R) : AL F P n Q ops (⟨dst, .load t x, ty, pos, af, none⟩ :: rest) ρ ds base R := h
theorem is_store {dst : Option Tmp} {ty : TypeId} {pos : String} {af : Array Edge} {rest : List Oper} {t : TypeId} {x y : Operand} (h : AL F P n Q ops (⟨dst, .store t x y, ty, pos, af, none⟩ :: rest) ρ ds base R) : AL F P n Q ops (⟨dst, .store t x y, ty, pos, af, none⟩ :: rest) ρ ds base R := h
theorem is_bin {dst : Option Tmp} {ty : TypeId} {pos : String} {af : Array Edge} {rest : List Oper} {bo : BinOp} {t t' : TypeId} {x y : Operand} (h : AL F P n Q ops (⟨dst, .binOp bo t x y t', ty, pos, af, none⟩ :: rest) ρ ds base R) : AL F P n Q ops (⟨dst, .binOp bo t x y t', ty, pos, af, none⟩ :: rest) ρ ds base R := h
theorem is_field {dst : Option Tmp} {ty : TypeId} {pos : String} {af : Array Edge} {rest : List Oper} {t : TypeId} {x : Operand} {j : Nat} (h : AL F P n Q ops (⟨dst, .fieldAddr t x j, ty, pos, af, none⟩ :: rest) ρ ds base R) : AL F P n Q ops (⟨dst, .fieldAddr t x j, ty, pos, af, none⟩ :: rest) ρ ds base R := h
theorem is_index {dst : Option Tmp} {ty : TypeId} {pos : String} {af : Array Edge} {rest : List Oper} {t : TypeId} {x y : Operand} (h : AL F P n Q ops (⟨dst, .indexAddr t x y, ty, pos, af, none⟩ :: rest) ρ ds base R) : AL F P n Q ops (⟨dst, .indexAddr t x y, ty, pos, af, none⟩ :: rest) ρ ds base R := h
theorem is_alloc {dst : Option Tmp} {ty : TypeId} {pos : String} {af : Array Edge} {rest : List Oper} {t : TypeId} (h : AL F P n Q ops (⟨dst, .alloc t, ty, pos, af, none⟩ :: rest) ρ ds base R) : AL F P n Q ops (⟨dst, .alloc t, ty, pos, af, none⟩ :: rest) ρ ds base R := h
theorem is_box {dst : Option Tmp} {ty : TypeId} {pos : String} {af : Array Edge} {rest : List Oper} {t : TypeId} {x : Operand} (h : AL F P n Q ops (⟨dst, .box t x, ty, pos, af, none⟩ :: rest) ρ ds base R) : AL F P n Q ops (⟨dst, .box t x, ty, pos, af, none⟩ :: rest) ρ ds base R := h
theorem is_build {dst : Option Tmp} {ty : TypeId} {pos : String} {af : Array Edge} {rest : List Oper} {t : TypeId} {ps : Array (Nat × Operand)} (h : AL F P n Q ops (⟨dst, .build t ps, ty, pos, af, none⟩ :: rest) ρ ds base R) : AL F P n Q ops (⟨dst, .build t ps, ty, pos, af, none⟩ :: rest) ρ ds base R := h
theorem is_call {dst : Option Tmp} {ty : TypeId} {pos : String} {af : Array Edge} {rest : List Oper} {c : Call} (h : AL F P n Q ops (⟨dst, .call c, ty, pos, af, none⟩ :: rest) ρ ds base R) : AL F P n Q ops (⟨dst, .call c, ty, pos, af, none⟩ :: rest) ρ ds base R := h
theorem is_move {dst : Option Tmp} {ty : TypeId} {pos : String} {af : Array Edge} {rest : List Oper} {x : Operand} (h : AL F P n Q ops (⟨dst, .move x, ty, pos, af, none⟩ :: rest) ρ ds base R) : AL F P n Q ops (⟨dst, .move x, ty, pos, af, none⟩ :: rest) ρ ds base R := h
theorem is_assign {dst : Option Tmp} {ty : TypeId} {pos : String} {af : Array Edge} {rest : List Oper} {x : Operand} (h : AL F P n Q ops (⟨dst, .assign x, ty, pos, af, none⟩ :: rest) ρ ds base R) : AL F P n Q ops (⟨dst, .assign x, ty, pos, af, none⟩ :: rest) ρ ds base R := h
theorem is_pick {dst : Option Tmp} {ty : TypeId} {pos : String} {af : Array Edge} {rest : List Oper} {x y z : Operand} (h : AL F P n Q ops (⟨dst, .pick x y z, ty, pos, af, none⟩ :: rest) ρ ds base R) : AL F P n Q ops (⟨dst, .pick x y z, ty, pos, af, none⟩ :: rest) ρ ds base R := h
theorem is_extract {dst : Option Tmp} {ty : TypeId} {pos : String} {af : Array Edge} {rest : List Oper} {x : Operand} {j : Nat} (h : AL F P n Q ops (⟨dst, .extract x j, ty, pos, af, none⟩ :: rest) ρ ds base R) : AL F P n Q ops (⟨dst, .extract x j, ty, pos, af, none⟩ :: rest) ρ ds base R := h
theorem is_func {dst : Option Tmp} {ty : TypeId} {pos : String} {af : Array Edge} {rest : List Oper} {fn : Fn} {fi ca : Array Operand} (h : AL F P n Q ops (⟨dst, .makeFunc fn fi ca, ty, pos, af, none⟩ :: rest) ρ ds base R) : AL F P n Q ops (⟨dst, .makeFunc fn fi ca, ty, pos, af, none⟩ :: rest) ρ ds base R := h
theorem is_un {dst : Option Tmp} {ty : TypeId} {pos : String} {af : Array Edge} {rest : List Oper} {uo : UnOp} {t : TypeId} {x : Operand} (h : AL F P n Q ops (⟨dst, .unOp uo t x, ty, pos, af, none⟩ :: rest) ρ ds base R) : AL F P n Q ops (⟨dst, .unOp uo t x, ty, pos, af, none⟩ :: rest) ρ ds base R := h
theorem is_guarded {dst : Option Tmp} {op : Op} {ty : TypeId} {pos : String} {af : Array Edge} {rest : List Oper} {g : Nat × Bool} (h : AL F P n Q ops (⟨dst, op, ty, pos, af, some g⟩ :: rest) ρ ds base R) : AL F P n Q ops (⟨dst, op, ty, pos, af, some g⟩ :: rest) ρ ds base R := h
theorem is_AQc {o : Oper} {rest : List Oper} {K : (Nat → Value) → Prop} (h : AQ F P n ops ds base R (o :: rest) ρ K) : AQ F P n ops ds base R (o :: rest) ρ K := h
theorem is_AL {l : List Oper} (h : AL F P n Q ops l ρ ds base R) : AL F P n Q ops l ρ ds base R := h
theorem is_At {Φ : World → Prop} (h : At base R Φ) : At base R Φ := h
theorem is_badd {dst : Option Tmp} {ty t t' : TypeId} {x y : Operand} {pos : String} {af : Array Edge} {rest : List Oper} (h : AL F P n Q ops (⟨dst, .binOp .add t x y t', ty, pos, af, none⟩ :: rest) ρ ds base R) : AL F P n Q ops (⟨dst, .binOp .add t x y t', ty, pos, af, none⟩ :: rest) ρ ds base R := h
theorem is_bsub {dst : Option Tmp} {ty t t' : TypeId} {x y : Operand} {pos : String} {af : Array Edge} {rest : List Oper} (h : AL F P n Q ops (⟨dst, .binOp .sub t x y t', ty, pos, af, none⟩ :: rest) ρ ds base R) : AL F P n Q ops (⟨dst, .binOp .sub t x y t', ty, pos, af, none⟩ :: rest) ρ ds base R := h
theorem is_brem {dst : Option Tmp} {ty t t' : TypeId} {x y : Operand} {pos : String} {af : Array Edge} {rest : List Oper} (h : AL F P n Q ops (⟨dst, .binOp .rem t x y t', ty, pos, af, none⟩ :: rest) ρ ds base R) : AL F P n Q ops (⟨dst, .binOp .rem t x y t', ty, pos, af, none⟩ :: rest) ρ ds base R := h
theorem is_cond {c : Operand} {x y : Code} (h : At base R (X F P n Q (.cond c x y) ρ ds)) : At base R (X F P n Q (.cond c x y) ρ ds) := h
end
end XW

/- Ranges over functions, over holdings. -/
namespace XW
open Go Go.RowKit RegInv
set_option linter.unusedSimpArgs false
set_option linter.unusedVariables false
set_option linter.unusedSectionVars false

/-- what a consumer owes at each item -/
def YieldOk (F : Fence) (P : Program) (l : Nat) (base : World) {ι σ : Type} (args : ι → Array Value) (Pre : List ι → Prop) (Rc : σ → List Res) (φ : List ι → σ → Prop) (ψ : σ → Prop) : Prop :=
  ∀ (Ri : List Res) (xs : List ι) (x : ι) (s : σ), φ xs s → Pre (xs ++ [x]) → ∀ w, Mem base w (Ri ++ Rc s) →
    YieldC F P l (args x) w fun b w' => ∃ s', Mem base w' (Ri ++ Rc s') ∧ (b = true → φ (xs ++ [x]) s') ∧ (b = false → ψ s')
/-- an iterator: what it holds, what it hands to its consumer -/
def IterOk (F : Fence) (P : Program) (gf : FuncId) (caps : Array Value) (base : World) {ι : Type} (Rit : List Res) (args : ι → Array Value) (Pre All : List ι → Prop) : Prop :=
  ∀ (σ : Type) (l : Nat) (Rc : σ → List Res) (φ : List ι → σ → Prop) (ψ : σ → Prop), YieldOk F P l base args Pre Rc φ ψ →
    ∀ s0, φ [] s0 → ∀ w, Mem base w (Rit ++ Rc s0) → CallsIn F 0 P gf (#[.func (.yield l) #[] #[]] ++ caps) w fun e w' =>
      ∃ v s, e = .returned v ∧ Mem base w' (Rit ++ Rc s) ∧ ((∃ xs, All xs ∧ φ xs s) ∨ ψ s)

section
variable {F : Fence} {P : Program} {n : Nat} {Q : Post} {ρ : Nat → Value} {ds : List Deferred} {w base : World} {R R' : List Res} {ops : Array Oper}

theorem yieldOk_round {l l0 : Nat} {ι σ : Type} {args : ι → Array Value} {Pre : List ι → Prop} {Rc : σ → List Res} {φ : List ι → σ → Prop} {ψ : σ → Prop} (h : YieldOk (F.inRound l0) P l base args Pre Rc φ ψ) : YieldOk F P l base args Pre Rc φ ψ := h
theorem IterOk.round {gf : FuncId} {caps : Array Value} {ι : Type} {Rit : List Res} {args : ι → Array Value} {Pre All : List ι → Prop} (h : IterOk F P gf caps base Rit args Pre All) (l0 : Nat) : IterOk (F.inRound l0) P gf caps base Rit args Pre All :=
  fun σ l Rc φ ψ hy s0 h0 w hw => callsIn_round (h σ l Rc φ ψ (yieldOk_round hy) s0 h0 w hw)

/-- in the iterator: a call of yield -/
theorem At_yield (hF : Wide F) (ha : F.alive = false) {dst : Option Tmp} {x : Operand} {l : Nat} {as : Array Operand} {ats : Array TypeId} {ty : TypeId} {pos : String} {af : Array Edge} {rest : List Oper}
    {ι σ : Type} {args : ι → Array Value} {Pre : List ι → Prop} {Rc : σ → List Res} {φ : List ι → σ → Prop} {ψ : σ → Prop} (hy : YieldOk F P l base args Pre Rc φ ψ) (Ri : List Res) {xs : List ι} {s : σ} (a : ι) (hp : φ xs s) (hpre : Pre (xs ++ [a]))
    (hR : R = Ri ++ Rc s) (hx : xv n ρ x = .func (.yield l) #[] #[]) (hv : as.map (xv n ρ) = args a)
    (h1 : ∀ s', φ (xs ++ [a]) s' → AL F P n Q ops rest (updO ρ dst (.bool true)) ds base (Ri ++ Rc s')) (h2 : ∀ s', ψ s' → AL F P n Q ops rest (updO ρ dst (.bool false)) ds base (Ri ++ Rc s')) :
    AL F P n Q ops (⟨dst, .call { callee := .value x, args := as, argTypes := ats }, ty, pos, af, none⟩ :: rest) ρ ds base R := ⟨fun w hw => by
  subst hR
  refine XL_yield hF ha (hy Ri xs a s hp hpre w hw) hx hv ?_
  rintro b w' ⟨s', hm, ht, hf⟩
  cases b with
  | true => exact (h1 s' (ht rfl)).use w' hm
  | false => exact (h2 s' (hf rfl)).use w' hm⟩

/-- how a round's body may end, over holdings: l's record is at the front -/
def RndQ (base : World) {σ : Type} (l : Nat) (rec : Loop) (Rs : σ → List Res) (Ri : List Res) (φ' : σ → Prop) (ψ : Exit → σ → Prop) : Post
  | .normal, _, _, w => ∃ s, φ' s ∧ Mem base w (.obj l (.loop { rec with state := .busy }) :: (Rs s ++ Ri))
  | .ret, _, _, w => ∃ s, ψ .ret s ∧ Mem base w (.obj l (.loop { rec with state := .busy }) :: (Rs s ++ Ri))
  | .exit id, _, _, w => ∃ s, ψ (.exit id) s ∧ Mem base w (.obj l (.loop { rec with state := .busy }) :: (Rs s ++ Ri))
  | _, _, _, _ => False

theorem rnd_n {σ : Type} {l : Nat} {rec : Loop} {Rs : σ → List Res} {Ri : List Res} {φ' : σ → Prop} {ψ : Exit → σ → Prop} (s : σ) (hs : (Res.obj l (.loop { rec with state := .busy }) :: (Rs s ++ Ri)).Sublist R) (h : φ' s) : At base R (RndQ base l rec Rs Ri φ' ψ .normal ρ ds) := fun w hw => ⟨s, h, hw.sub hs⟩
def pend : Exit → Option Code
  | .ret => some .ret
  | .exit id => some (.exit id)
  | _ => none
theorem Mem.put0 {b : Nat} {o o' : Obj} (h : Mem base w (.obj b o :: R)) : Mem base (w.putObj b o') (.obj b o' :: R) := h.put 0 rfl o'

/-- what the consumer's record holds in state s -/
def recOf (rec : Loop) : Option Exit → Loop
  | none => { rec with state := .ready, pending := none }
  | some e => { rec with state := .done, pending := pend e }

end
end XW

/- The end of a body, over holdings: results in temporaries and in cells, marks. -/
namespace XW
open Go Go.RowKit RegInv
set_option linter.unusedSimpArgs false
set_option linter.unusedVariables false
set_option linter.unusedSectionVars false

section
variable {F : Fence} {P : Program} {n : Nat} {Q : Post} {ρ : Nat → Value} {ds : List Deferred} {w base : World} {R R' : List Res} {ops : Array Oper}

/-- what one result is -/
def RV (P : Program) (n : Nat) (ρ : Nat → Value) (base : World) (R : List Res) (r : ResultVar) (v : Value) : Prop := match r with
  | .tmp t => t < n ∧ ρ t = v
  | .cell t ty => t < n ∧ ∃ a, ρ t = .pointer (some a) ∧ ∀ w, Mem base w R → Loads P ty w a v
theorem rv_tmp {t : Tmp} (h : t < n) : RV P n ρ base R (.tmp t) (ρ t) := ⟨h, rfl⟩
theorem rv_key (hw : Mem base w R) {r : ResultVar} {v : Value} (h : RV P n ρ base R r v) : (∃ t, r = .tmp t ∧ (fr n ρ ds).tmps[t]?.getD undef = v) ∨ ∃ t ty a, r = .cell t ty ∧ asAddr ((fr n ρ ds).tmps[t]?.getD undef) = (pure a : Sem Addr) ∧ (loadVar ty a).run P w = .ok v w := by
  cases r with
  | tmp t =>
    obtain ⟨h1, h2⟩ := h
    exact .inl ⟨t, rfl, by rw [fr_get h1, h2]; rfl⟩
  | cell t ty =>
    obtain ⟨h1, a, h2, h3⟩ := h
    exact .inr ⟨t, ty, a, rfl, by rw [fr_get h1, h2]; rfl, h3 w hw⟩
theorem res_run1 {fn : Func} {r : ResultVar} {v : Value} (hr : fn.results = #[r]) (h : RV P n ρ base R r v) (hw : Mem base w R) : (results fn (fr n ρ ds).tmps).run P w = .ok v w := by
  rcases rv_key (ds := ds) hw h with ⟨t, rfl, e1⟩ | ⟨t, ty, a, rfl, e1, e2⟩ <;> simp [results, hr, Array.getD_eq_getD_getElem?, Sem.run_bind, Result.andThen, *]
theorem res_run2 {fn : Func} {r s : ResultVar} {v u : Value} (hr : fn.results = #[r, s]) (h : RV P n ρ base R r v) (h' : RV P n ρ base R s u) (hw : Mem base w R) : (results fn (fr n ρ ds).tmps).run P w = .ok (.tuple #[v, u]) w := by
  rcases rv_key (ds := ds) hw h with ⟨t, rfl, e1⟩ | ⟨t, ty, a, rfl, e1, e2⟩ <;> rcases rv_key (ds := ds) hw h' with ⟨t', rfl, e3⟩ | ⟨t', ty', a', rfl, e3, e4⟩ <;> simp [results, hr, Array.getD_eq_getD_getElem?, Sem.run_bind, Result.andThen, *]
theorem res_run3 {fn : Func} {r s t : ResultVar} {v u x : Value} (hr : fn.results = #[r, s, t]) (h : RV P n ρ base R r v) (h' : RV P n ρ base R s u) (h'' : RV P n ρ base R t x) (hw : Mem base w R) : (results fn (fr n ρ ds).tmps).run P w = .ok (.tuple #[v, u, x]) w := by
  rcases rv_key (ds := ds) hw h with ⟨t, rfl, e1⟩ | ⟨t, ty, a, rfl, e1, e2⟩ <;> rcases rv_key (ds := ds) hw h' with ⟨t', rfl, e3⟩ | ⟨t', ty', a', rfl, e3, e4⟩ <;> rcases rv_key (ds := ds) hw h'' with ⟨t2, rfl, e5⟩ | ⟨t2, ty2, a2, rfl, e5, e6⟩ <;> simp [results, hr, Array.getD_eq_getD_getElem?, Sem.run_bind, Result.andThen, *]

/-- marks are taken, all else stays -/
theorem leaves_mem {fn : Func} {tmps : Array Value} {Rp : Ending → World → Prop} {v : Value} : ∀ (Ds : List Nat) (W : World), Mem base W ((Ds.map fun D => Res.obj D (.deferred (some []))) ++ R) →
    (∀ W', Mem base W' R → (results fn tmps).run P W' = .ok v W' ∧ Rp (.returned v) W') → LeavesInM F 0 P fn tmps Rp (Ds.map mk) .returning W
  | [], W, hm, h => ⟨v, (h W (by simpa using hm)).1, (h W (by simpa using hm)).2⟩
  | D :: Ds, W, hm, h => by
    refine ⟨by simp, .inl ⟨D, _, rfl, run_takeDeferred (hm.at_ 0 rfl), ?_⟩⟩
    have h2 : Mem base (W.putObj D (.deferred none)) (.obj D (.deferred none) :: ((Ds.map fun D => Res.obj D (.deferred (some []))) ++ R)) := hm.put 0 rfl _
    exact leaves_mem Ds _ (h2.sub (List.sublist_cons_self _ _)) h
theorem At_end {fn : Func} {Rp : Ending → World → Prop} (Ds : List Nat) {v : Value} (R0 : List Res) (hds : ds = Ds.map mk) (hs : R.Perm ((Ds.map fun D => Res.obj D (.deferred (some []))) ++ R0)) (hr : ∀ W, Mem base W R0 → (results fn (fr n ρ ds).tmps).run P W = .ok v W) (hR : At base R0 (Rp (.returned v))) :
    At base R (Body F P n fn Rp .ret ρ ds) := fun w hw => by
  subst hds
  exact leaves_mem Ds w (hw.perm hs.symm) (fun W' hW' => ⟨hr W' hW', hR W' hW'⟩)
theorem At_endn {fn : Func} {Rp : Ending → World → Prop} (Ds : List Nat) {v : Value} (R0 : List Res) (hds : ds = Ds.map mk) (hs : R.Perm ((Ds.map fun D => Res.obj D (.deferred (some []))) ++ R0)) (hr : ∀ W, Mem base W R0 → (results fn (fr n ρ ds).tmps).run P W = .ok v W) (hR : At base R0 (Rp (.returned v))) :
    At base R (Body F P n fn Rp .normal ρ ds) := fun w hw => by
  subst hds
  exact leaves_mem Ds w (hw.perm hs.symm) (fun W' hW' => ⟨hr W' hW', hR W' hW'⟩)
theorem At_ret1 {fn : Func} {Rp : Ending → World → Prop} {r : ResultVar} {v : Value} (hr : fn.results = #[r]) (h : RV P n ρ base R r v) (hR : At base R (Rp (.returned v))) : At base R (Body F P n fn Rp .ret ρ []) := At_end [] R rfl (by simp) (fun W hW => res_run1 hr h hW) hR
theorem At_ret2 {fn : Func} {Rp : Ending → World → Prop} {r s : ResultVar} {v u : Value} (hr : fn.results = #[r, s]) (h : RV P n ρ base R r v) (h' : RV P n ρ base R s u) (hR : At base R (Rp (.returned (.tuple #[v, u])))) : At base R (Body F P n fn Rp .ret ρ []) := At_end [] R rfl (by simp) (fun W hW => res_run2 hr h h' hW) hR
theorem At_ret3 {fn : Func} {Rp : Ending → World → Prop} {r s t : ResultVar} {v u x : Value} (hr : fn.results = #[r, s, t]) (h : RV P n ρ base R r v) (h' : RV P n ρ base R s u) (h'' : RV P n ρ base R t x) (hR : At base R (Rp (.returned (.tuple #[v, u, x])))) : At base R (Body F P n fn Rp .ret ρ []) := At_end [] R rfl (by simp) (fun W hW => res_run3 hr h h' h'' hW) hR
/-- one mark at the front -/
theorem At_retm2 {fn : Func} {Rp : Ending → World → Prop} {D : Nat} {r s : ResultVar} {v u : Value} (hr : fn.results = #[r, s]) (h : RV P n ρ base R r v) (h' : RV P n ρ base R s u) (hR : At base R (Rp (.returned (.tuple #[v, u])))) : At base (.obj D (.deferred (some [])) :: R) (Body F P n fn Rp .ret ρ [mk D]) := At_end [D] R rfl (by simp) (fun W hW => res_run2 hr h h' hW) hR
theorem At_fin0n {fn : Func} {Rp : Ending → World → Prop} (hr : fn.results = #[]) (hR : At base R (Rp (.returned (.tuple #[])))) : At base R (Body F P n fn Rp .normal ρ []) := At_endn [] R rfl (by simp) (fun W hW => results0 hr) hR
end
end XW

/- Maps and ranges over maps, over holdings. -/
namespace XW
open Go Go.RowKit RegInv
set_option linter.unusedSimpArgs false
set_option linter.unusedVariables false
set_option linter.unusedSectionVars false

section
variable {κ β : Type}
theorem MapIt.eq {ek : κ → Value} {eb : β → Value} {w w' : World} {b r : Nat} {left : List (κ × β)} (h : MapIt ek eb w b r left) (hb : w'.heap[b]? = w.heap[b]?) (hr : w'.heap[r]? = w.heap[r]?) : MapIt ek eb w' b r left := by
  obtain ⟨en, clock, since, seen, c0, h1, h2, h3⟩ := h
  exact ⟨en, clock, since, seen, c0, hb.trans h1, hr.trans h2, h3⟩
theorem MapAt.eq {ek : κ → Value} {eb : β → Value} {w w' : World} {b r : Nat} {k : κ} {v : β} (h : MapAt ek eb w b r k v) (hb : w'.heap[b]? = w.heap[b]?) (hr : w'.heap[r]? = w.heap[r]?) : MapAt ek eb w' b r k v := by
  obtain ⟨en, clock, since, seen, e, h1, h2, h3⟩ := h
  exact ⟨en, clock, since, seen, e, hb.trans h1, hr.trans h2, h3⟩
def Res.map (ek : κ → Value) (eb : β → Value) (b : Nat) (es : List (κ × β)) : Res :=
  .gen (fun k => k = b) (fun _ w => MapB ek eb w b es) (fun _ _ _ h hk => h.eq (hk b rfl)) (fun _ _ _ _ h => h)
end

section
variable {F : Fence} {P : Program} {n : Nat} {Q : Post} {ρ : Nat → Value} {ds : List Deferred} {w base : World} {R R' : List Res} {ops : Array Oper} {κ β : Type} [DecidableEq κ] {ek : κ → Value} {eb : β → Value}
variable (hF : Wide F) {dst : Option Tmp} {t ty : TypeId} {m x y : Operand} {pos : String} {af : Array Edge} {rest : List Oper}
include hF
/-! ### pairs of ints -/
theorem At_buildPair {a b : Int} [T : TArr P t] [Z : TZ P t] (hm : T.m = 2 ∧ T.sz = 1) (hz : Z.z = .agg #[.int .i64 0, .int .i64 0]) (hx : xv n ρ x = .int .i64 a) (hy : xv n ρ y = .int .i64 b) (h : AL F P n Q ops rest (updO ρ dst (epair (a, b))) ds base R) :
    AL F P n Q ops (⟨dst, .build t #[(0, x), (1, y)], ty, pos, af, none⟩ :: rest) ρ ds base R := ⟨fun w hw => by
  obtain ⟨j, hj, hjz⟩ := Z.h
  obtain ⟨i', hi', hs⟩ := T.h
  have hu := T.u
  rw [hm.1] at hu
  exact XL_buildPair hF hu hj (by rw [hjz, hz]) hi' (by rw [hs, hm.2]) hx hy (h.use w hw)⟩
end
end XW

/- The rules that turn one holding, once for each place: printed by wip/tools/ati.py. -/
namespace XW
open Go Go.RowKit
set_option linter.unusedVariables false
set_option linter.unusedSectionVars false
section
variable {F : Fence} {P : Program} {n : Nat} {Q : Post} {ρ : Nat → Value} {ds : List Deferred} {w base : World} {R R' : List Res} {ops : Array Oper}
theorem At_store_1 (hF : Wide F) {dst : Option Tmp} {t : TypeId} {ty : TypeId} {x : Operand} {y : Operand} {pos : String} {af : Array Edge} {rest : List Oper} {r0 : Res} {b off : Nat} {cs cs' : Array Value} {t1 : TypeId} {v : Value} [T : T1 P t] (hx : xv n ρ x = .pointer (some ⟨b, off, none⟩)) (hy : xv n ρ y = v)  (hoff : off < cs.size) (hv : v.cells = #[v]) (h1 : v.one1 = true) (hcs : cs.setIfInBounds off v = cs')
    (h : AL F P n Q ops rest (updO ρ dst undef) ds base (r0 :: (.obj b (.cells cs' t1 (0, 0))) :: R)) : AL F P n Q ops (⟨dst, .store t x y, ty, pos, af, none⟩ :: rest) ρ ds base (r0 :: (.obj b (.cells cs t1 (0, 0))) :: R) :=
  At_store hF 1 hx hy rfl hoff hv h1 hcs h
theorem At_store_2 (hF : Wide F) {dst : Option Tmp} {t : TypeId} {ty : TypeId} {x : Operand} {y : Operand} {pos : String} {af : Array Edge} {rest : List Oper} {r0 r1 : Res} {b off : Nat} {cs cs' : Array Value} {t1 : TypeId} {v : Value} [T : T1 P t] (hx : xv n ρ x = .pointer (some ⟨b, off, none⟩)) (hy : xv n ρ y = v)  (hoff : off < cs.size) (hv : v.cells = #[v]) (h1 : v.one1 = true) (hcs : cs.setIfInBounds off v = cs')
    (h : AL F P n Q ops rest (updO ρ dst undef) ds base (r0 :: r1 :: (.obj b (.cells cs' t1 (0, 0))) :: R)) : AL F P n Q ops (⟨dst, .store t x y, ty, pos, af, none⟩ :: rest) ρ ds base (r0 :: r1 :: (.obj b (.cells cs t1 (0, 0))) :: R) :=
  At_store hF 2 hx hy rfl hoff hv h1 hcs h
theorem At_store_3 (hF : Wide F) {dst : Option Tmp} {t : TypeId} {ty : TypeId} {x : Operand} {y : Operand} {pos : String} {af : Array Edge} {rest : List Oper} {r0 r1 r2 : Res} {b off : Nat} {cs cs' : Array Value} {t1 : TypeId} {v : Value} [T : T1 P t] (hx : xv n ρ x = .pointer (some ⟨b, off, none⟩)) (hy : xv n ρ y = v)  (hoff : off < cs.size) (hv : v.cells = #[v]) (h1 : v.one1 = true) (hcs : cs.setIfInBounds off v = cs')
    (h : AL F P n Q ops rest (updO ρ dst undef) ds base (r0 :: r1 :: r2 :: (.obj b (.cells cs' t1 (0, 0))) :: R)) : AL F P n Q ops (⟨dst, .store t x y, ty, pos, af, none⟩ :: rest) ρ ds base (r0 :: r1 :: r2 :: (.obj b (.cells cs t1 (0, 0))) :: R) :=
  At_store hF 3 hx hy rfl hoff hv h1 hcs h
theorem At_store_4 (hF : Wide F) {dst : Option Tmp} {t : TypeId} {ty : TypeId} {x : Operand} {y : Operand} {pos : String} {af : Array Edge} {rest : List Oper} {r0 r1 r2 r3 : Res} {b off : Nat} {cs cs' : Array Value} {t1 : TypeId} {v : Value} [T : T1 P t] (hx : xv n ρ x = .pointer (some ⟨b, off, none⟩)) (hy : xv n ρ y = v)  (hoff : off < cs.size) (hv : v.cells = #[v]) (h1 : v.one1 = true) (hcs : cs.setIfInBounds off v = cs')
    (h : AL F P n Q ops rest (updO ρ dst undef) ds base (r0 :: r1 :: r2 :: r3 :: (.obj b (.cells cs' t1 (0, 0))) :: R)) : AL F P n Q ops (⟨dst, .store t x y, ty, pos, af, none⟩ :: rest) ρ ds base (r0 :: r1 :: r2 :: r3 :: (.obj b (.cells cs t1 (0, 0))) :: R) :=
  At_store hF 4 hx hy rfl hoff hv h1 hcs h
theorem At_storeB_0 (hF : Wide F) {dst : Option Tmp} {t : TypeId} {ty : TypeId} {x : Operand} {y : Operand} {pos : String} {af : Array Edge} {rest : List Oper} {b : Nat} {cs vs : Array Value} {t1 : TypeId} [T : TAgg P t] (hx : xv n ρ x = .pointer (some ⟨b, 0, none⟩)) (hy : xv n ρ y = .agg vs)  (hs : vs.size = T.size) (hcs : cs.size = T.size) (h1 : ∀ u ∈ vs.toList, u.one1 = true)
    (h : AL F P n Q ops rest (updO ρ dst undef) ds base ((.obj b (.cells vs t1 (0, 0))) :: R)) : AL F P n Q ops (⟨dst, .store t x y, ty, pos, af, none⟩ :: rest) ρ ds base ((.obj b (.cells cs t1 (0, 0))) :: R) :=
  At_storeB hF 0 hx hy rfl hs hcs h1 h
theorem At_storeB_1 (hF : Wide F) {dst : Option Tmp} {t : TypeId} {ty : TypeId} {x : Operand} {y : Operand} {pos : String} {af : Array Edge} {rest : List Oper} {r0 : Res} {b : Nat} {cs vs : Array Value} {t1 : TypeId} [T : TAgg P t] (hx : xv n ρ x = .pointer (some ⟨b, 0, none⟩)) (hy : xv n ρ y = .agg vs)  (hs : vs.size = T.size) (hcs : cs.size = T.size) (h1 : ∀ u ∈ vs.toList, u.one1 = true)
    (h : AL F P n Q ops rest (updO ρ dst undef) ds base (r0 :: (.obj b (.cells vs t1 (0, 0))) :: R)) : AL F P n Q ops (⟨dst, .store t x y, ty, pos, af, none⟩ :: rest) ρ ds base (r0 :: (.obj b (.cells cs t1 (0, 0))) :: R) :=
  At_storeB hF 1 hx hy rfl hs hcs h1 h
theorem At_storeB_2 (hF : Wide F) {dst : Option Tmp} {t : TypeId} {ty : TypeId} {x : Operand} {y : Operand} {pos : String} {af : Array Edge} {rest : List Oper} {r0 r1 : Res} {b : Nat} {cs vs : Array Value} {t1 : TypeId} [T : TAgg P t] (hx : xv n ρ x = .pointer (some ⟨b, 0, none⟩)) (hy : xv n ρ y = .agg vs)  (hs : vs.size = T.size) (hcs : cs.size = T.size) (h1 : ∀ u ∈ vs.toList, u.one1 = true)
    (h : AL F P n Q ops rest (updO ρ dst undef) ds base (r0 :: r1 :: (.obj b (.cells vs t1 (0, 0))) :: R)) : AL F P n Q ops (⟨dst, .store t x y, ty, pos, af, none⟩ :: rest) ρ ds base (r0 :: r1 :: (.obj b (.cells cs t1 (0, 0))) :: R) :=
  At_storeB hF 2 hx hy rfl hs hcs h1 h
theorem At_storeB_3 (hF : Wide F) {dst : Option Tmp} {t : TypeId} {ty : TypeId} {x : Operand} {y : Operand} {pos : String} {af : Array Edge} {rest : List Oper} {r0 r1 r2 : Res} {b : Nat} {cs vs : Array Value} {t1 : TypeId} [T : TAgg P t] (hx : xv n ρ x = .pointer (some ⟨b, 0, none⟩)) (hy : xv n ρ y = .agg vs)  (hs : vs.size = T.size) (hcs : cs.size = T.size) (h1 : ∀ u ∈ vs.toList, u.one1 = true)
    (h : AL F P n Q ops rest (updO ρ dst undef) ds base (r0 :: r1 :: r2 :: (.obj b (.cells vs t1 (0, 0))) :: R)) : AL F P n Q ops (⟨dst, .store t x y, ty, pos, af, none⟩ :: rest) ρ ds base (r0 :: r1 :: r2 :: (.obj b (.cells cs t1 (0, 0))) :: R) :=
  At_storeB hF 3 hx hy rfl hs hcs h1 h
theorem At_append_3 (hF : Wide F) {dst : Option Tmp} {t : TypeId} {ty : TypeId} {x : Operand} {s : Operand} {pos : String} {af : Array Edge} {rest : List Oper} {r0 r1 r2 : Res} {α : Type} {e sz g c c1 k : Nat} {enc : α → List Value} {A : Option Nat} {l : List α} {cs : Array Value} {fz : Nat × Nat} {x0 : α} [T : TS P t] (j : Nat)  (hj : (r0 :: r1 :: r2 :: (.row e sz enc A c l) :: R)[j]? = some (.obj g (.cells cs e fz))) (hs : xv n ρ s = .slice (A.map fun b => ⟨b, 0, none⟩) k c) (hk : k = l.length) (hx : xv n ρ x = .slice (some ⟨g, 0, none⟩) 1 c1) (hcs : enc x0 = cs.toList)
    (hT : T.e = e ∧ T.sz = sz ∧ sz ≠ 0 ∧ T.z.cells.size = sz) (h1 : ∀ u ∈ cs.toList, u.one1 = true) (hb : (l.length + 1) * T.bytes ≤ 140737488355328) (hm : l.length ≤ 1000000000)
    (h : ∀ A' c', AL F P n Q ops rest (updO ρ dst (.slice (A'.map fun b => ⟨b, 0, none⟩) (l.length + 1) c')) ds base (r0 :: r1 :: r2 :: (.row e sz enc A' c' (l ++ [x0])) :: R)) :
    AL F P n Q ops (⟨dst, .call { callee := .builtin .append, args := #[s, x], argTypes := #[t, t] }, ty, pos, af, none⟩ :: rest) ρ ds base (r0 :: r1 :: r2 :: (.row e sz enc A c l) :: R) :=
  At_append hF 3 j rfl hj hs hk hx hcs hT h1 hb hm h
theorem At_append_4 (hF : Wide F) {dst : Option Tmp} {t : TypeId} {ty : TypeId} {x : Operand} {s : Operand} {pos : String} {af : Array Edge} {rest : List Oper} {r0 r1 r2 r3 : Res} {α : Type} {e sz g c c1 k : Nat} {enc : α → List Value} {A : Option Nat} {l : List α} {cs : Array Value} {fz : Nat × Nat} {x0 : α} [T : TS P t] (j : Nat)  (hj : (r0 :: r1 :: r2 :: r3 :: (.row e sz enc A c l) :: R)[j]? = some (.obj g (.cells cs e fz))) (hs : xv n ρ s = .slice (A.map fun b => ⟨b, 0, none⟩) k c) (hk : k = l.length) (hx : xv n ρ x = .slice (some ⟨g, 0, none⟩) 1 c1) (hcs : enc x0 = cs.toList)
    (hT : T.e = e ∧ T.sz = sz ∧ sz ≠ 0 ∧ T.z.cells.size = sz) (h1 : ∀ u ∈ cs.toList, u.one1 = true) (hb : (l.length + 1) * T.bytes ≤ 140737488355328) (hm : l.length ≤ 1000000000)
    (h : ∀ A' c', AL F P n Q ops rest (updO ρ dst (.slice (A'.map fun b => ⟨b, 0, none⟩) (l.length + 1) c')) ds base (r0 :: r1 :: r2 :: r3 :: (.row e sz enc A' c' (l ++ [x0])) :: R)) :
    AL F P n Q ops (⟨dst, .call { callee := .builtin .append, args := #[s, x], argTypes := #[t, t] }, ty, pos, af, none⟩ :: rest) ρ ds base (r0 :: r1 :: r2 :: r3 :: (.row e sz enc A c l) :: R) :=
  At_append hF 4 j rfl hj hs hk hx hcs hT h1 hb hm h
end
end XW

/- Slices that are written out, over holdings. -/
namespace XW
open Go Go.RowKit
set_option linter.unusedSimpArgs false
set_option linter.unusedVariables false
set_option linter.unusedSectionVars false

theorem foldl_over (off : Nat) : ∀ (vs : List Value) (k : Nat) (cs : Array Value), (vs.zipIdx k).foldl (fun cs (p : Value × Nat) => cs.setIfInBounds (off + p.2) p.1) cs = over cs vs (off + k)
  | [], _, _ => rfl
  | v :: vs, k, cs => by
    simp only [List.zipIdx_cons, List.foldl_cons, over]
    rw [foldl_over off vs (k + 1)]; rfl
theorem foldl_overA (off : Nat) (vs : Array Value) (cs : Array Value) : vs.zipIdx.foldl (fun cs (p : Value × Nat) => cs.setIfInBounds (off + p.2) p.1) cs = over cs vs.toList off := by
  rw [← Array.foldl_toList, Array.toList_zipIdx]
  exact foldl_over off vs.toList 0 cs
theorem over_append : ∀ (a b : List Value) (cs : Array Value) (i : Nat), over cs (a ++ b) i = over (over cs a i) b (i + a.length)
  | [], b, cs, i => rfl
  | v :: a, b, cs, i => by
    simp only [List.cons_append, over, List.length_cons]
    rw [over_append a b, show i + 1 + a.length = i + (a.length + 1) by omega]
theorem fill_all (sz : Nat) : ∀ (vs : List Value) (i0 : Nat) (cs : Array Value), (∀ v ∈ vs, v.cells.size = sz) → (i0 + vs.length) * sz ≤ cs.size →
    Instr.fill (fun i => some (i * sz, sz)) cs ((List.range' i0 vs.length).zip vs) = some (over cs (vs.flatMap fun v => v.cells.toList) (i0 * sz))
  | [], i0, cs, _, _ => rfl
  | v :: vs, i0, cs, hv, hl => by
    have h0 := hv v (by simp)
    have hle : (i0 + 1) * sz ≤ cs.size := Nat.le_trans (Nat.mul_le_mul_right _ (by simp)) hl
    have hs : (i0 + 1) * sz = i0 * sz + sz := by rw [Nat.succ_mul]
    simp only [List.length_cons, List.range'_succ, List.zip_cons_cons, Instr.fill]
    rw [if_neg (by simp [h0]; omega), foldl_overA, fill_all sz vs (i0 + 1) _ (fun u hu => hv u (by simp [hu])) (by rw [over_size]; simp at hl; rwa [show i0 + 1 + vs.length = i0 + (vs.length + 1) by omega])]
    rw [List.flatMap_cons, over_append]
    congr 2
    rw [Array.length_toList, h0, hs]

theorem len_flat_mem {sz : Nat} : ∀ (vs : List Value), (∀ v ∈ vs, v.cells.toList.length = sz) → (vs.flatMap fun v => v.cells.toList).length = vs.length * sz
  | [], _ => by simp
  | v :: vs, h => by rw [List.flatMap_cons, List.length_append, h v (by simp), len_flat_mem vs (fun u hu => h u (by simp [hu])), List.length_cons, Nat.succ_mul, Nat.add_comm]

section
variable {F : Fence} {P : Program} {n : Nat} {Q : Post} {ρ : Nat → Value} {ds : List Deferred} {w base : World} {R R' : List Res} {ops : Array Oper}
variable (hF : Wide F) {dst : Option Tmp} {t ty : TypeId} {x y z u : Operand} {pos : String} {af : Array Edge} {rest : List Oper}
include hF
theorem At_buildSliceG {m : Nat} {parts : Array (Nat × Operand)} {vs : List Value} {cs : Array Value} [T : TS P t] (hm : vs.length = m) (hp : parts.toList.map (fun x => (x.fst, xv n ρ x.snd)) = (List.range' 0 vs.length).zip vs) (hv : ∀ v ∈ vs, v.cells.size = T.sz) (hs : T.z.cells.size = T.sz ∧ T.sz ≠ 0 ∧ m * T.sz ≤ 16777216) (hm0 : m ≠ 0) (hcs : (vs.flatMap fun v => v.cells.toList) = cs.toList)
    (h : ∀ b, AL F P n Q ops rest (updO ρ dst (.slice (some ⟨b, 0, none⟩) m m)) ds base (.obj b (.cells cs T.e (0, 0)) :: R)) : AL F P n Q ops (⟨dst, .buildSlice t m parts, ty, pos, af, none⟩ :: rest) ρ ds base R := ⟨fun w hw => by
  obtain ⟨i', hi', hsz, hz', hby⟩ := T.h
  refine XL_buildSlice hF (e := T.e) (v := .slice (some ⟨w.heap.size, 0, none⟩) m m) (w' := w.alloc (.cells cs T.e)) ?_ ((h _).use _ (hw.alloc _))
  have hne : ¬ m * T.sz = 0 := by
    intro e
    rcases Nat.mul_eq_zero.1 e with h1 | h1
    · exact hm0 h1
    · exact hs.2.1 h1
  have hf := fill_all T.sz vs 0 ((Array.range (m * T.sz)).map (T.z.cells[· % T.z.cells.size]!)) hv (by simp [hm])
  have hlen : (vs.flatMap fun v => v.cells.toList).length = m * T.sz := by rw [len_flat_mem vs (fun v hv' => by simpa using hv v hv'), hm]
  have hf' : Instr.fill (fun i => some (i * T.sz, T.sz)) ((Array.range (m * T.sz)).map (T.z.cells[· % T.z.cells.size]!)) (parts.toList.map fun x => (x.fst, xv n ρ x.snd)) = some cs := by
    rw [hp, hf, Nat.zero_mul, over_all _ _ (by rw [hlen]; simp), hcs]
  have hbig : ¬ m * T.sz > 16777216 := by omega
  have hu := T.u
  simp [Instr.buildSlice, underlying, program, hu, Go.sizeOf, typeInfo, hi', hsz, hz', hne, hbig, zeroValue, hf', newRow, newObj, Sem.run_bind, Sem.run, Result.andThen]⟩
theorem At_slice1_1 [T : TS P t] (hs : T.sz = 1 ∧ T.z.cells.size = T.sz ∧ T.sz ≤ 100) {v0 : Value} (h0 : xv n ρ x = v0) (c0 : v0.cells = #[v0]) (h : ∀ b, AL F P n Q ops rest (updO ρ dst (.slice (some ⟨b, 0, none⟩) 1 1)) ds base (.obj b (.cells (#[v0]) T.e (0, 0)) :: R)) : AL F P n Q ops (⟨dst, .buildSlice t 1 #[(0, x)], ty, pos, af, none⟩ :: rest) ρ ds base R :=
  At_buildSliceG hF (vs := [v0]) rfl (by simp [h0]; try rfl) (by simp [c0, hs.1]) ⟨hs.2.1, by omega, by omega⟩ (by decide) (by simp [c0]) h
theorem At_sliceA_1 [T : TS P t] (hs : T.sz ≠ 0 ∧ T.z.cells.size = T.sz ∧ T.sz ≤ 100) {a0 : Array Value} (h0 : xv n ρ x = .agg a0) (c0 : a0.size = T.sz) (h : ∀ b, AL F P n Q ops rest (updO ρ dst (.slice (some ⟨b, 0, none⟩) 1 1)) ds base (.obj b (.cells (a0) T.e (0, 0)) :: R)) : AL F P n Q ops (⟨dst, .buildSlice t 1 #[(0, x)], ty, pos, af, none⟩ :: rest) ρ ds base R :=
  At_buildSliceG hF (vs := [.agg a0]) rfl (by simp [h0]; try rfl) (by simp [Value.cells, c0]) ⟨hs.2.1, by omega, by omega⟩ (by decide) (by simp [Value.cells]) h
omit hF
theorem is_bslice {dst : Option Tmp} {ty : TypeId} {pos : String} {af : Array Edge} {rest : List Oper} {t : TypeId} {m : Nat} {ps : Array (Nat × Operand)} (h : AL F P n Q ops (⟨dst, .buildSlice t m ps, ty, pos, af, none⟩ :: rest) ρ ds base R) : AL F P n Q ops (⟨dst, .buildSlice t m ps, ty, pos, af, none⟩ :: rest) ρ ds base R := h
end
end XW

/- A slice of rows of the call's own, over holdings; and small rules beside. -/
namespace XW
open Go Go.RowKit RegInv
set_option linter.unusedSimpArgs false
set_option linter.unusedVariables false
set_option linter.unusedSectionVars false

section
variable {F : Fence} {P : Program} {n : Nat} {Q : Post} {ρ : Nat → Value} {ds : List Deferred} {w base : World} {R R' : List Res} {ops : Array Oper} {Φ : World → Prop} {α : Type}

variable (hF : Wide F) {dst : Option Tmp} {t ty : TypeId} {x y z u : Operand} {pos : String} {af : Array Edge} {rest : List Oper}
include hF
/-! ### small rules -/
theorem At_func3 {fn : Fn} {v0 v1 v2 : Value} (h0 : xv n ρ x = v0) (h1 : xv n ρ y = v1) (h2 : xv n ρ z = v2) (h : AL F P n Q ops rest (updO ρ dst (.func fn #[] #[v0, v1, v2])) ds base R) : AL F P n Q ops (⟨dst, .makeFunc fn #[] #[x, y, z], ty, pos, af, none⟩ :: rest) ρ ds base R := At_plain hF (by simp [plain, h0, h1, h2]) h
omit hF
theorem arg1 {x0 : Operand} {v0 : Value} (h0 : xv n ρ x0 = v0) : (#[x0] : Array Operand).map (xv n ρ) = #[v0] := by simp [h0]
theorem arg2 {x0 x1 : Operand} {v0 v1 : Value} (h0 : xv n ρ x0 = v0) (h1 : xv n ρ x1 = v1) : (#[x0, x1] : Array Operand).map (xv n ρ) = #[v0, v1] := by simp [h0, h1]
theorem arg3 {x0 x1 x2 : Operand} {v0 v1 v2 : Value} (h0 : xv n ρ x0 = v0) (h1 : xv n ρ x1 = v1) (h2 : xv n ρ x2 = v2) : (#[x0, x1, x2] : Array Operand).map (xv n ρ) = #[v0, v1, v2] := by simp [h0, h1, h2]
theorem arg4 {x0 x1 x2 x3 : Operand} {v0 v1 v2 v3 : Value} (h0 : xv n ρ x0 = v0) (h1 : xv n ρ x1 = v1) (h2 : xv n ρ x2 = v2) (h3 : xv n ρ x3 = v3) : (#[x0, x1, x2, x3] : Array Operand).map (xv n ρ) = #[v0, v1, v2, v3] := by simp [h0, h1, h2, h3]
/-- what stands between two pieces, by slots and holdings -/
theorem At_merge {K : (Nat → Value) → List Deferred → World → Prop} {c : Code} (L : List (Nat × Value)) (R' : List Res) (h : ∀ K' : (Nat → Value) → List Deferred → World → Prop, (∀ ρ', AllAt ρ' L → At base R' (K' ρ' ds)) → At base R (X F P n (Then K' Q) c ρ ds)) (hb : ∀ ρ0, At base R' (K (ovr ρ0 L) ds)) :
    At base R (X F P n (Then K Q) c ρ ds) := fun w hw => by
  refine X_mono (h (fun ρ' ds' w' => AllAt ρ' L ∧ ds' = ds ∧ Mem base w' R') (fun ρ' hl w' hw' => ⟨hl, rfl, hw'⟩) w hw) ?_
  intro e ρ' ds' w' hq
  cases e with
  | normal =>
    obtain ⟨hl, rfl, hw'⟩ := hq
    have := hb ρ' w' hw'
    rw [ovr_eq ρ' L hl] at this
    exact this
  | _ => exact hq
/-- the same, with what the piece chose -/
theorem At_mergeE {K : (Nat → Value) → List Deferred → World → Prop} {c : Code} {σ : Type} (L : σ → List (Nat × Value)) (R' : σ → List Res) (φ : σ → Prop) (h : ∀ K' : (Nat → Value) → List Deferred → World → Prop, (∀ s ρ', φ s → AllAt ρ' (L s) → At base (R' s) (K' ρ' ds)) → At base R (X F P n (Then K' Q) c ρ ds)) (hb : ∀ s ρ0, φ s → At base (R' s) (K (ovr ρ0 (L s)) ds)) :
    At base R (X F P n (Then K Q) c ρ ds) := fun w hw => by
  refine X_mono (h (fun ρ' ds' w' => ∃ s, φ s ∧ AllAt ρ' (L s) ∧ ds' = ds ∧ Mem base w' (R' s)) (fun s ρ' hs hl w' hw' => ⟨s, hs, hl, rfl, hw'⟩) w hw) ?_
  intro e ρ' ds' w' hq
  cases e with
  | normal =>
    obtain ⟨s, hs, hl, rfl, hw'⟩ := hq
    have := hb s ρ' hs w' hw'
    rw [ovr_eq ρ' _ hl] at this
    exact this
  | _ => exact hq
/-- a function's body, in whatever fence outside a round -/
theorem callsIn_at {f : FuncId} {fn : Func} {c : Code} {args : Array Value} {Rp : Ending → World → Prop} (hF : Wide F) (hro : F.round = none) (hw : Mem base w R) (hf : P.funcs[f]? = some fn) (hb : fn.body = some c) (hn : fn.ntmps = n) (ha : args.size ≤ n)
    (h : At base R (X F P n (Body F P n fn Rp) c (fun t => args.getD t undef) [])) : CallsIn F 0 P f args w Rp := callsIn_body hF hro hf hb hn ha (h w hw)
end
end XW

/- A region that draws its order: quiet operations in whatever order, beside a chain of others that turn memory; the rest behind them. -/
namespace XW
open Go Go.RowKit RegInv
set_option linter.unusedSimpArgs false
set_option linter.unusedVariables false
set_option linter.unusedSectionVars false

section
variable {F : Fence} {P : Program} {n : Nat} {Q : Post} {ρ : Nat → Value} {ds : List Deferred} {w base : World} {R : List Res} {ops : Array Oper}

/-- the chain of the others, then the rest -/
def WAt (F : Fence) (P : Program) (n : Nat) (Q : Post) (ops : Array Oper) (rest : List Oper) (ds : List Deferred) (base : World) (R0 : List Res) : List Nat → (Nat → Value) → List Res → Prop
  | [], ρ, R => R0.Sublist R ∧ AL F P n Q ops rest ρ ds base R
  | c :: cs, ρ, R => R0.Sublist R ∧ ∃ o, ops[c]? = some o ∧ ∀ w, Mem base w R → XL F P n (Then (fun ρ' ds' w' => ds' = ds ∧ ∃ R', Mem base w' R' ∧ WAt F P n Q ops rest ds base R0 cs ρ' R') (fun _ _ _ _ => False)) ops [o] ρ ds w
def chained (ops : Array Oper) : List Nat → Bool
  | c :: c' :: cs => decide (c < c') && (clo ops ops.size c').contains c && chained ops (c' :: cs)
  | _ => true
def reads (ops : Array Oper) (i j : Nat) : Bool := match ops[i]?, ops[j]? with
  | some oi, some oj => match oj.dst with
    | some d => (oi.looksAt ops).contains d
    | none => false
  | _, _ => false
def sameDst (ops : Array Oper) (i j : Nat) : Bool := match ops[i]?, ops[j]? with
  | some oi, some oj => oj.dst.isSome && oi.dst == oj.dst
  | _, _ => false
def drawOkW (ops : Array Oper) (m : Nat) (is ws : List Nat) : Bool :=
  ordered ops && decide (m ≤ ops.size) && ops.toList.all noSD &&
  ((List.range ops.size).all fun i => decide (i < m) || (List.range i).all fun j => (clo ops ops.size i).contains j) &&
  ((List.range m).all fun i => (List.range m).all fun j => (i == j && !reads ops i j) || (!sameDst ops i j && (!reads ops i j || (clo ops ops.size i).contains j))) &&
  chained ops ws && (List.range m).all (fun i => is.contains i || ws.contains i) && is.all (fun i => decide (i < m) && !ws.contains i && !ws.any (reads ops i)) && ws.all (fun i => decide (i < m)) && decide (is.Pairwise (· < ·))

def qf (ops : Array Oper) (val : Nat → Value) (is : List Nat) (ρ : Nat → Value) : Nat → Value := is.foldl (fun ρ i => match ops[i]? with
  | some o => updO ρ o.dst (val i)
  | none => ρ) ρ

/-- an operation in a frame that is as another where it looks -/
theorem wpOp_frame {o : Oper} {i : Nat} (ho : ops[i]? = some o) (hnd : noSD o = true) {ρ1 ρ2 : Nat → Value} (hag : ∀ d ∈ o.looksAt ops, d < n → ρ1 d = ρ2 d) {K1 : (Nat → Value) → World → Prop} (hcong : ∀ ρ ρ' w, (∀ t, t < n → ρ t = ρ' t) → K1 ρ w → K1 ρ' w)
    (h : XL F P n (Then (fun ρ' ds' w' => ds' = ds ∧ K1 ρ' w') (fun _ _ _ _ => False)) ops [o] ρ1 ds w) {Q' : Exit → Act → World → Prop} {K' : Act → World → Prop}
    (hK : ∀ v w', K1 (updO ρ1 o.dst v) w' → K' (fr n (updO ρ2 o.dst v) ds) w') : wpOpIn F 0 P ops Q' i K' (fr n ρ2 ds) w := by
  have hsel : ∀ cs b, o.op ≠ .select cs b := fun cs b e => by unfold noSD at hnd; rw [e] at hnd; cases hnd
  have hdef : ∀ c, o.op ≠ .defer c := fun c e => by unfold noSD at hnd; rw [e] at hnd; cases hnd
  have hev : ∀ x ∈ o.op.operands, (fr n ρ1 ds).eval x = (fr n ρ2 ds).eval x := by
    intro x hx
    rw [eval_fr, eval_fr]
    cases x with
    | tmp t =>
      simp only [xv]
      by_cases h : t < n
      · rw [if_pos h, if_pos h]
        exact hag t (List.mem_append_left _ (List.mem_filterMap.2 ⟨.tmp t, by simpa using hx, rfl⟩)) h
      · rw [if_neg h, if_neg h]
    | _ => rfl
  have hwa : Region.wanted o (yielded ops (fr n ρ1 ds).tmps) = Region.wanted o (yielded ops (fr n ρ2 ds).tmps) := by
    unfold Region.wanted
    cases hg : o.guard with
    | none => rfl
    | some gw =>
      obtain ⟨g, want⟩ := gw
      have hy : yielded ops (fr n ρ1 ds).tmps g = yielded ops (fr n ρ2 ds).tmps g := by
        unfold yielded
        cases ht : (ops[g]?).bind (·.dst) with
        | none => rfl
        | some t =>
          by_cases h : t < n
          · have := hag t (List.mem_append_right _ (by simp [hg, ht])) h
            have e0 : (fr n ρ1 ds).tmps[t]? = (fr n ρ2 ds).tmps[t]? := by rw [fr_get (ρ := ρ1) (ds := ds) h, fr_get (ρ := ρ2) (ds := ds) h, this]
            simp only [Option.bind_some, e0]
          · have e1 : (fr n ρ1 ds).tmps[t]? = none := Array.getElem?_eq_none (by rw [fr_size]; exact Nat.le_of_not_lt h)
            have e2 : (fr n ρ2 ds).tmps[t]? = none := Array.getElem?_eq_none (by rw [fr_size]; exact Nat.le_of_not_lt h)
            simp only [Option.bind_some, e1, e2]
      simp only [hy]
  have hab : o.about P w (fr n ρ1 ds).eval = o.about P w (fr n ρ2 ds).eval := about_congr o w hev
  have hex : ∀ ro, o.semAt ro (fr n ρ1 ds).eval = o.semAt ro (fr n ρ2 ds).eval := fun ro => by rw [Oper.semAt_eq _ _ _ hdef, Oper.semAt_eq _ _ _ hdef]; exact execOp_congr o hsel hev
  have hput : ∀ v' w' (a' : Act), a' = fr n (updO ρ1 o.dst v') ds → wpListIn F 0 P ops (lift n (Then (fun ρ' ds' w' => ds' = ds ∧ K1 ρ' w') (fun _ _ _ _ => False))) [] a' w' → K' ((fr n ρ2 ds).put o.dst v') w' := by
    rintro v' w' a' rfl ⟨ρ', ds', e1, e2, e3⟩
    rw [put_fr]
    exact hK v' w' (hcong _ _ _ (fun t ht => ((fr_inj e1).1 t ht).symm) e3)
  have hrun' : wpListIn F 0 P ops (lift n (Then (fun ρ' ds' w' => ds' = ds ∧ K1 ρ' w') (fun _ _ _ _ => False))) [o] (fr n ρ1 ds) w := h
  unfold wpOpIn
  rw [ho]
  simp only
  unfold wpListIn at hrun'
  rw [hwa] at hrun'
  split
  · rename_i hw'
    rw [if_pos hw'] at hrun'
    unfold Oper.wpIn at hrun' ⊢
    rw [hab, hex] at hrun'
    refine ⟨hrun'.1, ?_⟩
    have h2 := hrun'.2
    generalize (o.semAt F.round (fr n ρ2 ds).eval).run P w = r at h2 ⊢
    cases r with
    | ok x w' =>
      cases x <;> simp only [Oper.uponIn] at h2 ⊢
      case value u => exact hput u w' _ (put_fr ..) h2
      case skip => exact hput undef w' _ (put_fr ..) h2
      case enter f args =>
        refine ⟨h2.1, CallsIn.mono h2.2 fun e w'' he => ?_⟩
        cases e with
        | returned u => exact hput u w'' _ (put_fr ..) he
        | panicked ch => obtain ⟨_, _, _, hf⟩ := he; exact hf.elim
        | outgrown => obtain ⟨_, _, _, _, _, hf⟩ := he; exact hf.elim
      case row row args => exact ⟨h2.1, RowsIn.mono h2.2 fun u w'' he => hput u w'' _ (put_fr ..) he⟩
      case round l f tmps assign body =>
        refine ⟨h2.1, RoundIn.mono h2.2 fun e w'' he => ?_⟩
        cases e with
        | returned u => exact hput u w'' _ (put_fr ..) he
        | panicked ch => obtain ⟨_, _, _, hf⟩ := he; exact hf.elim
        | outgrown => obtain ⟨_, _, _, _, _, hf⟩ := he; exact hf.elim
      case defer d =>
        obtain ⟨ρ', ds', e1, e2, e3⟩ := h2
        have := congrArg Act.defers e1
        have hl := congrArg List.length this
        rw [e2] at hl
        exfalso
        cases hd : o.dst <;> rw [hd] at hl <;> simp [Act.put, fr] at hl
    | halt x w' =>
      cases x <;> simp only [Oper.uponIn] at h2 ⊢
      case panic u => obtain ⟨_, _, _, hf⟩ := h2; exact hf.elim
  · rename_i hw'
    rw [if_neg hw'] at hrun'
    rw [hab] at hrun'
    exact ⟨hrun'.1, hput undef w _ (put_fr ..) hrun'.2⟩
theorem XL_congr {l : List Oper} {ρ1 ρ2 : Nat → Value} (h : ∀ t, t < n → ρ1 t = ρ2 t) (hx : XL F P n Q ops l ρ1 ds w) : XL F P n Q ops l ρ2 ds w := by
  have : wpListIn F 0 P ops (lift n Q) l (fr n ρ1 ds) w := hx
  rw [fr_eq h] at this
  exact this
theorem WAt_congr {rest : List Oper} {R0 : List Res} {ρ1 ρ2 : Nat → Value} (h : ∀ t, t < n → ρ1 t = ρ2 t) : ∀ (ws : List Nat) (R : List Res), WAt F P n Q ops rest ds base R0 ws ρ1 R → WAt F P n Q ops rest ds base R0 ws ρ2 R
  | [], R, ⟨h1, h2⟩ => ⟨h1, ⟨fun w hw => XL_congr h (h2.use w hw)⟩⟩
  | c :: cs, R, ⟨h1, o, ho, h2⟩ => ⟨h1, o, ho, fun w hw => XL_congr h (h2 w hw)⟩
theorem WAt.sub {rest : List Oper} {R0 : List Res} {ws : List Nat} {R : List Res} (h : WAt F P n Q ops rest ds base R0 ws ρ R) : R0.Sublist R := by
  cases ws <;> exact h.1

theorem qf_cons {val : Nat → Value} {i : Nat} {is : List Nat} {o : Oper} (ho : ops[i]? = some o) : qf ops val (i :: is) ρ = qf ops val is (updO ρ o.dst (val i)) := by simp [qf, ho]
theorem qf_congr {val val' : Nat → Value} : ∀ (is : List Nat) (ρ : Nat → Value), (∀ i ∈ is, val i = val' i) → qf ops val is ρ = qf ops val' is ρ
  | [], _, _ => rfl
  | i :: is, ρ, h => by
    have ih := fun ρ => qf_congr is ρ (fun j hj => h j (by simp [hj]))
    simp only [qf, List.foldl_cons] at ih ⊢
    rw [h i (by simp)]
    exact ih _
theorem qf_at {val : Nat → Value} : ∀ (is : List Nat) (ρ : Nat → Value), (∀ i ∈ is, ∀ j ∈ is, ∀ oi oj d, ops[i]? = some oi → ops[j]? = some oj → Oper.dst oi = some d → Oper.dst oj = some d → i = j) → is.Nodup →
    (∀ i ∈ is, ∀ o d, ops[i]? = some o → Oper.dst o = some d → qf ops val is ρ d = val i) ∧ ∀ t, (∀ i ∈ is, ∀ o, ops[i]? = some o → Oper.dst o ≠ some t) → qf ops val is ρ t = ρ t
  | [], ρ, _, _ => ⟨fun i h => (by cases h), fun t h => rfl⟩
  | i :: is, ρ, hd, hn => by
    have hn' := List.nodup_cons.1 hn
    cases ho : ops[i]? with
    | none =>
      have e : qf ops val (i :: is) ρ = qf ops val is ρ := by simp [qf, ho]
      obtain ⟨h1, h2⟩ := qf_at (val := val) is ρ (fun a ha b hb => hd a (by simp [ha]) b (by simp [hb])) hn'.2
      rw [e]
      refine ⟨fun j hj o d hoj hdj => ?_, fun t ht => h2 t (fun j hj => ht j (by simp [hj]))⟩
      rcases List.mem_cons.1 hj with rfl | hj
      · rw [ho] at hoj; cases hoj
      · exact h1 j hj o d hoj hdj
    | some o =>
      rw [qf_cons ho]
      obtain ⟨h1, h2⟩ := qf_at (val := val) is (updO ρ o.dst (val i)) (fun a ha b hb => hd a (by simp [ha]) b (by simp [hb])) hn'.2
      constructor
      · intro j hj o' d hoj hdj
        rcases List.mem_cons.1 hj with rfl | hj
        · rw [ho] at hoj; cases hoj
          rw [h2 d (fun x hx ox hox e => by
            have := hd j (by simp) x (by simp [hx]) _ _ d ho hox hdj e
            exact hn'.1 (this ▸ hx)), hdj]
          simp [updO, upd]
        · exact h1 j hj o' d hoj hdj
      · intro t ht
        rw [h2 t (fun x hx => ht x (by simp [hx]))]
        have := ht i (by simp) o ho
        cases hdo : o.dst with
        | none => rfl
        | some d => simp only [updO, upd]; rw [if_neg (fun e => this (by rw [hdo, e]))]


theorem clo_lt (hor : ordered ops = true) : ∀ (f a : Nat), a < ops.size → ∀ x ∈ clo ops f a, x < a := by
  intro f
  induction f with
  | zero => intro a _ x hx; cases hx
  | succ f ih =>
    intro a ha x hx
    obtain ⟨y, hy, hx⟩ := List.mem_flatMap.1 hx
    have h1 : y < a := by
      have h := List.all_eq_true.1 hor a (List.mem_range.2 ha)
      simpa using List.all_eq_true.1 h y hy
    rcases List.mem_cons.1 hx with rfl | hx
    · exact h1
    · have := ih y (by omega) x hx; omega
theorem reads_of {i j : Nat} {oi oj : Oper} {d : Nat} (h1 : ops[i]? = some oi) (h2 : ops[j]? = some oj) (hd : oj.dst = some d) (hl : d ∈ oi.looksAt ops) : reads ops i j = true := by
  simp only [reads, h1, h2, hd]; simpa using hl
theorem same_of {i j : Nat} {oi oj : Oper} {d : Nat} (h1 : ops[i]? = some oi) (h2 : ops[j]? = some oj) (hd : oj.dst = some d) (hd' : oi.dst = some d) : sameDst ops i j = true := by
  simp [sameDst, h1, h2, hd, hd']
theorem chained_get : ∀ (ws : List Nat), chained ops ws = true → ∀ (k c c' : Nat), ws[k]? = some c → ws[k + 1]? = some c' → c < c' ∧ c ∈ clo ops ops.size c'
  | [], _, k, c, c', h, _ => by simp at h
  | [a], _, k, c, c', _, h => by simp at h
  | a :: b :: ws, h, k, c, c', h1, h2 => by
    simp only [chained, Bool.and_eq_true, decide_eq_true_eq, List.contains_iff_mem] at h
    cases k with
    | zero =>
      simp at h1 h2
      subst h1 h2
      exact h.1
    | succ k => exact chained_get (b :: ws) h.2 k c c' (by simpa using h1) (by simpa using h2)
theorem chained_lt (ws : List Nat) (h : chained ops ws = true) : ∀ (k j c c' : Nat), ws[k]? = some c → ws[j]? = some c' → k < j → c < c' := by
  intro k j
  induction j with
  | zero => intro c c' _ _ hkj; omega
  | succ j ih =>
    intro c c' hk hj hkj
    have hjl : j + 1 < ws.length := (List.getElem?_eq_some_iff.1 hj).1
    obtain ⟨x, hx⟩ : ∃ x, ws[j]? = some x := ⟨_, List.getElem?_eq_getElem (by omega)⟩
    have h1 := (chained_get ws h j x c' hx hj).1
    rcases Nat.lt_or_ge k j with h2 | h2
    · have := ih c x hk hx h2; omega
    · have : k = j := by omega
      subst this
      rw [hk] at hx; cases hx; exact h1

end
end XW

/- Small helps over holdings. -/
namespace XW
open Go Go.RowKit RegInv
set_option linter.unusedSimpArgs false
set_option linter.unusedVariables false
set_option linter.unusedSectionVars false

section
variable {F : Fence} {P : Program} {n : Nat} {Q : Post} {ρ : Nat → Value} {ds : List Deferred} {w base : World} {R R' : List Res} {ops : Array Oper} {Φ : World → Prop}

theorem WAt_cons {R0 : List Res} {rest : List Oper} {c : Nat} {cs : List Nat} {o : Oper} (hs : R0.Sublist R) (ho : ops[c]? = some o) (h : ∀ (K : (Nat → Value) → List Deferred → World → Prop) (Q' : Post), (∀ ρ' R', WAt F P n Q ops rest ds base R0 cs ρ' R' → At base R' (K ρ' ds)) → AL F P n (Then K Q') ops [o] ρ ds base R) : WAt F P n Q ops rest ds base R0 (c :: cs) ρ R :=
  ⟨hs, o, ho, fun w hw => (h (fun ρ' ds' w' => ds' = ds ∧ ∃ R', Mem base w' R' ∧ WAt F P n Q ops rest ds base R0 cs ρ' R') (fun _ _ _ _ => False) (fun ρ' R' hW w' hw' => ⟨rfl, R', hw', hW⟩)).use w hw⟩
theorem WAt_nil {R0 : List Res} {rest : List Oper} (hs : R0.Sublist R) (h : AL F P n Q ops rest ρ ds base R) : WAt F P n Q ops rest ds base R0 [] ρ R := ⟨hs, h⟩

theorem Mem.pick (hw : Mem base w R) (π : List Nat) (hn : π.Nodup) : Mem base w (π.filterMap fun i => R[i]?) := by
  refine ⟨hw.below, fun r hr => ?_, fun r hr => ?_, ?_⟩
  · obtain ⟨i, _, hi⟩ := List.mem_filterMap.1 hr
    exact hw.ok r (List.mem_of_getElem? hi)
  · obtain ⟨i, _, hi⟩ := List.mem_filterMap.1 hr
    exact hw.bd r (List.mem_of_getElem? hi)
  · rw [List.pairwise_filterMap]
    refine hn.imp (fun {i j} hij r hr r' hr' k h1 h2 => ?_)
    obtain ⟨hil, hir⟩ := List.getElem?_eq_some_iff.1 hr
    obtain ⟨hjl, hjr⟩ := List.getElem?_eq_some_iff.1 hr'
    rcases Nat.lt_or_gt_of_ne hij with h | h
    · have := List.pairwise_iff_getElem.1 hw.sep i j hil hjl h
      rw [hir, hjr] at this; exact this k h1 h2
    · have := List.pairwise_iff_getElem.1 hw.sep j i hjl hil h
      rw [hir, hjr] at this; exact this k h2 h1
theorem At.pick (π : List Nat) (hn : π.Nodup) (e : (π.filterMap fun i => R[i]?) = R') (h : At base R' Φ) : At base R Φ := fun w hw => h w (e ▸ hw.pick π hn)
theorem AL.pick {l : List Oper} (π : List Nat) (hn : π.Nodup) (e : (π.filterMap fun i => R[i]?) = R') (h : AL F P n Q ops l ρ ds base R') : AL F P n Q ops l ρ ds base R := ⟨fun w hw => h.use w (e ▸ hw.pick π hn)⟩
/-- the same, where it tells its result and turns nothing -/
theorem At_callvB (hF : Wide F) {dst : Option Tmp} {ty : TypeId} {x : Operand} {pos : String} {af : Array Edge} {rest : List Oper} {f : FuncId} {first caps as : Array Value} {args : Array Operand} {ats : Array TypeId} (hE : Enters P f) (ha : F.alive = false) (hx : xv n ρ x = .func (.func f) first caps) {vs : Array Value} {u : Value} (hv : args.map (xv n ρ) = vs) (has : first ++ vs ++ caps = as) (hc : ∀ w, Mem base w R → Rets P f as w fun v w' => v = u ∧ Below w.heap.size w w') (h : AL F P n Q ops rest (updO ρ dst u) ds base R) :
    AL F P n Q ops (⟨dst, .call { callee := .value x, args := args, argTypes := ats }, ty, pos, af, none⟩ :: rest) ρ ds base R :=
  At_callv hF hE ha hx (vs := as) (by rw [hv, has]) hc fun v w w' hw ⟨hv, hb⟩ => by subst hv; exact h.use w' (hw.keep hb)
end
end XW

/- Rows of rows that are only read: what a callee has made, held as one. -/
namespace XW
open Go Go.RowKit RegInv
set_option linter.unusedSimpArgs false
set_option linter.unusedVariables false
set_option linter.unusedSectionVars false

/-- M's rows: row r lies at the head of block b r; the outer row at the head of block g -/
def Nest {α : Type} (f : α → Value) (lo hi g : Nat) (b c : Nat → Nat) (M : List (List α)) (w : World) : Prop :=
  (0 < M.length → lo ≤ g ∧ g < hi) ∧ ∀ r, r < M.length → lo ≤ b r ∧ b r < hi ∧ w.cell? ⟨g, r, none⟩ = some (.slice (some ⟨b r, 0, none⟩) (M.getD r []).length (c r)) ∧ ∀ j x, (M.getD r [])[j]? = some x → w.cell? ⟨b r, j, none⟩ = some (f x)
theorem cell_same {w w' : World} {a : Addr} (h : w'.heap[a.block]? = w.heap[a.block]?) : w'.cell? a = w.cell? a := by simp [World.cell?, h]
theorem Nest.move {α : Type} {f : α → Value} {lo hi g : Nat} {b c : Nat → Nat} {M : List (List α)} {w w' : World} (h : Nest f lo hi g b c M w) (hk : ∀ k, lo ≤ k ∧ k < hi → w'.heap[k]? = w.heap[k]?) : Nest f lo hi g b c M w' := by
  refine ⟨h.1, fun r hr => ?_⟩
  obtain ⟨h1, h2, h3, h4⟩ := h.2 r hr
  have hg := h.1 (by omega)
  exact ⟨h1, h2, (cell_same (hk g hg)).trans h3, fun j x hj => (cell_same (hk _ ⟨h1, h2⟩)).trans (h4 j x hj)⟩
section
variable {F : Fence} {P : Program} {n : Nat} {Q : Post} {ρ : Nat → Value} {ds : List Deferred} {w base : World} {R R' : List Res} {ops : Array Oper} {Φ : World → Prop} {α : Type} {f : α → Value} {lo hi g : Nat} {b c : Nat → Nat} {M : List (List α)}
variable (hF : Wide F) {dst : Option Tmp} {t ty : TypeId} {x : Operand} {pos : String} {af : Array Edge} {rest : List Oper}
include hF
end
end XW

/- Rows of rows of one's own that grew by append: each row with room behind it. -/
namespace XW
open Go Go.RowKit RegInv
set_option linter.unusedSimpArgs false
set_option linter.unusedVariables false
set_option linter.unusedSectionVars false

section
variable {F : Fence} {P : Program} {n : Nat} {Q : Post} {ρ : Nat → Value} {ds : List Deferred} {w base : World} {R R' : List Res} {ops : Array Oper} {Φ : World → Prop} {α : Type}
variable (hF : Wide F) {dst : Option Tmp} {t ty : TypeId} {x y : Operand} {pos : String} {af : Array Edge} {rest : List Oper}
include hF
/-- an empty literal -/
theorem At_slice0 (enc : α → List Value) [T : TS P t] (he : ∀ x, (enc x).length = T.sz) (h : ∀ b, AL F P n Q ops rest (updO ρ dst (.slice (some ⟨b, 0, none⟩) 0 0)) ds base (.row T.e T.sz enc (some b) 0 [] :: R)) :
    AL F P n Q ops (⟨dst, .buildSlice t 0 #[], ty, pos, af, none⟩ :: rest) ρ ds base R := ⟨fun w hw => by
  obtain ⟨i', hi', hsz, hz', hby⟩ := T.h
  have hu := T.u
  refine XL_buildSlice hF (e := T.e) (v := .slice (some ⟨w.heap.size, 0, none⟩) 0 0) (w' := w.alloc (.cells #[] T.e)) ?_ ((h _).use _ ?_)
  · simp [Instr.buildSlice, underlying, program, hu, Go.sizeOf, typeInfo, hi', hsz, Instr.fill, newRow, newObj, Sem.run_bind, Sem.run, Result.andThen]
    have e : (Array.range 0).map (fun _ : Nat => (default : Value)) = #[] := Array.eq_empty_of_size_eq_zero (by simp)
    rw [e]
  · refine hw.new ((Below.refl _ _).alloc (Nat.le_refl _) _) ⟨he, by simp, by decide, [], get_new w _, by simp⟩ (fun k hk => ?_)
    have : w.heap.size = k := Option.some.inj hk
    subst this; simp⟩
end
end XW

