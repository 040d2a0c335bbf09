/- A region that draws its order: quiet operations in whatever order, some of them ahead of all that turn memory; the others, that turn memory, in every order that their waits allow; the rest behind them. -/
import Derived.Test.YtmilnlcegcdolaaXDrawE
import Derived.Test.YtmilnlcegcdolaaXDrawT
import Derived.Test.YtmilnlcegcdolaaXB
namespace XW
open Go Go.RowKit RegInv
set_option linter.unusedSimpArgs false
set_option linter.unusedVariables false
set_option linter.unusedSectionVars false

section
variable {F : Fence} {P : Program} {n : Nat} {Q : Post} {ρ : Nat → Value} {ds : List Deferred} {w base : World} {R : List Res} {ops : Array Oper}

def readyW (ops : Array Oper) (ws done : List Nat) : List Nat := ws.filter fun c => !done.contains c && ws.all fun c' => !(clo ops ops.size c).contains c' || done.contains c'
/-- the others, as far as 'done' are done; then the rest -/
def FAt (F : Fence) (P : Program) (n : Nat) (Q : Post) (ops : Array Oper) (rest : List Oper) (ds : List Deferred) (base : World) (R0 : List Res) (ws : List Nat) : Nat → List Nat → (Nat → Value) → List Res → Prop
  | 0, done, ρ, R => ws.all done.contains = true ∧ R0.Sublist R ∧ AL F P n Q ops rest ρ ds base R
  | f + 1, done, ρ, R => R0.Sublist R ∧ (ws.all done.contains = true → AL F P n Q ops rest ρ ds base R) ∧ ∀ c ∈ readyW ops ws done, ∃ o, ops[c]? = some o ∧ ∀ w, Mem base w R → XL F P n (Then (fun ρ' ds' w' => ds' = ds ∧ ∃ R', Mem base w' R' ∧ FAt F P n Q ops rest ds base R0 ws f (c :: done) ρ' R') (fun _ _ _ _ => False)) ops [o] ρ ds w
theorem FAt_congr {rest : List Oper} {R0 : List Res} {ws : List Nat} {ρ1 ρ2 : Nat → Value} (h : ∀ t, t < n → ρ1 t = ρ2 t) : ∀ (f : Nat) (done : List Nat) (R : List Res), FAt F P n Q ops rest ds base R0 ws f done ρ1 R → FAt F P n Q ops rest ds base R0 ws f done ρ2 R
  | 0, done, R, ⟨h0, h1, h2⟩ => ⟨h0, h1, ⟨fun w hw => XL_congr h (h2.use w hw)⟩⟩
  | f + 1, done, R, ⟨h1, h2, h3⟩ => ⟨h1, fun ha => ⟨fun w hw => XL_congr h ((h2 ha).use w hw)⟩, fun c hc => by
    obtain ⟨o, ho, hx⟩ := h3 c hc
    exact ⟨o, ho, fun w hw => XL_congr h (hx w hw)⟩⟩
theorem FAt.sub {rest : List Oper} {R0 : List Res} {ws : List Nat} {f : Nat} {done : List Nat} {R : List Res} (h : FAt F P n Q ops rest ds base R0 ws f done ρ R) : R0.Sublist R := by
  cases f with
  | zero => exact h.2.1
  | succ f => exact h.1
theorem FAt.last {rest : List Oper} {R0 : List Res} {ws : List Nat} {f : Nat} {done : List Nat} {R : List Res} (h : FAt F P n Q ops rest ds base R0 ws f done ρ R) (ha : ws.all done.contains = true) : AL F P n Q ops rest ρ ds base R := by
  cases f with
  | zero => exact h.2.2
  | succ f => exact h.2.1 ha
theorem FAt.op {rest : List Oper} {R0 : List Res} {ws : List Nat} {f : Nat} {done : List Nat} {R : List Res} {c : Nat} (h : FAt F P n Q ops rest ds base R0 ws f done ρ R) (hc : c ∈ readyW ops ws done) : ∃ f', ∃ o, ops[c]? = some o ∧ ∀ w, Mem base w R → XL F P n (Then (fun ρ' ds' w' => ds' = ds ∧ ∃ R', Mem base w' R' ∧ FAt F P n Q ops rest ds base R0 ws f' (c :: done) ρ' R') (fun _ _ _ _ => False)) ops [o] ρ ds w := by
  cases f with
  | zero =>
    have h1 := h.1
    rw [List.all_eq_true] at h1
    have h2 := List.mem_filter.1 hc
    have h3 := h1 c h2.1
    rw [h3] at h2
    simp at h2
  | succ f => exact ⟨f, h.2.2 c hc⟩
theorem FAt_step {f : Nat} {rest : List Oper} {R0 : List Res} {ws done l : List Nat} (hs : R0.Sublist R) (hl : (!ws.all done.contains && readyW ops ws done == l) = true) (h : ∀ c ∈ l, ∃ o, ops[c]? = some o ∧ ∀ w, Mem base w R → XL F P n (Then (fun ρ' ds' w' => ds' = ds ∧ ∃ R', Mem base w' R' ∧ FAt F P n Q ops rest ds base R0 ws f (c :: done) ρ' R') (fun _ _ _ _ => False)) ops [o] ρ ds w) :
    FAt F P n Q ops rest ds base R0 ws (f + 1) done ρ R := by
  rw [Bool.and_eq_true] at hl
  refine ⟨hs, fun ha => ?_, fun c hc => ?_⟩
  · rw [ha] at hl; cases hl.1
  · have := hl.2
    rw [beq_iff_eq] at this
    exact h c (this ▸ hc)
theorem FAt_op {f c : Nat} {rest : List Oper} {R0 : List Res} {ws done : List Nat} {o : Oper} (ho : ops[c]? = some o)
    (h : ∀ (K : (Nat → Value) → List Deferred → World → Prop) (Q' : Post), (∀ ρ' R', FAt F P n Q ops rest ds base R0 ws f (c :: done) ρ' R' → At base R' (K ρ' ds)) → AL F P n (Then K Q') ops [o] ρ ds base R) :
    ∃ o, ops[c]? = some o ∧ ∀ w, Mem base w R → XL F P n (Then (fun ρ' ds' w' => ds' = ds ∧ ∃ R', Mem base w' R' ∧ FAt F P n Q ops rest ds base R0 ws f (c :: done) ρ' R') (fun _ _ _ _ => False)) ops [o] ρ ds w :=
  ⟨o, ho, fun w hw => (h _ _ fun ρ' R' hA w' hw' => ⟨rfl, R', hw', hA⟩).use w hw⟩
theorem FAt_done {f : Nat} {rest : List Oper} {R0 : List Res} {ws done : List Nat} (hs : R0.Sublist R) (ha : (ws.all done.contains && readyW ops ws done == []) = true) (h : AL F P n Q ops rest ρ ds base R) : FAt F P n Q ops rest ds base R0 ws f done ρ R := by
  rw [Bool.and_eq_true] at ha
  cases f with
  | zero => exact ⟨ha.1, hs, h⟩
  | succ f =>
    refine ⟨hs, fun _ => h, fun c hc => ?_⟩
    have := ha.2
    rw [beq_iff_eq] at this
    rw [this] at hc; cases hc
theorem AQF_doneF {R0 R1 : List Res} {es : List Nat} {rest : List Oper} {ws : List Nat} {f : Nat} (h : FAt F P n Q ops rest ds base R0 ws f [] ρ R) : AQF F P n ops ds base R1 R0 es [] ρ (fun ρ' => FAt F P n Q ops rest ds base R0 ws f [] ρ' R) := h
def earlyOkF (ops : Array Oper) (es ws : List Nat) : Bool := ws.all fun c => es.all fun i => (clo ops ops.size c).contains i
def drawOkF (ops : Array Oper) (m : Nat) (is ws : List Nat) : Bool :=
  ordered ops && decide (m ≤ ops.size) && ops.toList.all noSD &&
  ((List.range ops.size).all fun i => decide (i < m) || (List.range i).all fun j => (clo ops ops.size i).contains j) &&
  ((List.range m).all fun i => (List.range m).all fun j => (i == j && !reads ops i j) || (!sameDst ops i j && (!reads ops i j || (clo ops ops.size i).contains j))) &&
  (List.range m).all (fun i => is.contains i || ws.contains i) && is.all (fun i => decide (i < m) && !ws.contains i && !ws.any (reads ops i)) && ws.all (fun i => decide (i < m)) && decide (is.Pairwise (· < ·))
/-- THE RULE. -/
theorem At_drawF (hF : Wide F) {id : Nat} {l : List Oper} (m : Nat) (is es ws : List Nat) (R0 : List Res) (hm : P.follows .mixedOrders = true) (hck : drawOkF l.toArray m is ws = true) (hes : earlyOkF l.toArray es ws = true)
    (hq : AQF F P n l.toArray ds base R R0 es is ρ (fun ρ' => FAt F P n Q l.toArray (l.drop m) ds base R0 ws ws.length [] ρ' R)) : At base R (X F P n Q (.region id l.toArray true) ρ ds) := fun w hw => by
  simp only [drawOkF, Bool.and_eq_true, List.all_eq_true, List.mem_range, decide_eq_true_eq, Bool.or_eq_true, List.contains_iff_mem, Bool.not_eq_true', beq_iff_eq] at hck
  obtain ⟨⟨⟨⟨⟨⟨⟨⟨hor, hms⟩, hno⟩, hlate⟩, hpair⟩, hcov⟩, hqw⟩, hwm⟩, hsort⟩ := hck
  have hnd : is.Nodup := hsort.imp (fun {a b} h e => by omega)
  have hms' : m ≤ l.length := by simpa using hms
  obtain ⟨val, hval, hend⟩ := AQF_vals is ρ _ hnd hq
  have hpr : ∀ (i j : Nat) (oi oj : Oper) (d : Nat), i < m → j < m → i ≠ j → l.toArray[i]? = some oi → l.toArray[j]? = some oj → oj.dst = some d → oi.dst ≠ some d ∧ (d ∈ oi.looksAt l.toArray → j ∈ clo l.toArray l.toArray.size i) := by
    intro i j oi oj d hi hj hij h1 h2 h3
    rcases hpair i hi j hj with h | h
    · exact absurd h.1 hij
    · refine ⟨fun e => ?_, fun hd => ?_⟩
      · have := same_of h1 h2 h3 e
        rw [h.1] at this; cases this
      · rcases h.2 with h4 | h4
        · have := reads_of h1 h2 h3 hd
          rw [h4] at this; cases this
        · exact h4
  have hself : ∀ i, i < m → reads l.toArray i i = false := fun i hi => by
    rcases hpair i hi i hi with h | h
    · exact h.2
    · rcases h.2 with h4 | h4
      · exact h4
      · have := clo_lt hor _ i (by simp; omega) i h4; omega
  have hism : ∀ i ∈ is, i < m := fun i hi => (hqw i hi).1.1
  have hisw : ∀ i ∈ is, i ∉ ws := fun i hi hw => by
    have := (hqw i hi).1.2
    have h2 : ws.contains i = true := by simpa using hw
    rw [this] at h2; cases h2
  have hqr : ∀ i ∈ is, ∀ c ∈ ws, reads l.toArray i c = false := fun i hi c hc => by
    have h2 := (hqw i hi).2
    rw [List.any_eq_false] at h2
    simpa using h2 c hc
  have hdq : ∀ (is' : List Nat), (∀ i ∈ is', i ∈ is) → ∀ i ∈ is', ∀ j ∈ is', ∀ oi oj d, l.toArray[i]? = some oi → l.toArray[j]? = some oj → Oper.dst oi = some d → Oper.dst oj = some d → i = j := by
    intro is' hs i hi j hj oi oj d h1 h2 h3 h4
    by_cases e : i = j
    · exact e
    · exact absurd h3 (hpr i j oi oj d (hism i (hs i hi)) (hism j (hs j hj)) e h1 h2 h4).1
  -- the state while the first m are under way
  have hA := qf_at (ops := l.toArray) (val := val) is ρ (hdq is (fun _ h => h)) hnd
  refine region_inv hm hor (fun b a w => (∀ i', b i' = true → ∀ j ∈ deps l.toArray i', b j = true) ∧
    ((∃ (ρ' : Nat → Value) (Rk : List Res) (k : Nat) (done : List Nat), a = fr n ρ' ds ∧ (∀ i, m ≤ i → b i = false) ∧ Mem base w Rk ∧ (done = [] → Rk = R) ∧ (∀ i ∈ is, ∀ o d, l.toArray[i]? = some o → Oper.dst o = some d → b i = true → ρ' d = val i) ∧
        (∀ t : Nat, (∀ (i : Nat) (o : Oper), i < m → l.toArray[i]? = some o → o.dst ≠ some t) → ρ' t = ρ t) ∧ (∀ c ∈ ws, (b c = true ↔ c ∈ done)) ∧ (∀ c ∈ done, c ∈ ws) ∧ FAt F P n Q l.toArray (l.drop m) ds base R0 ws k done (qf l.toArray val is ρ') Rk) ∨
     ∃ k : Nat, m ≤ k ∧ (∀ i, i < l.length → (b i = true ↔ i < k + 1)) ∧ wpListIn F 0 P l.toArray (lift n Q) (l.drop (k + 1)) a w)) ?_ ?_ ?_
  · exact ⟨fun i h => (by cases h), .inl ⟨ρ, R, ws.length, [], rfl, fun _ _ => rfl, hw.drewN 1, fun _ => rfl, fun i _ o d _ _ h => (by cases h), fun _ _ => rfl, fun c _ => by simp, fun c h => (by cases h), hend⟩⟩
  · rintro i hi b a w ⟨hcl, hI⟩ hbi hd
    have hi' : i < l.length := by simpa using hi
    have hcl' : ∀ i', upb b i i' = true → ∀ j ∈ deps l.toArray i', upb b i j = true := by
      intro i' h' j hj
      rcases upb_or h' with rfl | ⟨_, h'⟩
      · have hne : j ≠ i' := by rintro rfl; rw [hd _ hj] at hbi; cases hbi
        rw [upb_ne hne]; exact hd j hj
      · have := hcl i' h' j hj
        by_cases e : j = i
        · rw [e, upb_self]
        · rw [upb_ne e]; exact this
    have hcd := clo_done hcl l.toArray.size i hd
    obtain ⟨o, ho⟩ : ∃ o, l.toArray[i]? = some o := ⟨_, Array.getElem?_eq_getElem hi⟩
    have hol : l[i]? = some o := by simpa using ho
    have hnd' : noSD o = true := hno o (by simpa using List.mem_of_getElem? hol)
    have hlt : ∀ j, m ≤ i → j < i → b j = true := fun j hmi hji => by
      rcases hlate i hi with h | h
      · omega
      · exact hcd j (h j hji)
    rcases hI with ⟨ρ', Rk, k, done, rfl, hb0, hmem, hk0, hv1, hU, hws, hkw, hW⟩ | ⟨k, hk, hbk, hx⟩
    · -- what is seen where an operation looks
      have hB := qf_at (ops := l.toArray) (val := val) is ρ' (hdq is (fun _ h => h)) hnd
      by_cases him : i < m
      · rcases hcov i him with hiq | hiw
        · -- a quiet one
          obtain ⟨pre, post, hsplit⟩ := List.append_of_mem hiq
          obtain ⟨o', ho', hqi⟩ := hval pre i post hsplit
          rw [ho] at ho'; cases ho'
          obtain ⟨E, hE⟩ := hW.sub.exists_perm_append
          have hpre : ∀ x ∈ pre, x ∈ is := fun x hx => by rw [hsplit]; simp [hx]
          have hC := qf_at (ops := l.toArray) (val := val) pre ρ (hdq pre hpre) (hnd.sublist (by rw [hsplit]; exact List.sublist_append_left _ _))
          obtain ⟨R1, hR1, hq1⟩ : ∃ R1, Rk.Perm R1 ∧ QStep F P n l.toArray ds base R1 o (qf l.toArray val pre ρ) (val i) := by
            unfold QE at hqi
            by_cases he : es.contains i = true
            · rw [if_pos he] at hqi
              have hk1 : done = [] := by
                cases hd0 : done with
                | nil => rfl
                | cons c cs =>
                  exfalso
                  have hcw : c ∈ ws := hkw c (by rw [hd0]; exact List.mem_cons_self ..)
                  have hbc : b c = true := (hws c hcw).2 (by rw [hd0]; exact List.mem_cons_self ..)
                  simp only [earlyOkF, List.all_eq_true, List.contains_iff_mem] at hes
                  have hic := hes c hcw i (by simpa using he)
                  have : b i = true := clo_done hcl l.toArray.size c (fun j hj => hcl c hbc j hj) i hic
                  rw [hbi] at this; cases this
              exact ⟨R, by rw [hk0 hk1], hqi⟩
            · rw [if_neg he] at hqi
              exact ⟨R0 ++ E, hE, hqi E⟩
          refine qstep_run hF ho hnd' hq1 (fun d hdl hdn => ?_) (hmem.perm hR1.symm) (fun w' hw' => ⟨hcl', .inl ⟨_, Rk, k, done, rfl, fun i' h' => ?_, hw'.perm hR1, hk0, ?_, ?_, ?_, hkw, ?_⟩⟩)
          · -- they agree where o looks
            by_cases hx : ∃ j oj, j < m ∧ l.toArray[j]? = some oj ∧ oj.dst = some d
            · obtain ⟨j, oj, hj, hoj, hdj⟩ := hx
              by_cases hji : j = i
              · -- it would look at its own result
                subst hji
                have := hself j hj
                rw [reads_of ho ho (by rw [ho] at hoj; cases hoj; exact hdj) hdl] at this; cases this
              · have hc := (hpr i j o oj d him hj (fun e => hji e.symm) ho hoj hdj).2 hdl
                have hbj := hcd j hc
                rcases hcov j hj with hjq | hjw
                · rw [hv1 j hjq oj d hoj hdj hbj]
                  have hjl : j < i := clo_lt hor _ i hi j hc
                  have hjp : j ∈ pre := by
                    rw [hsplit] at hjq hsort
                    rcases List.mem_append.1 hjq with h | h
                    · exact h
                    · have h2 := (List.pairwise_append.1 hsort).2.1
                      rcases List.mem_cons.1 h with h | h
                      · omega
                      · have := (List.pairwise_cons.1 h2).1 j h; omega
                  exact hC.1 j hjp oj d hoj hdj
                · have := hqr i hiq j hjw
                  rw [reads_of ho hoj hdj hdl] at this; cases this
            · have hn1 : ∀ x ∈ pre, ∀ ox, l.toArray[x]? = some ox → Oper.dst ox ≠ some d := fun x hx' ox hox e => hx ⟨x, ox, hism x (hpre x hx'), hox, e⟩
              rw [hC.2 d hn1]
              exact (hU d (fun x ox hx' hox e => hx ⟨x, ox, hx', hox, e⟩)).symm
          · rw [upb_ne (by omega)]; exact hb0 i' h'
          · intro j hj oj d hoj hdj hbj
            by_cases e : j = i
            · subst e
              rw [ho] at hoj; cases hoj
              rw [hdj]; simp [updO, upd]
            · rw [upb_ne e] at hbj
              have hne := (hpr i j o oj d him (hism j hj) (fun e' => e e'.symm) ho hoj hdj).1
              have : updO ρ' o.dst (val i) d = ρ' d := by
                cases hdo : o.dst with
                | none => rfl
                | some d' => simp only [updO, upd]; rw [if_neg (fun e' => hne (by rw [hdo, e']))]
              rw [this]; exact hv1 j hj oj d hoj hdj hbj
          · intro t ht
            have h1 : o.dst ≠ some t := ht i o him ho
            have : updO ρ' o.dst (val i) t = ρ' t := by
              cases hdo : o.dst with
              | none => rfl
              | some d' => simp only [updO, upd]; rw [if_neg (fun e' => h1 (by rw [hdo, e']))]
            rw [this]; exact hU t ht
          · intro c hj
            have hci : c ≠ i := fun e => hisw i hiq (e ▸ hj)
            rw [upb_ne hci]; exact hws c hj
          · refine FAt_congr (fun t ht => ?_) _ _ _ hW
            have hD := qf_at (ops := l.toArray) (val := val) is (updO ρ' o.dst (val i)) (hdq is (fun _ h => h)) hnd
            by_cases hx : ∃ j ∈ is, ∃ oj, l.toArray[j]? = some oj ∧ Oper.dst oj = some t
            · obtain ⟨j, hj, oj, hoj, hdj⟩ := hx
              rw [hB.1 j hj oj t hoj hdj, hD.1 j hj oj t hoj hdj]
            · have hn : ∀ j ∈ is, ∀ oj, l.toArray[j]? = some oj → Oper.dst oj ≠ some t := fun j hj oj hoj e => hx ⟨j, hj, oj, hoj, e⟩
              rw [hB.2 t hn, hD.2 t hn]
              have h1 := hn i hiq o ho
              cases hdo : o.dst with
              | none => rfl
              | some d' => simp only [updO, upd]; rw [if_neg (fun e' => h1 (by rw [hdo, e']))]
        · -- one of the chain
          have hnot : i ∉ done := fun h => by
            have := (hws i hiw).2 h
            rw [hbi] at this; cases this
          have hrd : i ∈ readyW l.toArray ws done := List.mem_filter.2 ⟨hiw, by
            rw [Bool.and_eq_true]
            refine ⟨by simpa using hnot, List.all_eq_true.2 fun c hc => ?_⟩
            by_cases h : (clo l.toArray l.toArray.size i).contains c = true
            · rw [h]
              have := (hws c hc).1 (hcd c (by simpa using h))
              simpa using this
            · rw [Bool.not_eq_true] at h
              rw [h]; rfl⟩
          obtain ⟨k', o', ho', hrun⟩ := hW.op hrd
          rw [ho] at ho'; cases ho'
          refine wpOp_frame ho hnd' (ρ1 := qf l.toArray val is ρ') (fun d hdl hdn => ?_) (K1 := fun ρ'' w' => ∃ R', Mem base w' R' ∧ FAt F P n Q l.toArray (l.drop m) ds base R0 ws k' (i :: done) ρ'' R') (fun ρ1 ρ2 w' he ⟨R', h1, h2⟩ => ⟨R', h1, FAt_congr he _ _ _ h2⟩) (hrun w hmem) (fun v w' ⟨R', h1, h2⟩ => ⟨hcl', .inl ⟨_, R', k', i :: done, rfl, fun i' h' => ?_, h1, fun h => (by cases h), ?_, ?_, ?_, fun c hc => (by rcases List.mem_cons.1 hc with rfl | hc; exact hiw; exact hkw c hc), ?_⟩⟩)
          · by_cases hx : ∃ x ∈ is, ∃ ox, l.toArray[x]? = some ox ∧ Oper.dst ox = some d
            · obtain ⟨x, hx, ox, hox, hdx⟩ := hx
              rw [hB.1 x hx ox d hox hdx]
              have hxi : i ≠ x := fun e => hisw x hx (e ▸ hiw)
              have hc := (hpr i x o ox d him (hism x hx) hxi ho hox hdx).2 hdl
              exact (hv1 x hx ox d hox hdx (hcd x hc)).symm
            · exact hB.2 d (fun x hx' ox hox e => hx ⟨x, hx', ox, hox, e⟩)
          · rw [upb_ne (by omega)]; exact hb0 i' h'
          · intro x hx ox d hox hdx hbx
            have hxi : x ≠ i := fun e => hisw x hx (e ▸ hiw)
            rw [upb_ne hxi] at hbx
            have hne := (hpr i x o ox d him (hism x hx) (fun e' => hxi e'.symm) ho hox hdx).1
            have : updO ρ' o.dst v d = ρ' d := by
              cases hdo : o.dst with
              | none => rfl
              | some d' => simp only [updO, upd]; rw [if_neg (fun e' => hne (by rw [hdo, e']))]
            rw [this]; exact hv1 x hx ox d hox hdx hbx
          · intro t ht
            have h1 : o.dst ≠ some t := ht i o him ho
            have : updO ρ' o.dst v t = ρ' t := by
              cases hdo : o.dst with
              | none => rfl
              | some d' => simp only [updO, upd]; rw [if_neg (fun e' => h1 (by rw [hdo, e']))]
            rw [this]; exact hU t ht
          · intro c hc
            by_cases e : c = i
            · subst e; simp [upb_self]
            · rw [upb_ne e, hws c hc]
              simp [e]
          · refine FAt_congr (fun t ht => ?_) _ _ _ h2
            have hD := qf_at (ops := l.toArray) (val := val) is (updO ρ' o.dst v) (hdq is (fun _ h => h)) hnd
            have hnq : ∀ x ∈ is, ∀ ox d, l.toArray[x]? = some ox → Oper.dst ox = some d → o.dst ≠ some d := fun x hx ox d hox hdx => (hpr i x o ox d him (hism x hx) (fun e => hisw x hx (e ▸ hiw)) ho hox hdx).1
            by_cases hx : ∃ x ∈ is, ∃ ox, l.toArray[x]? = some ox ∧ Oper.dst ox = some t
            · obtain ⟨x, hx, ox, hox, hdx⟩ := hx
              rw [hD.1 x hx ox t hox hdx]
              have h1 := hnq x hx ox t hox hdx
              have : updO (qf l.toArray val is ρ') o.dst v t = qf l.toArray val is ρ' t := by
                cases hdo : o.dst with
                | none => rfl
                | some d' => simp only [updO, upd]; rw [if_neg (fun e' => h1 (by rw [hdo, e']))]
              rw [this, hB.1 x hx ox t hox hdx]
            · have hn : ∀ x ∈ is, ∀ ox, l.toArray[x]? = some ox → Oper.dst ox ≠ some t := fun x hx' ox hox e => hx ⟨x, hx', ox, hox, e⟩
              rw [hD.2 t hn]
              cases hdo : o.dst with
              | none => exact hB.2 t hn
              | some d' =>
                simp only [updO, upd]
                by_cases e : t = d'
                · rw [if_pos e, if_pos e]
                · rw [if_neg e, if_neg e]; exact hB.2 t hn
      · -- the first of the later ones
        have him' : i = m := by
          rcases Nat.lt_or_ge m i with h | h
          · have := hlt m (by omega) h
            rw [hb0 m (Nat.le_refl _)] at this; cases this
          · omega
        subst him'
        have hall : ∀ j, j < i → b j = true := fun j hj => hlt j (Nat.le_refl _) hj
        have hdn : ws.all done.contains = true := List.all_eq_true.2 fun c hc => by
          have := (hws c hc).1 (hall c (hwm c hc))
          simpa using this
        have hW := hW.last hdn
        have hx : wpListIn F 0 P l.toArray (lift n Q) (l.drop i) (fr n ρ' ds) w := XL_congr (fun t ht => by
          by_cases hx : ∃ x ∈ is, ∃ ox, l.toArray[x]? = some ox ∧ Oper.dst ox = some t
          · obtain ⟨x, hx, ox, hox, hdx⟩ := hx
            rw [hB.1 x hx ox t hox hdx]
            exact (hv1 x hx ox t hox hdx (hall x (hism x hx))).symm
          · exact hB.2 t (fun x hx' ox hox e => hx ⟨x, hx', ox, hox, e⟩)) (hW.use w hmem)
        have hdrop : l.drop i = o :: l.drop (i + 1) := by
          rw [List.drop_eq_getElem_cons hi']
          have : l[i] = o := (List.getElem?_eq_some_iff.1 hol).2
          rw [this]
        rw [hdrop] at hx
        have hnext : ∀ a' w', wpListIn F 0 P l.toArray (lift n Q) (l.drop (i + 1)) a' w' → (∀ i', upb b i i' = true → ∀ j ∈ deps l.toArray i', upb b i j = true) ∧
            ((∃ (ρ' : Nat → Value) (Rk : List Res) (k : Nat) (done : List Nat), a' = fr n ρ' ds ∧ (∀ x, i ≤ x → upb b i x = false) ∧ Mem base w' Rk ∧ (done = [] → Rk = R) ∧ (∀ x ∈ is, ∀ o d, l.toArray[x]? = some o → Oper.dst o = some d → upb b i x = true → ρ' d = val x) ∧
              (∀ t : Nat, (∀ (x : Nat) (o : Oper), x < i → l.toArray[x]? = some o → o.dst ≠ some t) → ρ' t = ρ t) ∧ (∀ c ∈ ws, (upb b i c = true ↔ c ∈ done)) ∧ (∀ c ∈ done, c ∈ ws) ∧ FAt F P n Q l.toArray (l.drop i) ds base R0 ws k done (qf l.toArray val is ρ') Rk) ∨
             ∃ k : Nat, i ≤ k ∧ (∀ x, x < l.length → (upb b i x = true ↔ x < k + 1)) ∧ wpListIn F 0 P l.toArray (lift n Q) (l.drop (k + 1)) a' w') := by
          intro a' w' h
          refine ⟨hcl', .inr ⟨i, Nat.le_refl _, fun j hj => ?_, h⟩⟩
          by_cases e : j = i
          · subst e; simp [upb_self]
          · rw [upb_ne e]
            by_cases hji : j < i
            · simp [hall j hji]; omega
            · rw [hb0 j (by omega)]; simp; omega
        unfold wpOpIn
        rw [ho]
        simp only
        unfold wpListIn at hx
        split
        · rename_i hw'
          rw [if_pos hw'] at hx
          exact Oper.wpIn_mono hnext hx
        · rename_i hw'
          rw [if_neg hw'] at hx
          exact ⟨hx.1, hnext _ _ hx.2⟩
    · -- a later one
      have hik : i = k + 1 := by
        have h1 : ¬ i < k + 1 := fun h => by
          have := (hbk i hi').2 h
          rw [hbi] at this; cases this
        rcases Nat.lt_or_ge (k + 1) i with h | h
        · have := hlt (k + 1) (by omega) h
          have := (hbk (k + 1) (by omega)).1 this
          omega
        · omega
      subst hik
      have hdrop : l.drop (k + 1) = o :: l.drop (k + 1 + 1) := by
        rw [List.drop_eq_getElem_cons hi']
        have : l[k + 1] = o := (List.getElem?_eq_some_iff.1 hol).2
        rw [this]
      rw [hdrop] at hx
      unfold wpOpIn
      rw [ho]
      simp only
      unfold wpListIn at hx
      split
      · rename_i hw'
        rw [if_pos hw'] at hx
        refine Oper.wpIn_mono (fun a' w' h => ⟨hcl', .inr ⟨k + 1, by omega, fun j hj => ?_, h⟩⟩) hx
        by_cases e : j = k + 1
        · subst e; simp [upb_self]
        · rw [upb_ne e, hbk j hj]; omega
      · rename_i hw'
        rw [if_neg hw'] at hx
        refine ⟨hx.1, hcl', .inr ⟨k + 1, by omega, fun j hj => ?_, hx.2⟩⟩
        by_cases e : j = k + 1
        · subst e; simp [upb_self]
        · rw [upb_ne e, hbk j hj]; omega
  · rintro b a w hall ⟨_, hI⟩
    rcases hI with ⟨ρ', Rk, k, done, rfl, hb0, hmem, hk0, hv1, hU, hws, hkw, hW⟩ | ⟨k, hk, hbk, hx⟩
    · have hml : m = l.length := by
        rcases Nat.lt_or_ge m l.length with h | h
        · have := hall m (by simpa using h)
          rw [hb0 m (Nat.le_refl _)] at this; cases this
        · omega
      have hB := qf_at (ops := l.toArray) (val := val) is ρ' (hdq is (fun _ h => h)) hnd
      have hdn : ws.all done.contains = true := List.all_eq_true.2 fun c hc => by
        have := (hws c hc).1 (hall c (by have := hwm c hc; simp; omega))
        simpa using this
      have hW := hW.last hdn
      have hx : wpListIn F 0 P l.toArray (lift n Q) (l.drop m) (fr n ρ' ds) w := XL_congr (fun t ht => by
        by_cases hx : ∃ x ∈ is, ∃ ox, l.toArray[x]? = some ox ∧ Oper.dst ox = some t
        · obtain ⟨x, hx, ox, hox, hdx⟩ := hx
          rw [hB.1 x hx ox t hox hdx]
          exact (hv1 x hx ox t hox hdx (hall x (by have := hism x hx; simp; omega))).symm
        · exact hB.2 t (fun x hx' ox hox e => hx ⟨x, hx', ox, hox, e⟩)) (hW.use w hmem)
      rw [List.drop_of_length_le (by omega)] at hx
      exact hx
    · have : l.length ≤ k + 1 := by
        rcases Nat.lt_or_ge (k + 1) l.length with h | h
        · have := (hbk (k + 1) h).1 (hall (k + 1) (by simpa using h))
          omega
        · exact h
      rw [List.drop_of_length_le this] at hx
      exact hx
end
end XW
