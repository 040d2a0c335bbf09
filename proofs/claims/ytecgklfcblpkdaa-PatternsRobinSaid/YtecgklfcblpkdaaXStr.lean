import Derived.Test.YtecgklfcblpkdaaXB
import Derived.Laws.Small
import Derived.Laws.Slices
import Derived.Deep.Upon
import Derived.Deep.AppendSrc
import Derived.Test.YtecgklfcblpkdaaWWords
/- A region that draws its order: quiet operations in whatever order, some of them ahead of a chain of others that turn memory, some beside it; the rest behind them. -/
namespace XW
open Go Go.RowKit RegInv
set_option linter.unusedSimpArgs false
set_option linter.unusedVariables false
set_option linter.unusedSectionVars false
section
variable {F : Fence} {P : Program} {n : Nat} {Q : Post} {ρ : Nat → Value} {ds : List Deferred} {w base : World} {R : List Res} {ops : Array Oper}
def QE (F : Fence) (P : Program) (n : Nat) (ops : Array Oper) (ds : List Deferred) (base : World) (R R0 : List Res) (es : List Nat) (i : Nat) (o : Oper) (ρ : Nat → Value) (v : Value) : Prop :=
  if es.contains i = true then QStep F P n ops ds base R o ρ v else ∀ E, QStep F P n ops ds base (R0 ++ E) o ρ v
def AQF (F : Fence) (P : Program) (n : Nat) (ops : Array Oper) (ds : List Deferred) (base : World) (R R0 : List Res) (es : List Nat) : List Nat → (Nat → Value) → ((Nat → Value) → Prop) → Prop
  | [], ρ, K => K ρ
  | i :: is, ρ, K => ∃ o v, ops[i]? = some o ∧ QE F P n ops ds base R R0 es i o ρ v ∧ AQF F P n ops ds base R R0 es is (updO ρ o.dst v) K
def earlyOk (ops : Array Oper) (es ws : List Nat) : Bool := match ws with
  | [] => true
  | c :: _ => es.all fun i => (clo ops ops.size c).contains i
theorem AQF_early {R0 : List Res} {es : List Nat} {i : Nat} {is : List Nat} {o : Oper} {v : Value} {K : (Nat → Value) → Prop} (he : es.contains i = true) (ho : ops[i]? = some o) (hs : ∀ (K : (Nat → Value) → List Deferred → World → Prop) (Q : Post), At base R (K (updO ρ o.dst v) ds) → AL F P n (Then K Q) ops [o] ρ ds base R) (h : AQF F P n ops ds base R R0 es is (updO ρ o.dst v) K) : AQF F P n ops ds base R R0 es (i :: is) ρ K := ⟨o, v, ho, by rw [QE, if_pos he]; exact hs, h⟩
theorem AQF_late {R0 : List Res} {es : List Nat} {i : Nat} {is : List Nat} {o : Oper} {v : Value} {K : (Nat → Value) → Prop} (he : es.contains i = false) (ho : ops[i]? = some o) (hs : ∀ (E : List Res) (K : (Nat → Value) → List Deferred → World → Prop) (Q : Post), At base (R0 ++ E) (K (updO ρ o.dst v) ds) → AL F P n (Then K Q) ops [o] ρ ds base (R0 ++ E)) (h : AQF F P n ops ds base R R0 es is (updO ρ o.dst v) K) : AQF F P n ops ds base R R0 es (i :: is) ρ K := ⟨o, v, ho, by rw [QE, if_neg (by rw [he]; simp)]; exact fun E K Q => hs E K Q, h⟩
theorem is_AQF {R0 : List Res} {es : List Nat} {i : Nat} {is : List Nat} {K : (Nat → Value) → Prop} (h : AQF F P n ops ds base R R0 es (i :: is) ρ K) : AQF F P n ops ds base R R0 es (i :: is) ρ K := h
theorem AQF_done {R0 R1 : List Res} {es : List Nat} {rest : List Oper} {ws : List Nat} (h : WAt F P n Q ops rest ds base R0 ws ρ R) : AQF F P n ops ds base R1 R0 es [] ρ (fun ρ' => WAt F P n Q ops rest ds base R0 ws ρ' R) := h
theorem AQF_vals {R0 : List Res} {es : List Nat} : ∀ (is : List Nat) (ρ : Nat → Value) (K : (Nat → Value) → Prop), is.Nodup → AQF F P n ops ds base R R0 es is ρ K →
    ∃ val : Nat → Value, (∀ pre i post, is = pre ++ i :: post → ∃ o, ops[i]? = some o ∧ QE F P n ops ds base R R0 es i o (qf ops val pre ρ) (val i)) ∧ K (qf ops val is ρ)
  | [], ρ, K, _, h => ⟨fun _ => undef, fun pre i post e => (by cases pre <;> cases e), h⟩
  | i :: is, ρ, K, hn, ⟨o, v, ho, hq, h⟩ => by
    have hn' := List.nodup_cons.1 hn
    obtain ⟨val, h1, h2⟩ := AQF_vals is _ K hn'.2 h
    have hc : ∀ (l : List Nat) (ρ' : Nat → Value), (∀ j ∈ l, j ≠ i) → qf ops (fun j => if j = i then v else val j) l ρ' = qf ops val l ρ' := fun l ρ' hl => qf_congr l ρ' (fun j hj => if_neg (hl j hj))
    have hne : ∀ j ∈ is, j ≠ i := fun j hj e => hn'.1 (e ▸ hj)
    refine ⟨fun j => if j = i then v else val j, ?_, ?_⟩
    · intro pre j post e
      cases pre with
      | nil =>
        simp only [List.nil_append, List.cons.injEq] at e
        obtain ⟨rfl, rfl⟩ := e
        refine ⟨o, ho, ?_⟩
        simp only [if_true]
        exact hq
      | cons p pre =>
        simp only [List.cons_append, List.cons.injEq] at e
        obtain ⟨rfl, rfl⟩ := e
        obtain ⟨o', ho', hq'⟩ := h1 pre j post rfl
        refine ⟨o', ho', ?_⟩
        rw [qf_cons ho, hc pre _ (fun x hx => hne x (by simp [hx]))]
        simp only [if_true]
        rw [if_neg (hne j (by simp))]
        exact hq'
    · rw [qf_cons ho, hc is _ hne]
      simp only [if_true]
      exact h2
theorem At_drawE (hF : Wide F) {id : Nat} {l : List Oper} (m : Nat) (is es ws : List Nat) (R0 : List Res) (hm : P.follows .mixedOrders = true) (hck : drawOkW l.toArray m is ws = true) (hes : earlyOk l.toArray es ws = true)
    (hq : AQF F P n l.toArray ds base R R0 es is ρ (fun ρ' => WAt F P n Q l.toArray (l.drop m) ds base R0 ws ρ' R)) : At base R (X F P n Q (.region id l.toArray true) ρ ds) := fun w hw => by
  simp only [drawOkW, Bool.and_eq_true, List.all_eq_true, List.mem_range, decide_eq_true_eq, Bool.or_eq_true, List.contains_iff_mem, Bool.not_eq_true', beq_iff_eq] at hck
  obtain ⟨⟨⟨⟨⟨⟨⟨⟨⟨hor, hms⟩, hno⟩, hlate⟩, hpair⟩, hchain⟩, hcov⟩, hqw⟩, hwm⟩, hsort⟩ := hck
  have hnd : is.Nodup := hsort.imp (fun {a b} h e => by omega)
  have hms' : m ≤ l.length := by simpa using hms
  obtain ⟨val, hval, hend⟩ := AQF_vals is ρ _ hnd hq
  have hpr : ∀ (i j : Nat) (oi oj : Oper) (d : Nat), i < m → j < m → i ≠ j → l.toArray[i]? = some oi → l.toArray[j]? = some oj → oj.dst = some d → oi.dst ≠ some d ∧ (d ∈ oi.looksAt l.toArray → j ∈ clo l.toArray l.toArray.size i) := by
    intro i j oi oj d hi hj hij h1 h2 h3
    rcases hpair i hi j hj with h | h
    · exact absurd h.1 hij
    · refine ⟨fun e => ?_, fun hd => ?_⟩
      · have := same_of h1 h2 h3 e
        rw [h.1] at this; cases this
      · rcases h.2 with h4 | h4
        · have := reads_of h1 h2 h3 hd
          rw [h4] at this; cases this
        · exact h4
  have hself : ∀ i, i < m → reads l.toArray i i = false := fun i hi => by
    rcases hpair i hi i hi with h | h
    · exact h.2
    · rcases h.2 with h4 | h4
      · exact h4
      · have := clo_lt hor _ i (by simp; omega) i h4; omega
  have hism : ∀ i ∈ is, i < m := fun i hi => (hqw i hi).1.1
  have hisw : ∀ i ∈ is, i ∉ ws := fun i hi hw => by
    have := (hqw i hi).1.2
    have h2 : ws.contains i = true := by simpa using hw
    rw [this] at h2; cases h2
  have hqr : ∀ i ∈ is, ∀ c ∈ ws, reads l.toArray i c = false := fun i hi c hc => by
    have h2 := (hqw i hi).2
    rw [List.any_eq_false] at h2
    simpa using h2 c hc
  have hdq : ∀ (is' : List Nat), (∀ i ∈ is', i ∈ is) → ∀ i ∈ is', ∀ j ∈ is', ∀ oi oj d, l.toArray[i]? = some oi → l.toArray[j]? = some oj → Oper.dst oi = some d → Oper.dst oj = some d → i = j := by
    intro is' hs i hi j hj oi oj d h1 h2 h3 h4
    by_cases e : i = j
    · exact e
    · exact absurd h3 (hpr i j oi oj d (hism i (hs i hi)) (hism j (hs j hj)) e h1 h2 h4).1
  -- the state while the first m are under way
  have hA := qf_at (ops := l.toArray) (val := val) is ρ (hdq is (fun _ h => h)) hnd
  refine region_inv hm hor (fun b a w => (∀ i', b i' = true → ∀ j ∈ deps l.toArray i', b j = true) ∧
    ((∃ (ρ' : Nat → Value) (Rk : List Res) (k : Nat), a = fr n ρ' ds ∧ (∀ i, m ≤ i → b i = false) ∧ Mem base w Rk ∧ (k = 0 → Rk = R) ∧ (∀ i ∈ is, ∀ o d, l.toArray[i]? = some o → Oper.dst o = some d → b i = true → ρ' d = val i) ∧
        (∀ t : Nat, (∀ (i : Nat) (o : Oper), i < m → l.toArray[i]? = some o → o.dst ≠ some t) → ρ' t = ρ t) ∧ (∀ (j c : Nat), ws[j]? = some c → (b c = true ↔ j < k)) ∧ k ≤ ws.length ∧ WAt F P n Q l.toArray (l.drop m) ds base R0 (ws.drop k) (qf l.toArray val is ρ') Rk) ∨
     ∃ k : Nat, m ≤ k ∧ (∀ i, i < l.length → (b i = true ↔ i < k + 1)) ∧ wpListIn F 0 P l.toArray (lift n Q) (l.drop (k + 1)) a w)) ?_ ?_ ?_
  · exact ⟨fun i h => (by cases h), .inl ⟨ρ, R, 0, rfl, fun _ _ => rfl, hw.drewN 1, fun _ => rfl, fun i _ o d _ _ h => (by cases h), fun _ _ => rfl, fun j c _ => by simp, Nat.zero_le _, by simpa using hend⟩⟩
  · rintro i hi b a w ⟨hcl, hI⟩ hbi hd
    have hi' : i < l.length := by simpa using hi
    have hcl' : ∀ i', upb b i i' = true → ∀ j ∈ deps l.toArray i', upb b i j = true := by
      intro i' h' j hj
      rcases upb_or h' with rfl | ⟨_, h'⟩
      · have hne : j ≠ i' := by rintro rfl; rw [hd _ hj] at hbi; cases hbi
        rw [upb_ne hne]; exact hd j hj
      · have := hcl i' h' j hj
        by_cases e : j = i
        · rw [e, upb_self]
        · rw [upb_ne e]; exact this
    have hcd := clo_done hcl l.toArray.size i hd
    obtain ⟨o, ho⟩ : ∃ o, l.toArray[i]? = some o := ⟨_, Array.getElem?_eq_getElem hi⟩
    have hol : l[i]? = some o := by simpa using ho
    have hnd' : noSD o = true := hno o (by simpa using List.mem_of_getElem? hol)
    have hlt : ∀ j, m ≤ i → j < i → b j = true := fun j hmi hji => by
      rcases hlate i hi with h | h
      · omega
      · exact hcd j (h j hji)
    rcases hI with ⟨ρ', Rk, k, rfl, hb0, hmem, hk0, hv1, hU, hws, hkw, hW⟩ | ⟨k, hk, hbk, hx⟩
    · -- what is seen where an operation looks
      have hB := qf_at (ops := l.toArray) (val := val) is ρ' (hdq is (fun _ h => h)) hnd
      by_cases him : i < m
      · rcases hcov i him with hiq | hiw
        · -- a quiet one
          obtain ⟨pre, post, hsplit⟩ := List.append_of_mem hiq
          obtain ⟨o', ho', hqi⟩ := hval pre i post hsplit
          rw [ho] at ho'; cases ho'
          obtain ⟨E, hE⟩ := hW.sub.exists_perm_append
          have hpre : ∀ x ∈ pre, x ∈ is := fun x hx => by rw [hsplit]; simp [hx]
          have hC := qf_at (ops := l.toArray) (val := val) pre ρ (hdq pre hpre) (hnd.sublist (by rw [hsplit]; exact List.sublist_append_left _ _))
          obtain ⟨R1, hR1, hq1⟩ : ∃ R1, Rk.Perm R1 ∧ QStep F P n l.toArray ds base R1 o (qf l.toArray val pre ρ) (val i) := by
            unfold QE at hqi
            by_cases he : es.contains i = true
            · rw [if_pos he] at hqi
              have hk1 : k = 0 := by
                cases hws0 : ws with
                | nil => rw [hws0] at hkw; simpa using hkw
                | cons c cs =>
                  rcases Nat.eq_zero_or_pos k with h | h
                  · exact h
                  · exfalso
                    have hbc : b c = true := (hws 0 c (by rw [hws0]; rfl)).2 h
                    rw [hws0] at hes
                    simp only [earlyOk, List.all_eq_true, List.contains_iff_mem] at hes
                    have hic := hes i (by simpa using he)
                    have : b i = true := clo_done hcl l.toArray.size c (fun j hj => hcl c hbc j hj) i hic
                    rw [hbi] at this; cases this
              exact ⟨R, by rw [hk0 hk1], hqi⟩
            · rw [if_neg he] at hqi
              exact ⟨R0 ++ E, hE, hqi E⟩
          refine qstep_run hF ho hnd' hq1 (fun d hdl hdn => ?_) (hmem.perm hR1.symm) (fun w' hw' => ⟨hcl', .inl ⟨_, Rk, k, rfl, fun i' h' => ?_, hw'.perm hR1, hk0, ?_, ?_, ?_, hkw, ?_⟩⟩)
          · -- they agree where o looks
            by_cases hx : ∃ j oj, j < m ∧ l.toArray[j]? = some oj ∧ oj.dst = some d
            · obtain ⟨j, oj, hj, hoj, hdj⟩ := hx
              by_cases hji : j = i
              · -- it would look at its own result
                subst hji
                have := hself j hj
                rw [reads_of ho ho (by rw [ho] at hoj; cases hoj; exact hdj) hdl] at this; cases this
              · have hc := (hpr i j o oj d him hj (fun e => hji e.symm) ho hoj hdj).2 hdl
                have hbj := hcd j hc
                rcases hcov j hj with hjq | hjw
                · rw [hv1 j hjq oj d hoj hdj hbj]
                  have hjl : j < i := clo_lt hor _ i hi j hc
                  have hjp : j ∈ pre := by
                    rw [hsplit] at hjq hsort
                    rcases List.mem_append.1 hjq with h | h
                    · exact h
                    · have h2 := (List.pairwise_append.1 hsort).2.1
                      rcases List.mem_cons.1 h with h | h
                      · omega
                      · have := (List.pairwise_cons.1 h2).1 j h; omega
                  exact hC.1 j hjp oj d hoj hdj
                · have := hqr i hiq j hjw
                  rw [reads_of ho hoj hdj hdl] at this; cases this
            · have hn1 : ∀ x ∈ pre, ∀ ox, l.toArray[x]? = some ox → Oper.dst ox ≠ some d := fun x hx' ox hox e => hx ⟨x, ox, hism x (hpre x hx'), hox, e⟩
              rw [hC.2 d hn1]
              exact (hU d (fun x ox hx' hox e => hx ⟨x, ox, hx', hox, e⟩)).symm
          · rw [upb_ne (by omega)]; exact hb0 i' h'
          · intro j hj oj d hoj hdj hbj
            by_cases e : j = i
            · subst e
              rw [ho] at hoj; cases hoj
              rw [hdj]; simp [updO, upd]
            · rw [upb_ne e] at hbj
              have hne := (hpr i j o oj d him (hism j hj) (fun e' => e e'.symm) ho hoj hdj).1
              have : updO ρ' o.dst (val i) d = ρ' d := by
                cases hdo : o.dst with
                | none => rfl
                | some d' => simp only [updO, upd]; rw [if_neg (fun e' => hne (by rw [hdo, e']))]
              rw [this]; exact hv1 j hj oj d hoj hdj hbj
          · intro t ht
            have h1 : o.dst ≠ some t := ht i o him ho
            have : updO ρ' o.dst (val i) t = ρ' t := by
              cases hdo : o.dst with
              | none => rfl
              | some d' => simp only [updO, upd]; rw [if_neg (fun e' => h1 (by rw [hdo, e']))]
            rw [this]; exact hU t ht
          · intro j c hj
            have hci : c ≠ i := fun e => hisw i hiq (e ▸ List.mem_of_getElem? hj)
            rw [upb_ne hci]; exact hws j c hj
          · refine WAt_congr (fun t ht => ?_) _ _ hW
            have hD := qf_at (ops := l.toArray) (val := val) is (updO ρ' o.dst (val i)) (hdq is (fun _ h => h)) hnd
            by_cases hx : ∃ j ∈ is, ∃ oj, l.toArray[j]? = some oj ∧ Oper.dst oj = some t
            · obtain ⟨j, hj, oj, hoj, hdj⟩ := hx
              rw [hB.1 j hj oj t hoj hdj, hD.1 j hj oj t hoj hdj]
            · have hn : ∀ j ∈ is, ∀ oj, l.toArray[j]? = some oj → Oper.dst oj ≠ some t := fun j hj oj hoj e => hx ⟨j, hj, oj, hoj, e⟩
              rw [hB.2 t hn, hD.2 t hn]
              have h1 := hn i hiq o ho
              cases hdo : o.dst with
              | none => rfl
              | some d' => simp only [updO, upd]; rw [if_neg (fun e' => h1 (by rw [hdo, e']))]
        · -- one of the chain
          obtain ⟨j, hj⟩ := List.getElem?_of_mem hiw
          have hjk : k ≤ j := by
            rcases Nat.lt_or_ge j k with h | h
            · have := (hws j i hj).2 h
              rw [hbi] at this; cases this
            · exact h
          have hjl : j < ws.length := (List.getElem?_eq_some_iff.1 hj).1
          have hjk' : j = k := by
            rcases Nat.lt_or_ge k j with h | h
            · obtain ⟨c, hc⟩ : ∃ c, ws[j - 1]? = some c := ⟨_, List.getElem?_eq_getElem (by omega)⟩
              have h2 := (chained_get ws hchain (j - 1) c i hc (by rw [show j - 1 + 1 = j by omega]; exact hj)).2
              have h3 := (hws (j - 1) c hc).1 (hcd c h2)
              omega
            · omega
          subst hjk'
          have hdrop : ws.drop j = i :: ws.drop (j + 1) := by
            rw [List.drop_eq_getElem_cons hjl]
            have : ws[j] = i := (List.getElem?_eq_some_iff.1 hj).2
            rw [this]
          rw [hdrop] at hW
          obtain ⟨hsub, o', ho', hrun⟩ := hW
          rw [ho] at ho'; cases ho'
          refine wpOp_frame ho hnd' (ρ1 := qf l.toArray val is ρ') (fun d hdl hdn => ?_) (K1 := fun ρ'' w' => ∃ R', Mem base w' R' ∧ WAt F P n Q l.toArray (l.drop m) ds base R0 (ws.drop (j + 1)) ρ'' R') (fun ρ1 ρ2 w' he ⟨R', h1, h2⟩ => ⟨R', h1, WAt_congr he _ _ h2⟩) (hrun w hmem) (fun v w' ⟨R', h1, h2⟩ => ⟨hcl', .inl ⟨_, R', j + 1, rfl, fun i' h' => ?_, h1, fun h => (by omega), ?_, ?_, ?_, by omega, ?_⟩⟩)
          · by_cases hx : ∃ x ∈ is, ∃ ox, l.toArray[x]? = some ox ∧ Oper.dst ox = some d
            · obtain ⟨x, hx, ox, hox, hdx⟩ := hx
              rw [hB.1 x hx ox d hox hdx]
              have hxi : i ≠ x := fun e => hisw x hx (e ▸ hiw)
              have hc := (hpr i x o ox d him (hism x hx) hxi ho hox hdx).2 hdl
              exact (hv1 x hx ox d hox hdx (hcd x hc)).symm
            · exact hB.2 d (fun x hx' ox hox e => hx ⟨x, hx', ox, hox, e⟩)
          · rw [upb_ne (by omega)]; exact hb0 i' h'
          · intro x hx ox d hox hdx hbx
            have hxi : x ≠ i := fun e => hisw x hx (e ▸ hiw)
            rw [upb_ne hxi] at hbx
            have hne := (hpr i x o ox d him (hism x hx) (fun e' => hxi e'.symm) ho hox hdx).1
            have : updO ρ' o.dst v d = ρ' d := by
              cases hdo : o.dst with
              | none => rfl
              | some d' => simp only [updO, upd]; rw [if_neg (fun e' => hne (by rw [hdo, e']))]
            rw [this]; exact hv1 x hx ox d hox hdx hbx
          · intro t ht
            have h1 : o.dst ≠ some t := ht i o him ho
            have : updO ρ' o.dst v t = ρ' t := by
              cases hdo : o.dst with
              | none => rfl
              | some d' => simp only [updO, upd]; rw [if_neg (fun e' => h1 (by rw [hdo, e']))]
            rw [this]; exact hU t ht
          · intro x c hx
            by_cases e : x = j
            · subst e
              rw [hj] at hx; cases hx
              simp [upb_self]
            · have hci : c ≠ i := fun e' => by
                subst e'
                rcases Nat.lt_or_gt_of_ne e with h | h
                · have := chained_lt ws hchain x j c c hx hj h; omega
                · have := chained_lt ws hchain j x c c hj hx h; omega
              rw [upb_ne hci, hws x c hx]; omega
          · refine WAt_congr (fun t ht => ?_) _ _ h2
            have hD := qf_at (ops := l.toArray) (val := val) is (updO ρ' o.dst v) (hdq is (fun _ h => h)) hnd
            have hnq : ∀ x ∈ is, ∀ ox d, l.toArray[x]? = some ox → Oper.dst ox = some d → o.dst ≠ some d := fun x hx ox d hox hdx => (hpr i x o ox d him (hism x hx) (fun e => hisw x hx (e ▸ hiw)) ho hox hdx).1
            by_cases hx : ∃ x ∈ is, ∃ ox, l.toArray[x]? = some ox ∧ Oper.dst ox = some t
            · obtain ⟨x, hx, ox, hox, hdx⟩ := hx
              rw [hD.1 x hx ox t hox hdx]
              have h1 := hnq x hx ox t hox hdx
              have : updO (qf l.toArray val is ρ') o.dst v t = qf l.toArray val is ρ' t := by
                cases hdo : o.dst with
                | none => rfl
                | some d' => simp only [updO, upd]; rw [if_neg (fun e' => h1 (by rw [hdo, e']))]
              rw [this, hB.1 x hx ox t hox hdx]
            · have hn : ∀ x ∈ is, ∀ ox, l.toArray[x]? = some ox → Oper.dst ox ≠ some t := fun x hx' ox hox e => hx ⟨x, hx', ox, hox, e⟩
              rw [hD.2 t hn]
              cases hdo : o.dst with
              | none => exact hB.2 t hn
              | some d' =>
                simp only [updO, upd]
                by_cases e : t = d'
                · rw [if_pos e, if_pos e]
                · rw [if_neg e, if_neg e]; exact hB.2 t hn
      · -- the first of the later ones
        have him' : i = m := by
          rcases Nat.lt_or_ge m i with h | h
          · have := hlt m (by omega) h
            rw [hb0 m (Nat.le_refl _)] at this; cases this
          · omega
        subst him'
        have hall : ∀ j, j < i → b j = true := fun j hj => hlt j (Nat.le_refl _) hj
        have hk : k = ws.length := by
          rcases Nat.lt_or_ge k ws.length with h | h
          · obtain ⟨c, hc⟩ : ∃ c, ws[k]? = some c := ⟨_, List.getElem?_eq_getElem h⟩
            have := (hws k c hc).1 (hall c (hwm c (List.mem_of_getElem? hc)))
            omega
          · omega
        subst hk
        rw [List.drop_length] at hW
        have hx : wpListIn F 0 P l.toArray (lift n Q) (l.drop i) (fr n ρ' ds) w := XL_congr (fun t ht => by
          by_cases hx : ∃ x ∈ is, ∃ ox, l.toArray[x]? = some ox ∧ Oper.dst ox = some t
          · obtain ⟨x, hx, ox, hox, hdx⟩ := hx
            rw [hB.1 x hx ox t hox hdx]
            exact (hv1 x hx ox t hox hdx (hall x (hism x hx))).symm
          · exact hB.2 t (fun x hx' ox hox e => hx ⟨x, hx', ox, hox, e⟩)) (hW.2.use w hmem)
        have hdrop : l.drop i = o :: l.drop (i + 1) := by
          rw [List.drop_eq_getElem_cons hi']
          have : l[i] = o := (List.getElem?_eq_some_iff.1 hol).2
          rw [this]
        rw [hdrop] at hx
        have hnext : ∀ a' w', wpListIn F 0 P l.toArray (lift n Q) (l.drop (i + 1)) a' w' → (∀ i', upb b i i' = true → ∀ j ∈ deps l.toArray i', upb b i j = true) ∧
            ((∃ (ρ' : Nat → Value) (Rk : List Res) (k : Nat), a' = fr n ρ' ds ∧ (∀ x, i ≤ x → upb b i x = false) ∧ Mem base w' Rk ∧ (k = 0 → Rk = R) ∧ (∀ x ∈ is, ∀ o d, l.toArray[x]? = some o → Oper.dst o = some d → upb b i x = true → ρ' d = val x) ∧
              (∀ t : Nat, (∀ (x : Nat) (o : Oper), x < i → l.toArray[x]? = some o → o.dst ≠ some t) → ρ' t = ρ t) ∧ (∀ (j c : Nat), ws[j]? = some c → (upb b i c = true ↔ j < k)) ∧ k ≤ ws.length ∧ WAt F P n Q l.toArray (l.drop i) ds base R0 (ws.drop k) (qf l.toArray val is ρ') Rk) ∨
             ∃ k : Nat, i ≤ k ∧ (∀ x, x < l.length → (upb b i x = true ↔ x < k + 1)) ∧ wpListIn F 0 P l.toArray (lift n Q) (l.drop (k + 1)) a' w') := by
          intro a' w' h
          refine ⟨hcl', .inr ⟨i, Nat.le_refl _, fun j hj => ?_, h⟩⟩
          by_cases e : j = i
          · subst e; simp [upb_self]
          · rw [upb_ne e]
            by_cases hji : j < i
            · simp [hall j hji]; omega
            · rw [hb0 j (by omega)]; simp; omega
        unfold wpOpIn
        rw [ho]
        simp only
        unfold wpListIn at hx
        split
        · rename_i hw'
          rw [if_pos hw'] at hx
          exact Oper.wpIn_mono hnext hx
        · rename_i hw'
          rw [if_neg hw'] at hx
          exact ⟨hx.1, hnext _ _ hx.2⟩
    · -- a later one
      have hik : i = k + 1 := by
        have h1 : ¬ i < k + 1 := fun h => by
          have := (hbk i hi').2 h
          rw [hbi] at this; cases this
        rcases Nat.lt_or_ge (k + 1) i with h | h
        · have := hlt (k + 1) (by omega) h
          have := (hbk (k + 1) (by omega)).1 this
          omega
        · omega
      subst hik
      have hdrop : l.drop (k + 1) = o :: l.drop (k + 1 + 1) := by
        rw [List.drop_eq_getElem_cons hi']
        have : l[k + 1] = o := (List.getElem?_eq_some_iff.1 hol).2
        rw [this]
      rw [hdrop] at hx
      unfold wpOpIn
      rw [ho]
      simp only
      unfold wpListIn at hx
      split
      · rename_i hw'
        rw [if_pos hw'] at hx
        refine Oper.wpIn_mono (fun a' w' h => ⟨hcl', .inr ⟨k + 1, by omega, fun j hj => ?_, h⟩⟩) hx
        by_cases e : j = k + 1
        · subst e; simp [upb_self]
        · rw [upb_ne e, hbk j hj]; omega
      · rename_i hw'
        rw [if_neg hw'] at hx
        refine ⟨hx.1, hcl', .inr ⟨k + 1, by omega, fun j hj => ?_, hx.2⟩⟩
        by_cases e : j = k + 1
        · subst e; simp [upb_self]
        · rw [upb_ne e, hbk j hj]; omega
  · rintro b a w hall ⟨_, hI⟩
    rcases hI with ⟨ρ', Rk, k, rfl, hb0, hmem, hk0, hv1, hU, hws, hkw, hW⟩ | ⟨k, hk, hbk, hx⟩
    · have hml : m = l.length := by
        rcases Nat.lt_or_ge m l.length with h | h
        · have := hall m (by simpa using h)
          rw [hb0 m (Nat.le_refl _)] at this; cases this
        · omega
      have hB := qf_at (ops := l.toArray) (val := val) is ρ' (hdq is (fun _ h => h)) hnd
      have hk : k = ws.length := by
        rcases Nat.lt_or_ge k ws.length with h | h
        · obtain ⟨c, hc⟩ : ∃ c, ws[k]? = some c := ⟨_, List.getElem?_eq_getElem h⟩
          have := (hws k c hc).1 (hall c (by have := hwm c (List.mem_of_getElem? hc); simp; omega))
          omega
        · omega
      subst hk
      rw [List.drop_length] at hW
      have hx : wpListIn F 0 P l.toArray (lift n Q) (l.drop m) (fr n ρ' ds) w := XL_congr (fun t ht => by
        by_cases hx : ∃ x ∈ is, ∃ ox, l.toArray[x]? = some ox ∧ Oper.dst ox = some t
        · obtain ⟨x, hx, ox, hox, hdx⟩ := hx
          rw [hB.1 x hx ox t hox hdx]
          exact (hv1 x hx ox t hox hdx (hall x (by have := hism x hx; simp; omega))).symm
        · exact hB.2 t (fun x hx' ox hox e => hx ⟨x, hx', ox, hox, e⟩)) (hW.2.use w hmem)
      rw [List.drop_of_length_le (by omega)] at hx
      exact hx
    · have : l.length ≤ k + 1 := by
        rcases Nat.lt_or_ge (k + 1) l.length with h | h
        · have := (hbk (k + 1) h).1 (hall (k + 1) (by simpa using h))
          omega
        · exact h
      rw [List.drop_of_length_le this] at hx
      exact hx
end
theorem over_mid : ∀ (vs pre old post : List Value), old.length = vs.length → over (pre ++ (old ++ post)).toArray vs pre.length = (pre ++ (vs ++ post)).toArray
  | [], pre, old, post, h => by
    obtain rfl : old = [] := List.eq_nil_of_length_eq_zero h
    rfl
  | v :: vs, pre, [], post, h => by simp at h
  | v :: vs, pre, o :: os, post, h => by
    have ih := over_mid vs (pre ++ [v]) os post (by simpa using h)
    have e : (pre ++ (o :: os ++ post)).toArray.setIfInBounds pre.length v = (pre ++ [v] ++ (os ++ post)).toArray := by
      rw [List.setIfInBounds_toArray, List.set_append_right _ _ (Nat.le_refl _), Nat.sub_self]
      simp
    rw [over, e, show pre.length + 1 = (pre ++ [v]).length by simp, ih]
    simp
theorem over_buf {α : Type} {enc : α → List Value} {sz : Nat} (he : ∀ x, (enc x).length = sz) {l : List α} {junk : List Value} {k : Nat} (hk : k < l.length) (x' : α) : over (buf enc l junk) (enc x') (k * sz) = buf enc (l.set k x') junk := by
  have ht : ((l.take k).flatMap enc).length = k * sz := by rw [len_flat he, List.length_take, Nat.min_eq_left (by omega)]
  have el : l = l.take k ++ (l[k] :: l.drop (k + 1)) := by rw [List.getElem_cons_drop, List.take_append_drop]
  have e1 : buf enc l junk = ((l.take k).flatMap enc ++ (enc l[k] ++ ((l.drop (k + 1)).flatMap enc ++ junk))).toArray := by
    rw [buf]
    congr 1
    have : l.flatMap enc = (l.take k).flatMap enc ++ (enc l[k] ++ (l.drop (k + 1)).flatMap enc) := by
      conv => lhs; rw [el]
      rw [List.flatMap_append, List.flatMap_cons]
    rw [this, List.append_assoc, List.append_assoc]
  have e2 : buf enc (l.set k x') junk = ((l.take k).flatMap enc ++ (enc x' ++ ((l.drop (k + 1)).flatMap enc ++ junk))).toArray := by
    rw [buf, List.set_eq_take_append_cons_drop, if_pos hk, List.flatMap_append, List.flatMap_cons, List.append_assoc, List.append_assoc]
  rw [e1, e2, ← ht]
  exact over_mid _ _ _ _ (by rw [he, he])
section
variable {F : Fence} {P : Program} {n : Nat} {Q : Post} {ρ : Nat → Value} {ds : List Deferred} {w base : World} {R : List Res} {ops : Array Oper}
theorem At_storeS (hF : Wide F) {dst : Option Tmp} {t ty : TypeId} {x y : Operand} {pos : String} {af : Array Edge} {rest : List Oper} {b off : Nat} {cs vs cs' : Array Value} {t1 : TypeId} [T : TAgg P t] (i : Nat) (hx : xv n ρ x = .pointer (some ⟨b, off, none⟩)) (hy : xv n ρ y = .agg vs) (hi : R[i]? = some (.obj b (.cells cs t1 (0, 0)))) (hs : vs.size = T.size) (hoff : off + vs.size ≤ cs.size) (h1 : ∀ u ∈ vs.toList, u.one1 = true) (hcs : over cs vs.toList off = cs')
    (h : AL F P n Q ops rest (updO ρ dst undef) ds base (R.set i (.obj b (.cells cs' t1 (0, 0))))) : AL F P n Q ops (⟨dst, .store t x y, ty, pos, af, none⟩ :: rest) ρ ds base R := ⟨fun w hw => by
  obtain ⟨d, i', hu, hd, hi', hsz⟩ := T.h
  have hne := T.pos
  have hc : (Value.agg vs).cells = vs := by simp [Value.cells]
  subst hcs
  exact XL_store hF hx (by
    rw [hy]
    have := stores_at (P := P) (w := w) (t := t) (b := b) (off := off) (cs := cs) (t' := t1) (v := .agg vs) hi' (by rw [hc]; omega) (hw.at_ i hi) (by rw [hc]; exact hoff) (by rw [hc]; exact h1) (by
      rw [hc]; intro e; have := congrArg List.length e; simp at this; rw [this] at hs; simp at hs; omega)
    rwa [hc] at this) (h.use _ (hw.put i hi _))⟩
end
end XW

/- A region that draws its order: every order of its first operations, one after the other. -/
namespace XW
open Go Go.RowKit RegInv
set_option linter.unusedSimpArgs false
set_option linter.unusedVariables false
set_option linter.unusedSectionVars false
section
variable {F : Fence} {P : Program} {n : Nat} {Q : Post} {ρ : Nat → Value} {ds : List Deferred} {w base : World} {R : List Res} {ops : Array Oper}
def ready (ops : Array Oper) (m : Nat) (done : List Nat) : List Nat := (List.range m).filter fun i => !done.contains i && (deps ops i).all done.contains
theorem AT_all1 {p : Nat → Prop} {a : Nat} (h : p a) : ∀ i ∈ [a], p i := fun i hi => by rw [List.mem_singleton.1 hi]; exact h
theorem AT_all {p : Nat → Prop} {a b : Nat} {l : List Nat} (h : p a) (h2 : ∀ i ∈ b :: l, p i) : ∀ i ∈ a :: b :: l, p i := fun i hi => by
  rcases List.mem_cons.1 hi with rfl | hi
  · exact h
  · exact h2 i hi
end
end XW

/- A region that draws its order: quiet operations in whatever order, some of them ahead of all that turn memory; the others, that turn memory, in every order that their waits allow; the rest behind them. -/
namespace XW
open Go Go.RowKit RegInv
set_option linter.unusedSimpArgs false
set_option linter.unusedVariables false
set_option linter.unusedSectionVars false
section
variable {F : Fence} {P : Program} {n : Nat} {Q : Post} {ρ : Nat → Value} {ds : List Deferred} {w base : World} {R : List Res} {ops : Array Oper}
def readyW (ops : Array Oper) (ws done : List Nat) : List Nat := ws.filter fun c => !done.contains c && ws.all fun c' => !(clo ops ops.size c).contains c' || done.contains c'
def FAt (F : Fence) (P : Program) (n : Nat) (Q : Post) (ops : Array Oper) (rest : List Oper) (ds : List Deferred) (base : World) (R0 : List Res) (ws : List Nat) : Nat → List Nat → (Nat → Value) → List Res → Prop
  | 0, done, ρ, R => ws.all done.contains = true ∧ R0.Sublist R ∧ AL F P n Q ops rest ρ ds base R
  | f + 1, done, ρ, R => R0.Sublist R ∧ (ws.all done.contains = true → AL F P n Q ops rest ρ ds base R) ∧ ∀ c ∈ readyW ops ws done, ∃ o, ops[c]? = some o ∧ ∀ w, Mem base w R → XL F P n (Then (fun ρ' ds' w' => ds' = ds ∧ ∃ R', Mem base w' R' ∧ FAt F P n Q ops rest ds base R0 ws f (c :: done) ρ' R') (fun _ _ _ _ => False)) ops [o] ρ ds w
theorem FAt_congr {rest : List Oper} {R0 : List Res} {ws : List Nat} {ρ1 ρ2 : Nat → Value} (h : ∀ t, t < n → ρ1 t = ρ2 t) : ∀ (f : Nat) (done : List Nat) (R : List Res), FAt F P n Q ops rest ds base R0 ws f done ρ1 R → FAt F P n Q ops rest ds base R0 ws f done ρ2 R
  | 0, done, R, ⟨h0, h1, h2⟩ => ⟨h0, h1, ⟨fun w hw => XL_congr h (h2.use w hw)⟩⟩
  | f + 1, done, R, ⟨h1, h2, h3⟩ => ⟨h1, fun ha => ⟨fun w hw => XL_congr h ((h2 ha).use w hw)⟩, fun c hc => by
    obtain ⟨o, ho, hx⟩ := h3 c hc
    exact ⟨o, ho, fun w hw => XL_congr h (hx w hw)⟩⟩
theorem FAt.sub {rest : List Oper} {R0 : List Res} {ws : List Nat} {f : Nat} {done : List Nat} {R : List Res} (h : FAt F P n Q ops rest ds base R0 ws f done ρ R) : R0.Sublist R := by
  cases f with
  | zero => exact h.2.1
  | succ f => exact h.1
theorem FAt.last {rest : List Oper} {R0 : List Res} {ws : List Nat} {f : Nat} {done : List Nat} {R : List Res} (h : FAt F P n Q ops rest ds base R0 ws f done ρ R) (ha : ws.all done.contains = true) : AL F P n Q ops rest ρ ds base R := by
  cases f with
  | zero => exact h.2.2
  | succ f => exact h.2.1 ha
theorem FAt.op {rest : List Oper} {R0 : List Res} {ws : List Nat} {f : Nat} {done : List Nat} {R : List Res} {c : Nat} (h : FAt F P n Q ops rest ds base R0 ws f done ρ R) (hc : c ∈ readyW ops ws done) : ∃ f', ∃ o, ops[c]? = some o ∧ ∀ w, Mem base w R → XL F P n (Then (fun ρ' ds' w' => ds' = ds ∧ ∃ R', Mem base w' R' ∧ FAt F P n Q ops rest ds base R0 ws f' (c :: done) ρ' R') (fun _ _ _ _ => False)) ops [o] ρ ds w := by
  cases f with
  | zero =>
    have h1 := h.1
    rw [List.all_eq_true] at h1
    have h2 := List.mem_filter.1 hc
    have h3 := h1 c h2.1
    rw [h3] at h2
    simp at h2
  | succ f => exact ⟨f, h.2.2 c hc⟩
theorem FAt_step {f : Nat} {rest : List Oper} {R0 : List Res} {ws done l : List Nat} (hs : R0.Sublist R) (hl : (!ws.all done.contains && readyW ops ws done == l) = true) (h : ∀ c ∈ l, ∃ o, ops[c]? = some o ∧ ∀ w, Mem base w R → XL F P n (Then (fun ρ' ds' w' => ds' = ds ∧ ∃ R', Mem base w' R' ∧ FAt F P n Q ops rest ds base R0 ws f (c :: done) ρ' R') (fun _ _ _ _ => False)) ops [o] ρ ds w) :
    FAt F P n Q ops rest ds base R0 ws (f + 1) done ρ R := by
  rw [Bool.and_eq_true] at hl
  refine ⟨hs, fun ha => ?_, fun c hc => ?_⟩
  · rw [ha] at hl; cases hl.1
  · have := hl.2
    rw [beq_iff_eq] at this
    exact h c (this ▸ hc)
theorem FAt_op {f c : Nat} {rest : List Oper} {R0 : List Res} {ws done : List Nat} {o : Oper} (ho : ops[c]? = some o)
    (h : ∀ (K : (Nat → Value) → List Deferred → World → Prop) (Q' : Post), (∀ ρ' R', FAt F P n Q ops rest ds base R0 ws f (c :: done) ρ' R' → At base R' (K ρ' ds)) → AL F P n (Then K Q') ops [o] ρ ds base R) :
    ∃ o, ops[c]? = some o ∧ ∀ w, Mem base w R → XL F P n (Then (fun ρ' ds' w' => ds' = ds ∧ ∃ R', Mem base w' R' ∧ FAt F P n Q ops rest ds base R0 ws f (c :: done) ρ' R') (fun _ _ _ _ => False)) ops [o] ρ ds w :=
  ⟨o, ho, fun w hw => (h _ _ fun ρ' R' hA w' hw' => ⟨rfl, R', hw', hA⟩).use w hw⟩
theorem FAt_done {f : Nat} {rest : List Oper} {R0 : List Res} {ws done : List Nat} (hs : R0.Sublist R) (ha : (ws.all done.contains && readyW ops ws done == []) = true) (h : AL F P n Q ops rest ρ ds base R) : FAt F P n Q ops rest ds base R0 ws f done ρ R := by
  rw [Bool.and_eq_true] at ha
  cases f with
  | zero => exact ⟨ha.1, hs, h⟩
  | succ f =>
    refine ⟨hs, fun _ => h, fun c hc => ?_⟩
    have := ha.2
    rw [beq_iff_eq] at this
    rw [this] at hc; cases hc
theorem AQF_doneF {R0 R1 : List Res} {es : List Nat} {rest : List Oper} {ws : List Nat} {f : Nat} (h : FAt F P n Q ops rest ds base R0 ws f [] ρ R) : AQF F P n ops ds base R1 R0 es [] ρ (fun ρ' => FAt F P n Q ops rest ds base R0 ws f [] ρ' R) := h
def earlyOkF (ops : Array Oper) (es ws : List Nat) : Bool := ws.all fun c => es.all fun i => (clo ops ops.size c).contains i
def drawOkF (ops : Array Oper) (m : Nat) (is ws : List Nat) : Bool :=
  ordered ops && decide (m ≤ ops.size) && ops.toList.all noSD &&
  ((List.range ops.size).all fun i => decide (i < m) || (List.range i).all fun j => (clo ops ops.size i).contains j) &&
  ((List.range m).all fun i => (List.range m).all fun j => (i == j && !reads ops i j) || (!sameDst ops i j && (!reads ops i j || (clo ops ops.size i).contains j))) &&
  (List.range m).all (fun i => is.contains i || ws.contains i) && is.all (fun i => decide (i < m) && !ws.contains i && !ws.any (reads ops i)) && ws.all (fun i => decide (i < m)) && decide (is.Pairwise (· < ·))
theorem At_drawF (hF : Wide F) {id : Nat} {l : List Oper} (m : Nat) (is es ws : List Nat) (R0 : List Res) (hm : P.follows .mixedOrders = true) (hck : drawOkF l.toArray m is ws = true) (hes : earlyOkF l.toArray es ws = true)
    (hq : AQF F P n l.toArray ds base R R0 es is ρ (fun ρ' => FAt F P n Q l.toArray (l.drop m) ds base R0 ws ws.length [] ρ' R)) : At base R (X F P n Q (.region id l.toArray true) ρ ds) := fun w hw => by
  simp only [drawOkF, Bool.and_eq_true, List.all_eq_true, List.mem_range, decide_eq_true_eq, Bool.or_eq_true, List.contains_iff_mem, Bool.not_eq_true', beq_iff_eq] at hck
  obtain ⟨⟨⟨⟨⟨⟨⟨⟨hor, hms⟩, hno⟩, hlate⟩, hpair⟩, hcov⟩, hqw⟩, hwm⟩, hsort⟩ := hck
  have hnd : is.Nodup := hsort.imp (fun {a b} h e => by omega)
  have hms' : m ≤ l.length := by simpa using hms
  obtain ⟨val, hval, hend⟩ := AQF_vals is ρ _ hnd hq
  have hpr : ∀ (i j : Nat) (oi oj : Oper) (d : Nat), i < m → j < m → i ≠ j → l.toArray[i]? = some oi → l.toArray[j]? = some oj → oj.dst = some d → oi.dst ≠ some d ∧ (d ∈ oi.looksAt l.toArray → j ∈ clo l.toArray l.toArray.size i) := by
    intro i j oi oj d hi hj hij h1 h2 h3
    rcases hpair i hi j hj with h | h
    · exact absurd h.1 hij
    · refine ⟨fun e => ?_, fun hd => ?_⟩
      · have := same_of h1 h2 h3 e
        rw [h.1] at this; cases this
      · rcases h.2 with h4 | h4
        · have := reads_of h1 h2 h3 hd
          rw [h4] at this; cases this
        · exact h4
  have hself : ∀ i, i < m → reads l.toArray i i = false := fun i hi => by
    rcases hpair i hi i hi with h | h
    · exact h.2
    · rcases h.2 with h4 | h4
      · exact h4
      · have := clo_lt hor _ i (by simp; omega) i h4; omega
  have hism : ∀ i ∈ is, i < m := fun i hi => (hqw i hi).1.1
  have hisw : ∀ i ∈ is, i ∉ ws := fun i hi hw => by
    have := (hqw i hi).1.2
    have h2 : ws.contains i = true := by simpa using hw
    rw [this] at h2; cases h2
  have hqr : ∀ i ∈ is, ∀ c ∈ ws, reads l.toArray i c = false := fun i hi c hc => by
    have h2 := (hqw i hi).2
    rw [List.any_eq_false] at h2
    simpa using h2 c hc
  have hdq : ∀ (is' : List Nat), (∀ i ∈ is', i ∈ is) → ∀ i ∈ is', ∀ j ∈ is', ∀ oi oj d, l.toArray[i]? = some oi → l.toArray[j]? = some oj → Oper.dst oi = some d → Oper.dst oj = some d → i = j := by
    intro is' hs i hi j hj oi oj d h1 h2 h3 h4
    by_cases e : i = j
    · exact e
    · exact absurd h3 (hpr i j oi oj d (hism i (hs i hi)) (hism j (hs j hj)) e h1 h2 h4).1
  -- the state while the first m are under way
  have hA := qf_at (ops := l.toArray) (val := val) is ρ (hdq is (fun _ h => h)) hnd
  refine region_inv hm hor (fun b a w => (∀ i', b i' = true → ∀ j ∈ deps l.toArray i', b j = true) ∧
    ((∃ (ρ' : Nat → Value) (Rk : List Res) (k : Nat) (done : List Nat), a = fr n ρ' ds ∧ (∀ i, m ≤ i → b i = false) ∧ Mem base w Rk ∧ (done = [] → Rk = R) ∧ (∀ i ∈ is, ∀ o d, l.toArray[i]? = some o → Oper.dst o = some d → b i = true → ρ' d = val i) ∧
        (∀ t : Nat, (∀ (i : Nat) (o : Oper), i < m → l.toArray[i]? = some o → o.dst ≠ some t) → ρ' t = ρ t) ∧ (∀ c ∈ ws, (b c = true ↔ c ∈ done)) ∧ (∀ c ∈ done, c ∈ ws) ∧ FAt F P n Q l.toArray (l.drop m) ds base R0 ws k done (qf l.toArray val is ρ') Rk) ∨
     ∃ k : Nat, m ≤ k ∧ (∀ i, i < l.length → (b i = true ↔ i < k + 1)) ∧ wpListIn F 0 P l.toArray (lift n Q) (l.drop (k + 1)) a w)) ?_ ?_ ?_
  · exact ⟨fun i h => (by cases h), .inl ⟨ρ, R, ws.length, [], rfl, fun _ _ => rfl, hw.drewN 1, fun _ => rfl, fun i _ o d _ _ h => (by cases h), fun _ _ => rfl, fun c _ => by simp, fun c h => (by cases h), hend⟩⟩
  · rintro i hi b a w ⟨hcl, hI⟩ hbi hd
    have hi' : i < l.length := by simpa using hi
    have hcl' : ∀ i', upb b i i' = true → ∀ j ∈ deps l.toArray i', upb b i j = true := by
      intro i' h' j hj
      rcases upb_or h' with rfl | ⟨_, h'⟩
      · have hne : j ≠ i' := by rintro rfl; rw [hd _ hj] at hbi; cases hbi
        rw [upb_ne hne]; exact hd j hj
      · have := hcl i' h' j hj
        by_cases e : j = i
        · rw [e, upb_self]
        · rw [upb_ne e]; exact this
    have hcd := clo_done hcl l.toArray.size i hd
    obtain ⟨o, ho⟩ : ∃ o, l.toArray[i]? = some o := ⟨_, Array.getElem?_eq_getElem hi⟩
    have hol : l[i]? = some o := by simpa using ho
    have hnd' : noSD o = true := hno o (by simpa using List.mem_of_getElem? hol)
    have hlt : ∀ j, m ≤ i → j < i → b j = true := fun j hmi hji => by
      rcases hlate i hi with h | h
      · omega
      · exact hcd j (h j hji)
    rcases hI with ⟨ρ', Rk, k, done, rfl, hb0, hmem, hk0, hv1, hU, hws, hkw, hW⟩ | ⟨k, hk, hbk, hx⟩
    · -- what is seen where an operation looks
      have hB := qf_at (ops := l.toArray) (val := val) is ρ' (hdq is (fun _ h => h)) hnd
      by_cases him : i < m
      · rcases hcov i him with hiq | hiw
        · -- a quiet one
          obtain ⟨pre, post, hsplit⟩ := List.append_of_mem hiq
          obtain ⟨o', ho', hqi⟩ := hval pre i post hsplit
          rw [ho] at ho'; cases ho'
          obtain ⟨E, hE⟩ := hW.sub.exists_perm_append
          have hpre : ∀ x ∈ pre, x ∈ is := fun x hx => by rw [hsplit]; simp [hx]
          have hC := qf_at (ops := l.toArray) (val := val) pre ρ (hdq pre hpre) (hnd.sublist (by rw [hsplit]; exact List.sublist_append_left _ _))
          obtain ⟨R1, hR1, hq1⟩ : ∃ R1, Rk.Perm R1 ∧ QStep F P n l.toArray ds base R1 o (qf l.toArray val pre ρ) (val i) := by
            unfold QE at hqi
            by_cases he : es.contains i = true
            · rw [if_pos he] at hqi
              have hk1 : done = [] := by
                cases hd0 : done with
                | nil => rfl
                | cons c cs =>
                  exfalso
                  have hcw : c ∈ ws := hkw c (by rw [hd0]; exact List.mem_cons_self ..)
                  have hbc : b c = true := (hws c hcw).2 (by rw [hd0]; exact List.mem_cons_self ..)
                  simp only [earlyOkF, List.all_eq_true, List.contains_iff_mem] at hes
                  have hic := hes c hcw i (by simpa using he)
                  have : b i = true := clo_done hcl l.toArray.size c (fun j hj => hcl c hbc j hj) i hic
                  rw [hbi] at this; cases this
              exact ⟨R, by rw [hk0 hk1], hqi⟩
            · rw [if_neg he] at hqi
              exact ⟨R0 ++ E, hE, hqi E⟩
          refine qstep_run hF ho hnd' hq1 (fun d hdl hdn => ?_) (hmem.perm hR1.symm) (fun w' hw' => ⟨hcl', .inl ⟨_, Rk, k, done, rfl, fun i' h' => ?_, hw'.perm hR1, hk0, ?_, ?_, ?_, hkw, ?_⟩⟩)
          · -- they agree where o looks
            by_cases hx : ∃ j oj, j < m ∧ l.toArray[j]? = some oj ∧ oj.dst = some d
            · obtain ⟨j, oj, hj, hoj, hdj⟩ := hx
              by_cases hji : j = i
              · -- it would look at its own result
                subst hji
                have := hself j hj
                rw [reads_of ho ho (by rw [ho] at hoj; cases hoj; exact hdj) hdl] at this; cases this
              · have hc := (hpr i j o oj d him hj (fun e => hji e.symm) ho hoj hdj).2 hdl
                have hbj := hcd j hc
                rcases hcov j hj with hjq | hjw
                · rw [hv1 j hjq oj d hoj hdj hbj]
                  have hjl : j < i := clo_lt hor _ i hi j hc
                  have hjp : j ∈ pre := by
                    rw [hsplit] at hjq hsort
                    rcases List.mem_append.1 hjq with h | h
                    · exact h
                    · have h2 := (List.pairwise_append.1 hsort).2.1
                      rcases List.mem_cons.1 h with h | h
                      · omega
                      · have := (List.pairwise_cons.1 h2).1 j h; omega
                  exact hC.1 j hjp oj d hoj hdj
                · have := hqr i hiq j hjw
                  rw [reads_of ho hoj hdj hdl] at this; cases this
            · have hn1 : ∀ x ∈ pre, ∀ ox, l.toArray[x]? = some ox → Oper.dst ox ≠ some d := fun x hx' ox hox e => hx ⟨x, ox, hism x (hpre x hx'), hox, e⟩
              rw [hC.2 d hn1]
              exact (hU d (fun x ox hx' hox e => hx ⟨x, ox, hx', hox, e⟩)).symm
          · rw [upb_ne (by omega)]; exact hb0 i' h'
          · intro j hj oj d hoj hdj hbj
            by_cases e : j = i
            · subst e
              rw [ho] at hoj; cases hoj
              rw [hdj]; simp [updO, upd]
            · rw [upb_ne e] at hbj
              have hne := (hpr i j o oj d him (hism j hj) (fun e' => e e'.symm) ho hoj hdj).1
              have : updO ρ' o.dst (val i) d = ρ' d := by
                cases hdo : o.dst with
                | none => rfl
                | some d' => simp only [updO, upd]; rw [if_neg (fun e' => hne (by rw [hdo, e']))]
              rw [this]; exact hv1 j hj oj d hoj hdj hbj
          · intro t ht
            have h1 : o.dst ≠ some t := ht i o him ho
            have : updO ρ' o.dst (val i) t = ρ' t := by
              cases hdo : o.dst with
              | none => rfl
              | some d' => simp only [updO, upd]; rw [if_neg (fun e' => h1 (by rw [hdo, e']))]
            rw [this]; exact hU t ht
          · intro c hj
            have hci : c ≠ i := fun e => hisw i hiq (e ▸ hj)
            rw [upb_ne hci]; exact hws c hj
          · refine FAt_congr (fun t ht => ?_) _ _ _ hW
            have hD := qf_at (ops := l.toArray) (val := val) is (updO ρ' o.dst (val i)) (hdq is (fun _ h => h)) hnd
            by_cases hx : ∃ j ∈ is, ∃ oj, l.toArray[j]? = some oj ∧ Oper.dst oj = some t
            · obtain ⟨j, hj, oj, hoj, hdj⟩ := hx
              rw [hB.1 j hj oj t hoj hdj, hD.1 j hj oj t hoj hdj]
            · have hn : ∀ j ∈ is, ∀ oj, l.toArray[j]? = some oj → Oper.dst oj ≠ some t := fun j hj oj hoj e => hx ⟨j, hj, oj, hoj, e⟩
              rw [hB.2 t hn, hD.2 t hn]
              have h1 := hn i hiq o ho
              cases hdo : o.dst with
              | none => rfl
              | some d' => simp only [updO, upd]; rw [if_neg (fun e' => h1 (by rw [hdo, e']))]
        · -- one of the chain
          have hnot : i ∉ done := fun h => by
            have := (hws i hiw).2 h
            rw [hbi] at this; cases this
          have hrd : i ∈ readyW l.toArray ws done := List.mem_filter.2 ⟨hiw, by
            rw [Bool.and_eq_true]
            refine ⟨by simpa using hnot, List.all_eq_true.2 fun c hc => ?_⟩
            by_cases h : (clo l.toArray l.toArray.size i).contains c = true
            · rw [h]
              have := (hws c hc).1 (hcd c (by simpa using h))
              simpa using this
            · rw [Bool.not_eq_true] at h
              rw [h]; rfl⟩
          obtain ⟨k', o', ho', hrun⟩ := hW.op hrd
          rw [ho] at ho'; cases ho'
          refine wpOp_frame ho hnd' (ρ1 := qf l.toArray val is ρ') (fun d hdl hdn => ?_) (K1 := fun ρ'' w' => ∃ R', Mem base w' R' ∧ FAt F P n Q l.toArray (l.drop m) ds base R0 ws k' (i :: done) ρ'' R') (fun ρ1 ρ2 w' he ⟨R', h1, h2⟩ => ⟨R', h1, FAt_congr he _ _ _ h2⟩) (hrun w hmem) (fun v w' ⟨R', h1, h2⟩ => ⟨hcl', .inl ⟨_, R', k', i :: done, rfl, fun i' h' => ?_, h1, fun h => (by cases h), ?_, ?_, ?_, fun c hc => (by rcases List.mem_cons.1 hc with rfl | hc; exact hiw; exact hkw c hc), ?_⟩⟩)
          · by_cases hx : ∃ x ∈ is, ∃ ox, l.toArray[x]? = some ox ∧ Oper.dst ox = some d
            · obtain ⟨x, hx, ox, hox, hdx⟩ := hx
              rw [hB.1 x hx ox d hox hdx]
              have hxi : i ≠ x := fun e => hisw x hx (e ▸ hiw)
              have hc := (hpr i x o ox d him (hism x hx) hxi ho hox hdx).2 hdl
              exact (hv1 x hx ox d hox hdx (hcd x hc)).symm
            · exact hB.2 d (fun x hx' ox hox e => hx ⟨x, hx', ox, hox, e⟩)
          · rw [upb_ne (by omega)]; exact hb0 i' h'
          · intro x hx ox d hox hdx hbx
            have hxi : x ≠ i := fun e => hisw x hx (e ▸ hiw)
            rw [upb_ne hxi] at hbx
            have hne := (hpr i x o ox d him (hism x hx) (fun e' => hxi e'.symm) ho hox hdx).1
            have : updO ρ' o.dst v d = ρ' d := by
              cases hdo : o.dst with
              | none => rfl
              | some d' => simp only [updO, upd]; rw [if_neg (fun e' => hne (by rw [hdo, e']))]
            rw [this]; exact hv1 x hx ox d hox hdx hbx
          · intro t ht
            have h1 : o.dst ≠ some t := ht i o him ho
            have : updO ρ' o.dst v t = ρ' t := by
              cases hdo : o.dst with
              | none => rfl
              | some d' => simp only [updO, upd]; rw [if_neg (fun e' => h1 (by rw [hdo, e']))]
            rw [this]; exact hU t ht
          · intro c hc
            by_cases e : c = i
            · subst e; simp [upb_self]
            · rw [upb_ne e, hws c hc]
              simp [e]
          · refine FAt_congr (fun t ht => ?_) _ _ _ h2
            have hD := qf_at (ops := l.toArray) (val := val) is (updO ρ' o.dst v) (hdq is (fun _ h => h)) hnd
            have hnq : ∀ x ∈ is, ∀ ox d, l.toArray[x]? = some ox → Oper.dst ox = some d → o.dst ≠ some d := fun x hx ox d hox hdx => (hpr i x o ox d him (hism x hx) (fun e => hisw x hx (e ▸ hiw)) ho hox hdx).1
            by_cases hx : ∃ x ∈ is, ∃ ox, l.toArray[x]? = some ox ∧ Oper.dst ox = some t
            · obtain ⟨x, hx, ox, hox, hdx⟩ := hx
              rw [hD.1 x hx ox t hox hdx]
              have h1 := hnq x hx ox t hox hdx
              have : updO (qf l.toArray val is ρ') o.dst v t = qf l.toArray val is ρ' t := by
                cases hdo : o.dst with
                | none => rfl
                | some d' => simp only [updO, upd]; rw [if_neg (fun e' => h1 (by rw [hdo, e']))]
              rw [this, hB.1 x hx ox t hox hdx]
            · have hn : ∀ x ∈ is, ∀ ox, l.toArray[x]? = some ox → Oper.dst ox ≠ some t := fun x hx' ox hox e => hx ⟨x, hx', ox, hox, e⟩
              rw [hD.2 t hn]
              cases hdo : o.dst with
              | none => exact hB.2 t hn
              | some d' =>
                simp only [updO, upd]
                by_cases e : t = d'
                · rw [if_pos e, if_pos e]
                · rw [if_neg e, if_neg e]; exact hB.2 t hn
      · -- the first of the later ones
        have him' : i = m := by
          rcases Nat.lt_or_ge m i with h | h
          · have := hlt m (by omega) h
            rw [hb0 m (Nat.le_refl _)] at this; cases this
          · omega
        subst him'
        have hall : ∀ j, j < i → b j = true := fun j hj => hlt j (Nat.le_refl _) hj
        have hdn : ws.all done.contains = true := List.all_eq_true.2 fun c hc => by
          have := (hws c hc).1 (hall c (hwm c hc))
          simpa using this
        have hW := hW.last hdn
        have hx : wpListIn F 0 P l.toArray (lift n Q) (l.drop i) (fr n ρ' ds) w := XL_congr (fun t ht => by
          by_cases hx : ∃ x ∈ is, ∃ ox, l.toArray[x]? = some ox ∧ Oper.dst ox = some t
          · obtain ⟨x, hx, ox, hox, hdx⟩ := hx
            rw [hB.1 x hx ox t hox hdx]
            exact (hv1 x hx ox t hox hdx (hall x (hism x hx))).symm
          · exact hB.2 t (fun x hx' ox hox e => hx ⟨x, hx', ox, hox, e⟩)) (hW.use w hmem)
        have hdrop : l.drop i = o :: l.drop (i + 1) := by
          rw [List.drop_eq_getElem_cons hi']
          have : l[i] = o := (List.getElem?_eq_some_iff.1 hol).2
          rw [this]
        rw [hdrop] at hx
        have hnext : ∀ a' w', wpListIn F 0 P l.toArray (lift n Q) (l.drop (i + 1)) a' w' → (∀ i', upb b i i' = true → ∀ j ∈ deps l.toArray i', upb b i j = true) ∧
            ((∃ (ρ' : Nat → Value) (Rk : List Res) (k : Nat) (done : List Nat), a' = fr n ρ' ds ∧ (∀ x, i ≤ x → upb b i x = false) ∧ Mem base w' Rk ∧ (done = [] → Rk = R) ∧ (∀ x ∈ is, ∀ o d, l.toArray[x]? = some o → Oper.dst o = some d → upb b i x = true → ρ' d = val x) ∧
              (∀ t : Nat, (∀ (x : Nat) (o : Oper), x < i → l.toArray[x]? = some o → o.dst ≠ some t) → ρ' t = ρ t) ∧ (∀ c ∈ ws, (upb b i c = true ↔ c ∈ done)) ∧ (∀ c ∈ done, c ∈ ws) ∧ FAt F P n Q l.toArray (l.drop i) ds base R0 ws k done (qf l.toArray val is ρ') Rk) ∨
             ∃ k : Nat, i ≤ k ∧ (∀ x, x < l.length → (upb b i x = true ↔ x < k + 1)) ∧ wpListIn F 0 P l.toArray (lift n Q) (l.drop (k + 1)) a' w') := by
          intro a' w' h
          refine ⟨hcl', .inr ⟨i, Nat.le_refl _, fun j hj => ?_, h⟩⟩
          by_cases e : j = i
          · subst e; simp [upb_self]
          · rw [upb_ne e]
            by_cases hji : j < i
            · simp [hall j hji]; omega
            · rw [hb0 j (by omega)]; simp; omega
        unfold wpOpIn
        rw [ho]
        simp only
        unfold wpListIn at hx
        split
        · rename_i hw'
          rw [if_pos hw'] at hx
          exact Oper.wpIn_mono hnext hx
        · rename_i hw'
          rw [if_neg hw'] at hx
          exact ⟨hx.1, hnext _ _ hx.2⟩
    · -- a later one
      have hik : i = k + 1 := by
        have h1 : ¬ i < k + 1 := fun h => by
          have := (hbk i hi').2 h
          rw [hbi] at this; cases this
        rcases Nat.lt_or_ge (k + 1) i with h | h
        · have := hlt (k + 1) (by omega) h
          have := (hbk (k + 1) (by omega)).1 this
          omega
        · omega
      subst hik
      have hdrop : l.drop (k + 1) = o :: l.drop (k + 1 + 1) := by
        rw [List.drop_eq_getElem_cons hi']
        have : l[k + 1] = o := (List.getElem?_eq_some_iff.1 hol).2
        rw [this]
      rw [hdrop] at hx
      unfold wpOpIn
      rw [ho]
      simp only
      unfold wpListIn at hx
      split
      · rename_i hw'
        rw [if_pos hw'] at hx
        refine Oper.wpIn_mono (fun a' w' h => ⟨hcl', .inr ⟨k + 1, by omega, fun j hj => ?_, h⟩⟩) hx
        by_cases e : j = k + 1
        · subst e; simp [upb_self]
        · rw [upb_ne e, hbk j hj]; omega
      · rename_i hw'
        rw [if_neg hw'] at hx
        refine ⟨hx.1, hcl', .inr ⟨k + 1, by omega, fun j hj => ?_, hx.2⟩⟩
        by_cases e : j = k + 1
        · subst e; simp [upb_self]
        · rw [upb_ne e, hbk j hj]; omega
  · rintro b a w hall ⟨_, hI⟩
    rcases hI with ⟨ρ', Rk, k, done, rfl, hb0, hmem, hk0, hv1, hU, hws, hkw, hW⟩ | ⟨k, hk, hbk, hx⟩
    · have hml : m = l.length := by
        rcases Nat.lt_or_ge m l.length with h | h
        · have := hall m (by simpa using h)
          rw [hb0 m (Nat.le_refl _)] at this; cases this
        · omega
      have hB := qf_at (ops := l.toArray) (val := val) is ρ' (hdq is (fun _ h => h)) hnd
      have hdn : ws.all done.contains = true := List.all_eq_true.2 fun c hc => by
        have := (hws c hc).1 (hall c (by have := hwm c hc; simp; omega))
        simpa using this
      have hW := hW.last hdn
      have hx : wpListIn F 0 P l.toArray (lift n Q) (l.drop m) (fr n ρ' ds) w := XL_congr (fun t ht => by
        by_cases hx : ∃ x ∈ is, ∃ ox, l.toArray[x]? = some ox ∧ Oper.dst ox = some t
        · obtain ⟨x, hx, ox, hox, hdx⟩ := hx
          rw [hB.1 x hx ox t hox hdx]
          exact (hv1 x hx ox t hox hdx (hall x (by have := hism x hx; simp; omega))).symm
        · exact hB.2 t (fun x hx' ox hox e => hx ⟨x, hx', ox, hox, e⟩)) (hW.use w hmem)
      rw [List.drop_of_length_le (by omega)] at hx
      exact hx
    · have : l.length ≤ k + 1 := by
        rcases Nat.lt_or_ge (k + 1) l.length with h | h
        · have := (hbk (k + 1) h).1 (hall (k + 1) (by simpa using h))
          omega
        · exact h
      rw [List.drop_of_length_le this] at hx
      exact hx
end
end XW

/- Regions that draw their order: the check of who waits for whom, in time that does not grow with the number of ways. -/
namespace XW
open Go Go.RowKit RegInv
set_option linter.unusedSimpArgs false
set_option linter.unusedVariables false
set_option linter.unusedSectionVars false
def mks (ops : Array Oper) : Nat → List Nat
  | 0 => []
  | k + 1 => (deps ops k).foldl (fun a j => a ||| (1 <<< j) ||| (if j < k then (mks ops k).getD (k - 1 - j) 0 else 0)) 0 :: mks ops k
def mkAt (M : List Nat) (s i : Nat) : Nat := M.getD (s - 1 - i) 0
theorem fold_bit (g : Nat → Nat) (t : Nat) : ∀ (l : List Nat) (a : Nat), (l.foldl (fun a j => a ||| (1 <<< j) ||| g j) a).testBit t = true → a.testBit t = true ∨ ∃ j ∈ l, t = j ∨ (g j).testBit t = true
  | [], a, h => .inl h
  | j :: l, a, h => by
    rw [List.foldl_cons] at h
    rcases fold_bit g t l _ h with h1 | ⟨j', hj, h1⟩
    · rw [Nat.testBit_or, Nat.testBit_or, Bool.or_eq_true, Bool.or_eq_true] at h1
      rcases h1 with (h1 | h1) | h1
      · exact .inl h1
      · refine .inr ⟨j, by simp, .inl ?_⟩
        rw [Nat.one_shiftLeft, Nat.testBit_two_pow] at h1
        exact (of_decide_eq_true h1).symm
      · exact .inr ⟨j, by simp, .inr h1⟩
    · exact .inr ⟨j', by simp [hj], h1⟩
theorem mks_clo (ops : Array Oper) : ∀ (k i t : Nat), i < k → ((mks ops k).getD (k - 1 - i) 0).testBit t = true → ∀ f, i + 1 ≤ f → t ∈ clo ops f i
  | k + 1, i, t, hi, h, f, hf => by
    rcases Nat.lt_or_ge i k with h1 | h1
    · refine mks_clo ops k i t h1 ?_ f hf
      have e : k + 1 - 1 - i = (k - 1 - i) + 1 := by omega
      rw [e, mks] at h
      simpa using h
    · obtain rfl : i = k := by omega
      have e : i + 1 - 1 - i = 0 := by omega
      rw [e, mks] at h
      have h' : (((deps ops i).foldl (fun a j => a ||| (1 <<< j) ||| (if j < i then (mks ops i).getD (i - 1 - j) 0 else 0)) 0)).testBit t = true := h
      obtain ⟨f, rfl⟩ : ∃ f', f = f' + 1 := ⟨f - 1, by omega⟩
      rw [clo]
      rcases fold_bit _ t _ _ h' with h2 | ⟨j, hj, h2⟩
      · simp at h2
      · refine List.mem_flatMap.2 ⟨j, hj, ?_⟩
        rcases h2 with rfl | h2
        · simp
        · split at h2
          · rename_i hlt
            exact List.mem_cons_of_mem _ (mks_clo ops i j t hlt h2 f (by omega))
          · simp at h2
def drawOk2 (ops : Array Oper) (m : Nat) : Bool :=
  ordered ops && decide (m ≤ ops.size) && ops.toList.all noSD &&
  ((List.range ops.size).all fun i => decide (i < m) || (List.range i).all fun j => (mkAt (mks ops ops.size) ops.size i).testBit j) &&
  ((List.range m).all fun i => (List.range m).all fun j => i == j || (match ops[i]?, ops[j]? with
    | some oi, some oj => match oj.dst with
      | some d => (oi.dst != some d) && (!(oi.looksAt ops).contains d || (mkAt (mks ops ops.size) ops.size i).testBit j)
      | none => true
    | _, _ => false))
theorem mkAt_clo {ops : Array Oper} {i j : Nat} (hi : i < ops.size) (h : (mkAt (mks ops ops.size) ops.size i).testBit j = true) : (clo ops ops.size i).contains j = true := by
  rw [List.contains_iff_mem]
  exact mks_clo ops ops.size i j hi h ops.size (by omega)
theorem drawOk_of {ops : Array Oper} {m : Nat} (h : drawOk2 ops m = true) : drawOk ops m = true := by
  unfold drawOk2 at h
  unfold drawOk
  simp only [Bool.and_eq_true] at h ⊢
  obtain ⟨⟨⟨⟨h1, h2⟩, h3⟩, h4⟩, h5⟩ := h
  have hm : m ≤ ops.size := of_decide_eq_true h2
  refine ⟨⟨⟨⟨h1, h2⟩, h3⟩, ?_⟩, ?_⟩
  · rw [List.all_eq_true] at h4 ⊢
    intro i hi
    have h6 := h4 i hi
    rw [Bool.or_eq_true] at h6 ⊢
    rcases h6 with h6 | h6
    · exact .inl h6
    · refine .inr ?_
      rw [List.all_eq_true] at h6 ⊢
      exact fun j hj => mkAt_clo (List.mem_range.1 hi) (h6 j hj)
  · rw [List.all_eq_true] at h5 ⊢
    intro i hi
    have h6 := h5 i hi
    rw [List.all_eq_true] at h6 ⊢
    intro j hj
    have h7 := h6 j hj
    rw [Bool.or_eq_true] at h7 ⊢
    rcases h7 with h7 | h7
    · exact .inl h7
    · refine .inr ?_
      have hi' := List.mem_range.1 hi
      have hj' := List.mem_range.1 hj
      rw [Array.getElem?_eq_getElem (by omega : i < ops.size), Array.getElem?_eq_getElem (by omega : j < ops.size)] at h7 ⊢
      simp only at h7 ⊢
      split at h7
      · rename_i d hd
        rw [hd]
        simp only [Bool.and_eq_true, Bool.or_eq_true] at h7 ⊢
        exact ⟨h7.1, h7.2.imp id (mkAt_clo (by omega))⟩
      · rename_i hd
        rw [hd]
section
variable {F : Fence} {P : Program} {n : Nat} {Q : Post} {ρ : Nat → Value} {ds : List Deferred} {w base : World} {R : List Res} {ops : Array Oper}
theorem At_drawM (hF : Wide F) {id : Nat} {l : List Oper} (m : Nat) (hm : P.follows .mixedOrders = true) (hck : drawOk2 l.toArray m = true)
    (hq : AQ F P n l.toArray ds base R (l.take m) ρ (fun ρ' => AL F P n Q l.toArray (l.drop m) ρ' ds base R)) : At base R (X F P n Q (.region id l.toArray true) ρ ds) := At_draw hF m hm (drawOk_of hck) hq
end
end XW

/- A region that draws its order, in whatever class of worlds that bears draws: operations that leave the world in the class first, in whatever order, and others behind them. -/
namespace XW
open Go Go.RowKit RegInv
set_option linter.unusedSimpArgs false
set_option linter.unusedVariables false
set_option linter.unusedSectionVars false
def QStepC (F : Fence) (P : Program) (n : Nat) (ops : Array Oper) (ds : List Deferred) (C : World → Prop) (o : Oper) (ρ : Nat → Value) (v : Value) : Prop :=
  ∀ (K : (Nat → Value) → List Deferred → World → Prop) (Q : Post), (∀ w, C w → K (updO ρ o.dst v) ds w) → ∀ w, C w → XL F P n (Then K Q) ops [o] ρ ds w
def AQC (F : Fence) (P : Program) (n : Nat) (ops : Array Oper) (ds : List Deferred) (C : World → Prop) : List Oper → (Nat → Value) → ((Nat → Value) → Prop) → Prop
  | [], ρ, K => K ρ
  | o :: rest, ρ, K => ∃ v, QStepC F P n ops ds C o ρ v ∧ AQC F P n ops ds C rest (updO ρ o.dst v) K
section
variable {F : Fence} {P : Program} {n : Nat} {Q : Post} {ρ : Nat → Value} {ds : List Deferred} {w : World} {C : World → Prop} {ops : Array Oper}
theorem AQC_vals : ∀ (l : List Oper) (k : Nat) (ρ : Nat → Value) (K : (Nat → Value) → Prop), AQC F P n ops ds C l ρ K →
    ∃ val : Nat → Value, (∀ i o, l[i]? = some o → QStepC F P n ops ds C o (lex val (l.take i) k ρ) (val (k + i))) ∧ K (lex val l k ρ)
  | [], k, ρ, K, h => ⟨fun _ => undef, fun i o h => by simp at h, h⟩
  | o :: l, k, ρ, K, ⟨v, hq, h⟩ => by
    obtain ⟨val, h1, h2⟩ := AQC_vals l (k + 1) _ K h
    have hc : ∀ (l' : List Oper) (ρ' : Nat → Value), lex (fun i => if i = k then v else val i) l' (k + 1) ρ' = lex val l' (k + 1) ρ' := fun l' ρ' => lex_congr l' (k + 1) ρ' (fun i h1 h2 => by show (if i = k then v else val i) = val i; rw [if_neg (by omega)])
    refine ⟨fun i => if i = k then v else val i, ?_, ?_⟩
    · intro i o' hi
      cases i with
      | zero =>
        obtain rfl : o = o' := by simpa using hi
        simpa [lex] using hq
      | succ i =>
        have := h1 i o' (by simpa using hi)
        simp only [List.take_succ_cons, lex, if_true]
        rw [hc, if_neg (by omega), show k + (i + 1) = k + 1 + i by omega]
        exact this
    · simp only [lex, if_true]
      rw [hc]; exact h2
theorem qstepC_run (hF : Wide F) {o : Oper} {i : Nat} (ho : ops[i]? = some o) (hnd : noSD o = true) {ρ1 ρ2 : Nat → Value} {v : Value} (hq : QStepC F P n ops ds C o ρ1 v) (hag : ∀ d ∈ o.looksAt ops, d < n → ρ1 d = ρ2 d) (hw : C w) {Q' : Exit → Act → World → Prop} {K' : Act → World → Prop}
    (hK : ∀ w', C w' → K' (fr n (updO ρ2 o.dst v) ds) w') : wpOpIn F 0 P ops Q' i K' (fr n ρ2 ds) w := by
  have hsel : ∀ cs b, o.op ≠ .select cs b := fun cs b e => by unfold noSD at hnd; rw [e] at hnd; cases hnd
  have hdef : ∀ c, o.op ≠ .defer c := fun c e => by unfold noSD at hnd; rw [e] at hnd; cases hnd
  have hrun := (hq (fun ρ ds' w' => fr n ρ ds' = fr n (updO ρ1 o.dst v) ds ∧ C w') (fun _ _ _ _ => False) (fun w' hw' => ⟨rfl, hw'⟩) w hw)
  have hev : ∀ x ∈ o.op.operands, (fr n ρ1 ds).eval x = (fr n ρ2 ds).eval x := by
    intro x hx
    rw [eval_fr, eval_fr]
    cases x with
    | tmp t =>
      simp only [xv]
      by_cases h : t < n
      · rw [if_pos h, if_pos h]
        exact hag t (List.mem_append_left _ (List.mem_filterMap.2 ⟨.tmp t, by simpa using hx, rfl⟩)) h
      · rw [if_neg h, if_neg h]
    | _ => rfl
  have hwa : Region.wanted o (yielded ops (fr n ρ1 ds).tmps) = Region.wanted o (yielded ops (fr n ρ2 ds).tmps) := by
    unfold Region.wanted
    cases hg : o.guard with
    | none => rfl
    | some gw =>
      obtain ⟨g, want⟩ := gw
      have hy : yielded ops (fr n ρ1 ds).tmps g = yielded ops (fr n ρ2 ds).tmps g := by
        unfold yielded
        cases ht : (ops[g]?).bind (·.dst) with
        | none => rfl
        | some t =>
          by_cases h : t < n
          · have := hag t (List.mem_append_right _ (by simp [hg, ht])) h
            have e0 : (fr n ρ1 ds).tmps[t]? = (fr n ρ2 ds).tmps[t]? := by rw [fr_get (ρ := ρ1) (ds := ds) h, fr_get (ρ := ρ2) (ds := ds) h, this]
            simp only [Option.bind_some, e0]
          · have e1 : (fr n ρ1 ds).tmps[t]? = none := Array.getElem?_eq_none (by rw [fr_size]; exact Nat.le_of_not_lt h)
            have e2 : (fr n ρ2 ds).tmps[t]? = none := Array.getElem?_eq_none (by rw [fr_size]; exact Nat.le_of_not_lt h)
            simp only [Option.bind_some, e1, e2]
      simp only [hy]
  have hab : o.about P w (fr n ρ1 ds).eval = o.about P w (fr n ρ2 ds).eval := about_congr o w hev
  have hex : ∀ ro, o.semAt ro (fr n ρ1 ds).eval = o.semAt ro (fr n ρ2 ds).eval := fun ro => by rw [Oper.semAt_eq _ _ _ hdef, Oper.semAt_eq _ _ _ hdef]; exact execOp_congr o hsel hev
  have hput : ∀ v' w' (a' : Act), a' = fr n (updO ρ1 o.dst v') ds → wpListIn F 0 P ops (lift n (Then (fun ρ ds' w' => fr n ρ ds' = fr n (updO ρ1 o.dst v) ds ∧ C w') (fun _ _ _ _ => False))) [] a' w' → K' ((fr n ρ2 ds).put o.dst v') w' := by
    rintro v' w' a' rfl ⟨ρ', ds', e1, e2, e3⟩
    have e := e1.trans e2
    rw [put_fr]
    have : fr n (updO ρ2 o.dst v') ds = fr n (updO ρ2 o.dst v) ds := by
      refine fr_eq fun t ht => ?_
      cases hd : o.dst with
      | none => rfl
      | some d =>
        simp only [updO, upd]
        by_cases htd : t = d
        · subst htd
          rw [if_pos rfl, if_pos rfl]
          have := (fr_inj e).1 t ht
          simpa [hd, updO, upd] using this
        · rw [if_neg htd, if_neg htd]
    rw [this]; exact hK w' e3
  have hrun' : wpListIn F 0 P ops (lift n (Then (fun ρ ds' w' => fr n ρ ds' = fr n (updO ρ1 o.dst v) ds ∧ C w') (fun _ _ _ _ => False))) [o] (fr n ρ1 ds) w := hrun
  unfold wpOpIn
  rw [ho]
  simp only
  unfold wpListIn at hrun'
  rw [hwa] at hrun'
  split
  · rename_i hw'
    rw [if_pos hw'] at hrun'
    unfold Oper.wpIn at hrun' ⊢
    rw [hab, hex] at hrun'
    refine ⟨hrun'.1, ?_⟩
    have h2 := hrun'.2
    generalize (o.semAt F.round (fr n ρ2 ds).eval).run P w = r at h2 ⊢
    cases r with
    | ok x w' =>
      cases x <;> simp only [Oper.uponIn] at h2 ⊢
      case value u => exact hput u w' _ (put_fr ..) h2
      case skip => exact hput undef w' _ (put_fr ..) h2
      case enter f args =>
        refine ⟨h2.1, CallsIn.mono h2.2 fun e w'' he => ?_⟩
        cases e with
        | returned u => exact hput u w'' _ (put_fr ..) he
        | panicked ch => obtain ⟨_, _, _, hf⟩ := he; exact hf.elim
        | outgrown => obtain ⟨_, _, _, _, _, hf⟩ := he; exact hf.elim
      case row row args => exact ⟨h2.1, RowsIn.mono h2.2 fun u w'' he => hput u w'' _ (put_fr ..) he⟩
      case round l f tmps assign body =>
        refine ⟨h2.1, RoundIn.mono h2.2 fun e w'' he => ?_⟩
        cases e with
        | returned u => exact hput u w'' _ (put_fr ..) he
        | panicked ch => obtain ⟨_, _, _, hf⟩ := he; exact hf.elim
        | outgrown => obtain ⟨_, _, _, _, _, hf⟩ := he; exact hf.elim
      case defer d =>
        obtain ⟨ρ', ds', e1, e2, e3⟩ := h2
        have := congrArg Act.defers (e1.trans e2)
        have hl := congrArg List.length this
        exfalso
        cases hd : o.dst <;> rw [hd] at hl <;> simp [Act.put, fr] at hl
    | halt x w' =>
      cases x <;> simp only [Oper.uponIn] at h2 ⊢
      case panic u => obtain ⟨_, _, _, hf⟩ := h2; exact hf.elim
  · rename_i hw'
    rw [if_neg hw'] at hrun'
    rw [hab] at hrun'
    exact ⟨hrun'.1, hput undef w _ (put_fr ..) hrun'.2⟩
theorem X_drawC (hC : ∀ w, C w → C (w.drewN 1)) (hF : Wide F) {id : Nat} {l : List Oper} (m : Nat) (hm : P.follows .mixedOrders = true) (hck : drawOk l.toArray m = true)
    (hq : AQC F P n l.toArray ds C (l.take m) ρ (fun ρ' => ∀ w, C w → XL F P n Q l.toArray (l.drop m) ρ' ds w)) : ∀ w, C w → X F P n Q (.region id l.toArray true) ρ ds w := fun w hw => by
  obtain ⟨val, hval, hend⟩ := AQC_vals (l.take m) 0 ρ _ hq
  simp only [drawOk, Bool.and_eq_true, List.all_eq_true, List.mem_range, decide_eq_true_eq, Bool.or_eq_true, List.contains_iff_mem] at hck
  obtain ⟨⟨⟨⟨hor, hms⟩, hno⟩, hlate⟩, hpair⟩ := hck
  have hms' : m ≤ l.length := by simpa using hms
  have hlen : (l.take m).length = m := by simp [hms']
  have hget : ∀ i, i < m → (l.take m)[i]? = l[i]? := fun i hi => by rw [List.getElem?_take, if_pos hi]
  have hpr : ∀ (i j : Nat) (oi oj : Oper) (d : Nat), i < m → j < m → i ≠ j → l[i]? = some oi → l[j]? = some oj → oj.dst = some d → oi.dst ≠ some d ∧ (d ∈ oi.looksAt l.toArray → j ∈ clo l.toArray l.length i) := by
    intro i j oi oj d hi hj hij h1 h2 h3
    have := hpair i hi j hj
    simp only [List.getElem?_toArray, h1, h2, h3] at this
    rcases this with h | h
    · exact absurd (by simpa using h) hij
    · simp only [Bool.and_eq_true, bne_iff_ne, ne_eq, Bool.or_eq_true, Bool.not_eq_true', List.contains_iff_mem] at h
      refine ⟨h.1, fun hd => ?_⟩
      rcases h.2 with h4 | h4
      · exfalso
        have : (oi.looksAt l.toArray).contains d = true := by simpa using hd
        rw [this] at h4; cases h4
      · simpa using h4
  have hdist : ∀ (k : Nat), k ≤ m → ∀ (i j : Nat) (oi oj : Oper) (d : Nat), (l.take k)[i]? = some oi → (l.take k)[j]? = some oj → oi.dst = some d → oj.dst = some d → i = j := by
    intro k hk i j oi oj d h1 h2 h3 h4
    have hik : i < k := by have := (List.getElem?_eq_some_iff.1 h1).1; simp at this; omega
    have hjk : j < k := by have := (List.getElem?_eq_some_iff.1 h2).1; simp at this; omega
    rw [List.getElem?_take, if_pos hik] at h1
    rw [List.getElem?_take, if_pos hjk] at h2
    by_cases e : i = j
    · exact e
    · exact absurd h3 (hpr i j oi oj d (by omega) (by omega) e h1 h2 h4).1
  refine region_inv hm hor (fun b a w => (∀ i', b i' = true → ∀ j ∈ deps l.toArray i', b j = true) ∧
    ((∃ ρ', a = fr n ρ' ds ∧ (∀ i, m ≤ i → b i = false) ∧ C w ∧ (∀ (i : Nat) (o : Oper) (d : Nat), i < m → l[i]? = some o → o.dst = some d → b i = true → ρ' d = val i) ∧ (∀ t : Nat, (∀ (i : Nat) (o : Oper), i < m → l[i]? = some o → b i = true → o.dst ≠ some t) → ρ' t = ρ t)) ∨
     ∃ k : Nat, m ≤ k ∧ (∀ i, i < l.length → (b i = true ↔ i < k + 1)) ∧ wpListIn F 0 P l.toArray (lift n Q) (l.drop (k + 1)) a w)) ?_ ?_ ?_
  · exact ⟨fun i h => (by cases h), .inl ⟨ρ, rfl, fun _ _ => rfl, hC _ hw, fun i o d _ _ _ h => (by cases h), fun _ _ => rfl⟩⟩
  · rintro i hi b a w ⟨hcl, hI⟩ hbi hd
    have hi' : i < l.length := by simpa using hi
    have hcl' : ∀ i', upb b i i' = true → ∀ j ∈ deps l.toArray i', upb b i j = true := by
      intro i' h' j hj
      rcases upb_or h' with rfl | ⟨_, h'⟩
      · have hne : j ≠ i' := by rintro rfl; rw [hd _ hj] at hbi; cases hbi
        rw [upb_ne hne]; exact hd j hj
      · have := hcl i' h' j hj
        by_cases e : j = i
        · rw [e, upb_self]
        · rw [upb_ne e]; exact this
    have hcd := clo_done hcl l.length i hd
    obtain ⟨o, ho⟩ : ∃ o, l[i]? = some o := ⟨_, List.getElem?_eq_getElem hi'⟩
    have ho' : l.toArray[i]? = some o := by simpa using ho
    have hnd : noSD o = true := hno o (by simpa using List.mem_of_getElem? ho)
    have hlt : ∀ j, m ≤ i → j < i → b j = true := fun j hmi hji => by
      rcases hlate i hi with h | h
      · omega
      · exact hcd j (by simpa using h j hji)
    rcases hI with ⟨ρ', rfl, hb0, hmem, hv1, hv2⟩ | ⟨k, hk, hbk, hx⟩
    · by_cases him : i < m
      · -- a quiet one
        have hqi := hval i o (by rw [hget i him]; exact ho)
        rw [Nat.zero_add] at hqi
        have hla := lex_at val ((l.take m).take i) 0 ρ (by
          rw [List.take_take, Nat.min_eq_left (Nat.le_of_lt him)]
          exact hdist i (Nat.le_of_lt him))
        have hgi : ∀ j, j < i → ((l.take m).take i)[j]? = l[j]? := fun j hj => by rw [List.getElem?_take, if_pos hj, hget j (by omega)]
        have hgn : ∀ j o, ((l.take m).take i)[j]? = some o → j < i ∧ l[j]? = some o := fun j o h => by
          have hj : j < i := by have := (List.getElem?_eq_some_iff.1 h).1; simp at this; omega
          exact ⟨hj, by rw [← hgi j hj]; exact h⟩
        refine qstepC_run hF ho' hnd hqi (fun d hdl hdn => ?_) hmem (fun w' hw' => ⟨hcl', .inl ⟨_, rfl, fun i' h' => ?_, hw', ?_, ?_⟩⟩)
        · -- they agree where o looks
          by_cases hw : ∃ j oj, j < m ∧ l[j]? = some oj ∧ oj.dst = some d ∧ j ≠ i
          · obtain ⟨j, oj, hj, hoj, hdj, hji⟩ := hw
            have hc := (hpr i j o oj d him hj (fun e => hji e.symm) ho hoj hdj).2 hdl
            have hbj := hcd j hc
            rw [hv1 j oj d hj hoj hdj hbj]
            have hjl : j < i := by
              -- what is behind i is before it
              have : ∀ (f a : Nat), a < l.length → ∀ x ∈ clo l.toArray f a, x < a := by
                intro f
                induction f with
                | zero => intro a _ x hx; cases hx
                | succ f ih =>
                  intro a ha x hx
                  obtain ⟨y, hy, hx⟩ := List.mem_flatMap.1 hx
                  have h1 : y < a := by
                    have h := List.all_eq_true.1 hor a (List.mem_range.2 (by simpa using ha))
                    simpa using List.all_eq_true.1 h y hy
                  rcases List.mem_cons.1 hx with rfl | hx
                  · exact h1
                  · have := ih y (by omega) x hx; omega
              exact this _ i hi' j hc
            have := hla.1 j oj d (by rw [hgi j hjl]; exact hoj) hdj
            rw [this, Nat.zero_add]
          · have hn1 : ∀ (j : Nat) (o' : Oper), ((l.take m).take i)[j]? = some o' → o'.dst ≠ some d := fun j o' h e => by
              obtain ⟨h1, h2⟩ := hgn j o' h
              exact hw ⟨j, o', by omega, h2, e, by omega⟩
            rw [hla.2 d hn1]
            symm
            refine hv2 d (fun j o' hj hoj hbj e => hw ⟨j, o', hj, hoj, e, fun e' => ?_⟩)
            rw [e', hbi] at hbj; cases hbj
        · rw [upb_ne (by omega)]; exact hb0 i' h'
        · intro j oj d hj hoj hdj hbj
          by_cases e : j = i
          · subst e
            rw [ho] at hoj; cases hoj
            rw [hdj]; simp [updO, upd]
          · rw [upb_ne e] at hbj
            have hne := (hpr i j o oj d him hj (fun e' => e e'.symm) ho hoj hdj).1
            have : updO ρ' o.dst (val i) d = ρ' d := by
              cases hdo : o.dst with
              | none => rfl
              | some d' => simp only [updO, upd]; rw [if_neg (fun e' => hne (by rw [hdo, e']))]
            rw [this]; exact hv1 j oj d hj hoj hdj hbj
        · intro t ht
          have h1 : o.dst ≠ some t := ht i o him ho (upb_self b i)
          have : updO ρ' o.dst (val i) t = ρ' t := by
            cases hdo : o.dst with
            | none => rfl
            | some d' => simp only [updO, upd]; rw [if_neg (fun e' => h1 (by rw [hdo, e']))]
          rw [this]
          refine hv2 t (fun j oj hj hoj hbj => ht j oj hj hoj ?_)
          by_cases e : j = i
          · rw [e, upb_self]
          · rw [upb_ne e]; exact hbj
      · -- the first of the later ones
        have him' : i = m := by
          rcases Nat.lt_or_ge m i with h | h
          · have := hlt m (by omega) h
            rw [hb0 m (Nat.le_refl _)] at this; cases this
          · omega
        subst him'
        have hall : ∀ j, j < i → b j = true := fun j hj => hlt j (Nat.le_refl _) hj
        have hla := lex_at val (l.take i) 0 ρ (hdist i (Nat.le_refl _))
        have hρ : lex val (l.take i) 0 ρ = ρ' := by
          funext t
          by_cases hw : ∃ j oj, j < i ∧ l[j]? = some oj ∧ oj.dst = some t
          · obtain ⟨j, oj, hj, hoj, hdj⟩ := hw
            rw [hla.1 j oj t (by rw [hget j hj]; exact hoj) hdj, Nat.zero_add, hv1 j oj t hj hoj hdj (hall j hj)]
          · rw [hla.2 t (fun j oj h e => by
              have hj : j < i := by have := (List.getElem?_eq_some_iff.1 h).1; simp at this; omega
              exact hw ⟨j, oj, hj, by rw [← hget j hj]; exact h, e⟩)]
            exact (hv2 t (fun j oj hj hoj _ e => hw ⟨j, oj, hj, hoj, e⟩)).symm
        rw [hρ] at hend
        have hx : wpListIn F 0 P l.toArray (lift n Q) (l.drop i) (fr n ρ' ds) w := hend w hmem
        have hdrop : l.drop i = o :: l.drop (i + 1) := by
          rw [List.drop_eq_getElem_cons hi']
          have : l[i] = o := (List.getElem?_eq_some_iff.1 ho).2
          rw [this]
        rw [hdrop] at hx
        have hnext : ∀ a' w', wpListIn F 0 P l.toArray (lift n Q) (l.drop (i + 1)) a' w' → (∀ i', upb b i i' = true → ∀ j ∈ deps l.toArray i', upb b i j = true) ∧
            ((∃ ρ'_1, a' = fr n ρ'_1 ds ∧ (∀ i_1, i ≤ i_1 → upb b i i_1 = false) ∧ C w' ∧ (∀ (i_1 : Nat) (o : Oper) (d : Nat), i_1 < i → l[i_1]? = some o → o.dst = some d → upb b i i_1 = true → ρ'_1 d = val i_1) ∧ (∀ t : Nat, (∀ (i_1 : Nat) (o : Oper), i_1 < i → l[i_1]? = some o → upb b i i_1 = true → o.dst ≠ some t) → ρ'_1 t = ρ t)) ∨
              ∃ k, i ≤ k ∧ (∀ i_1, i_1 < l.length → (upb b i i_1 = true ↔ i_1 < k + 1)) ∧ wpListIn F 0 P l.toArray (lift n Q) (l.drop (k + 1)) a' w') := by
          intro a' w' h
          refine ⟨hcl', .inr ⟨i, Nat.le_refl _, fun j hj => ?_, h⟩⟩
          by_cases e : j = i
          · subst e; simp [upb_self]
          · rw [upb_ne e]
            by_cases hji : j < i
            · simp [hall j hji]; omega
            · rw [hb0 j (by omega)]; simp; omega
        unfold wpOpIn
        rw [ho']
        simp only
        unfold wpListIn at hx
        split
        · rename_i hw'
          rw [if_pos hw'] at hx
          exact Oper.wpIn_mono hnext hx
        · rename_i hw'
          rw [if_neg hw'] at hx
          exact ⟨hx.1, hnext _ _ hx.2⟩
    · -- a later one
      have hik : i = k + 1 := by
        have h1 : ¬ i < k + 1 := fun h => by
          have := (hbk i hi').2 h
          rw [hbi] at this; cases this
        rcases Nat.lt_or_ge (k + 1) i with h | h
        · have := hlt (k + 1) (by omega) h
          have := (hbk (k + 1) (by omega)).1 this
          omega
        · omega
      subst hik
      have hdrop : l.drop (k + 1) = o :: l.drop (k + 1 + 1) := by
        rw [List.drop_eq_getElem_cons hi']
        have : l[k + 1] = o := (List.getElem?_eq_some_iff.1 ho).2
        rw [this]
      rw [hdrop] at hx
      have hnext : ∀ a' w', wpListIn F 0 P l.toArray (lift n Q) (l.drop (k + 1 + 1)) a' w' → (∀ i', upb b (k + 1) i' = true → ∀ j ∈ deps l.toArray i', upb b (k + 1) j = true) ∧
          ((∃ ρ', a' = fr n ρ' ds ∧ (∀ i, m ≤ i → upb b (k + 1) i = false) ∧ C w' ∧ (∀ (i : Nat) (o : Oper) (d : Nat), i < m → l[i]? = some o → o.dst = some d → upb b (k + 1) i = true → ρ' d = val i) ∧ (∀ t : Nat, (∀ (i : Nat) (o : Oper), i < m → l[i]? = some o → upb b (k + 1) i = true → o.dst ≠ some t) → ρ' t = ρ t)) ∨
            ∃ k_1, m ≤ k_1 ∧ (∀ i, i < l.length → (upb b (k + 1) i = true ↔ i < k_1 + 1)) ∧ wpListIn F 0 P l.toArray (lift n Q) (l.drop (k_1 + 1)) a' w') := by
        intro a' w' h
        refine ⟨hcl', .inr ⟨k + 1, by omega, fun j hj => ?_, h⟩⟩
        by_cases e : j = k + 1
        · subst e; simp [upb_self]
        · rw [upb_ne e, hbk j hj]; omega
      unfold wpOpIn
      rw [ho']
      simp only
      unfold wpListIn at hx
      split
      · rename_i hw'
        rw [if_pos hw'] at hx
        exact Oper.wpIn_mono hnext hx
      · rename_i hw'
        rw [if_neg hw'] at hx
        exact ⟨hx.1, hnext _ _ hx.2⟩
  · rintro b a w hall ⟨_, hI⟩
    rcases hI with ⟨ρ', rfl, hb0, hmem, hv1, hv2⟩ | ⟨k, hk, hbk, hx⟩
    · have hml : m = l.length := by
        rcases Nat.lt_or_ge m l.length with h | h
        · have := hall m (by simpa using h)
          rw [hb0 m (Nat.le_refl _)] at this; cases this
        · omega
      have hla := lex_at val (l.take m) 0 ρ (hdist m (Nat.le_refl _))
      have hρ : lex val (l.take m) 0 ρ = ρ' := by
        funext t
        by_cases hw : ∃ j oj, j < m ∧ l[j]? = some oj ∧ oj.dst = some t
        · obtain ⟨j, oj, hj, hoj, hdj⟩ := hw
          rw [hla.1 j oj t (by rw [hget j hj]; exact hoj) hdj, Nat.zero_add, hv1 j oj t hj hoj hdj (hall j (by simp; omega))]
        · rw [hla.2 t (fun j oj h e => by
            have hj : j < m := by have := (List.getElem?_eq_some_iff.1 h).1; simp at this; omega
            exact hw ⟨j, oj, hj, by rw [← hget j hj]; exact h, e⟩)]
          exact (hv2 t (fun j oj hj hoj _ e => hw ⟨j, oj, hj, hoj, e⟩)).symm
      rw [hρ] at hend
      have hx : wpListIn F 0 P l.toArray (lift n Q) (l.drop m) (fr n ρ' ds) w := hend w hmem
      rw [List.drop_of_length_le (by omega)] at hx
      exact hx
    · have : l.length ≤ k + 1 := by
        rcases Nat.lt_or_ge (k + 1) l.length with h | h
        · have := (hbk (k + 1) h).1 (hall (k + 1) (by simpa using h))
          omega
        · exact h
      rw [List.drop_of_length_le this] at hx
      exact hx
theorem AQC_cons {o : Oper} {rest : List Oper} {K : (Nat → Value) → Prop} {v : Value} (hs : ∀ (K : (Nat → Value) → List Deferred → World → Prop) (Q : Post), (∀ w, C w → K (updO ρ o.dst v) ds w) → ∀ w, C w → XL F P n (Then K Q) ops [o] ρ ds w) (h : AQC F P n ops ds C rest (updO ρ o.dst v) K) : AQC F P n ops ds C (o :: rest) ρ K := ⟨v, hs, h⟩
theorem AQC_done {l2 : List Oper} (h : ∀ w, C w → XL F P n Q ops l2 ρ ds w) : AQC F P n ops ds C [] ρ (fun ρ' => ∀ w, C w → XL F P n Q ops l2 ρ' ds w) := h
end
end XW

/- Struct literals; calls after which one goes on from the new memory. -/
namespace XW
open Go Go.RowKit
set_option linter.unusedSimpArgs false
set_option linter.unusedVariables false
set_option linter.unusedSectionVars false
class TB (P : Program) (t : TypeId) where
  pl : List (Nat × Nat)
  h : ∃ fs, P.underlying t = some (.struct fs) ∧ ∀ W, (fs.mapM fun f => do pure (f.offset, ← Go.sizeOf f.type) : Sem (Array (Nat × Nat))).run P W = .ok pl.toArray W
section
variable {F : Fence} {P : Program} {n : Nat} {Q : Post} {ρ : Nat → Value} {ds : List Deferred} {w base : World} {R R' : List Res} {ops : Array Oper} {Φ : World → Prop}
variable (hF : Wide F) {dst : Option Tmp} {t ty : TypeId} {x y z u : Operand} {pos : String} {af : Array Edge} {rest : List Oper}
include hF
theorem At_buildS {parts : Array (Nat × Operand)} {ps : List (Nat × Value)} {cs : Array Value} [Z : TZ P t] [B : TB P t] (hp : parts.toList.map (fun x => (x.fst, xv n ρ x.snd)) = ps) (hf : Instr.fill (fun i => B.pl[i]?) Z.z.cells ps = some cs)
    (h : AL F P n Q ops rest (updO ρ dst (.agg cs)) ds base R) : AL F P n Q ops (⟨dst, .build t parts, ty, pos, af, none⟩ :: rest) ρ ds base R := ⟨fun w hw => XL_gives hF rfl (by simp) (.inl (by
    obtain ⟨fs, hu, hm⟩ := B.h
    obtain ⟨i', hi', hz'⟩ := Z.h
    have hm' := hm w
    have hpl : ∀ i : Nat, B.pl.toArray[i]? = B.pl[i]? := fun i => by simp
    have e : (Instr.build t (parts.map fun x => (x.fst, xv n ρ x.snd))).run P w = .ok (.agg cs) w := by
      unfold Instr.build
      have hps : (parts.map fun x => (x.fst, xv n ρ x.snd)).toList = ps := by rw [Array.toList_map]; exact hp
      have h0 : (zeroValue t).run P w = .ok Z.z w := by simp [zeroValue, typeInfo, program, hi', hz', Sem.run_bind, Sem.run, Result.andThen]
      have h1 : (underlying t).run P w = .ok (.struct fs) w := by simp [underlying, program, hu, Sem.run_bind, Sem.run, Result.andThen]
      rw [Sem.run_bind, h0]
      simp only [Result.andThen]
      rw [Sem.run_bind, h1]
      simp only [Result.andThen]
      rw [Sem.run_bind, hm']
      simp only [Result.andThen]
      have hf2 : Instr.fill (fun x => B.pl.toArray[x]?) Z.z.cells (parts.map fun x => (x.fst, xv n ρ x.snd)).toList = some cs := by
        rw [hps]; rw [← hf]; congr 1; funext i; exact hpl i
      rw [hf2]; rfl
    simp only [execOp]
    rw [Sem.run_bind, e]; rfl)) (h.use w hw)⟩
theorem At_callR {f : FuncId} {args : Array Operand} {ats : Array TypeId} (hE : Enters P f) (ha : F.alive = false) {vs : Array Value} {Post : Value → World → World → Prop} (hv : args.map (xv n ρ) = vs) (hc : ∀ w, Mem base w R → Rets P f vs w (Post · w)) (h : ∀ u w w', Mem base w R → Post u w w' → AL F P n Q ops rest (updO ρ dst u) ds w' []) :
    AL F P n Q ops (⟨dst, .call { callee := .value (.func f), args := args, argTypes := ats }, ty, pos, af, none⟩ :: rest) ρ ds base R := At_call hF hE ha hv hc fun u w w' hw hp => (h u w w' hw hp).use w' (Mem.start w')
theorem At_callK {f : FuncId} {args : Array Operand} {ats : Array TypeId} (hE : Enters P f) (ha : F.alive = false) {vs : Array Value} {Post : Value → World → Prop} (hv : args.map (xv n ρ) = vs) (hc : ∀ w, Mem base w R → Rets P f vs w fun u w' => Post u w' ∧ Below w.heap.size w w') (h : ∀ u w', Below base.heap.size base w' → Post u w' → AL F P n Q ops rest (updO ρ dst u) ds w' []) :
    AL F P n Q ops (⟨dst, .call { callee := .value (.func f), args := args, argTypes := ats }, ty, pos, af, none⟩ :: rest) ρ ds base R := At_callR hF hE ha hv hc fun u w w' hw hp => h u w' (hw.below.trans (hp.2.mono hw.size)) hp.1
theorem At_slice1G {α : Type} (f : α → Value) (l : List α) {m : Nat} {parts : Array (Nat × Operand)} [T : TS P t] (hT : T.sz = 1 ∧ T.z.cells.size = 1) (hf : ∀ x, (f x).cells = #[f x]) (hm : l.length = m) (hl : m ≠ 0 ∧ m ≤ 1000) (hp : parts.toList.map (fun x => (x.fst, xv n ρ x.snd)) = (List.range' 0 (l.map f).length).zip (l.map f))
    (h : ∀ b, AL F P n Q ops rest (updO ρ dst (.slice (some ⟨b, 0, none⟩) m m)) ds base (.obj b (.cells (buf (sc f) l []) T.e (0, 0)) :: R)) : AL F P n Q ops (⟨dst, .buildSlice t m parts, ty, pos, af, none⟩ :: rest) ρ ds base R :=
  At_buildSliceG hF (vs := l.map f) (by rw [List.length_map, hm]) hp (fun v hv => by
    obtain ⟨x, _, rfl⟩ := List.mem_map.1 hv
    rw [hf, hT.1]; rfl) ⟨by rw [hT.2, hT.1], by rw [hT.1]; decide, by rw [hT.1]; omega⟩ hl.1 (by
    have : ∀ l : List α, ((l.map f).flatMap fun v => v.cells.toList) = l.flatMap (sc f) := fun l => by
      induction l with
      | nil => rfl
      | cons x l ih => rw [List.map_cons, List.flatMap_cons, ih, hf, List.flatMap_cons]; rfl
    rw [this, buf, List.append_nil]) h
end
end XW

/- A guard whose own operation was passed over. -/
namespace XW
open Go Go.RowKit
section
variable {F : Fence} {P : Program} {n : Nat} {Q : Post} {ρ : Nat → Value} {ds : List Deferred} {base : World} {R : List Res} {ops : Array Oper}
theorem At_guard_u (hF : Wide F) {dst : Option Tmp} {op : Op} {ty : TypeId} {pos : String} {af : Array Edge} {rest : List Oper} {g t : Nat} {want : Bool} (ho : (ops[g]?).bind (·.dst) = some t) (ht : t < n) (hv : ρ t = undef)
    (h1 : AL F P n Q ops rest (updO ρ dst undef) ds base R) : AL F P n Q ops (⟨dst, op, ty, pos, af, some (g, want)⟩ :: rest) ρ ds base R := ⟨fun w hw => by
  obtain ⟨og, hog, hd⟩ := Option.bind_eq_some_iff.1 ho
  show wpListIn ..
  unfold wpListIn
  have hw' : Region.wanted (⟨dst, op, ty, pos, af, some (g, want)⟩ : Oper) (yielded ops (fr n ρ ds).tmps) = false := by
    simp only [Region.wanted, yielded, hog, Option.bind_some, hd, fr_get ht, hv, undef]
    rfl
  rw [hw', if_neg (by simp), put_fr]
  exact ⟨fun f _ => hF.fn f, h1.use w hw⟩⟩
end
end XW

/- Calls within a fence: a callee that calls yield itself (an iterator's closure that calls itself). -/
namespace XW
open Go Go.RowKit RegInv
set_option linter.unusedSimpArgs false
set_option linter.unusedVariables false
set_option linter.unusedSectionVars false
section
variable {F : Fence} {P : Program} {n : Nat} {Q : Post} {ρ : Nat → Value} {ds : List Deferred} {w base : World} {R : List Res} {ops : Array Oper}
theorem wpIn_callF (hF : Wide F) {o : Oper} (hd : ∀ c, o.op ≠ .defer c) {f : FuncId} {args : Array Value} {w' : World} (hr : (execOp (xv n ρ) o).run P w = .ok (.enter f args) w')
    {S : Value → World → Prop} (hc : CallsIn F 0 P f args w' fun e w'' => ∃ v, e = .returned v ∧ S v w'') {K : Act → World → Prop} {Q' : Exit → Act → World → Prop} (h : ∀ v w'', S v w'' → K (fr n (updO ρ o.dst v) ds) w'') :
    o.wpIn F 0 P (fr n ρ ds) w K Q' := by
  refine ⟨fun f _ => hF.fn f, ?_⟩
  rw [semAt_any _ _ _ hd, eval_fr, hr]
  refine ⟨fun hs => (by rw [hF.depth] at hs; cases hs), hc.mono fun e w'' ⟨v, he, hv⟩ => ?_⟩
  subst he
  show K ((fr n ρ ds).put o.dst v) w''
  rw [put_fr]; exact h v w'' hv
theorem At_callvF (hF : Wide F) {dst : Option Tmp} {ty : TypeId} {x : Operand} {pos : String} {af : Array Edge} {rest : List Oper} {f : FuncId} {first caps as : Array Value} {args : Array Operand} {ats : Array TypeId} (hE : Enters P f) (hx : xv n ρ x = .func (.func f) first caps) {vs : Array Value} {Post : Value → List Res → Prop} (hv : args.map (xv n ρ) = vs) (has : first ++ vs ++ caps = as)
    (hc : ∀ w, Mem base w R → CallsIn F 0 P f as w fun e w' => ∃ v, e = .returned v ∧ ∃ R', Post v R' ∧ Mem base w' R') (h : ∀ u R', Post u R' → AL F P n Q ops rest (updO ρ dst u) ds base R') :
    AL F P n Q ops (⟨dst, .call { callee := .value x, args := args, argTypes := ats }, ty, pos, af, none⟩ :: rest) ρ ds base R := ⟨fun w hw => by
  have hc' := hc w hw
  have key : ∀ {K : Act → World → Prop} {Q' : Exit → Act → World → Prop}, (∀ v w'', (∃ R', Post v R' ∧ Mem base w'' R') → K (fr n (updO ρ dst v) ds) w'') → Oper.wpIn F 0 P ⟨dst, .call { callee := .value x, args := args, argTypes := ats }, ty, pos, af, none⟩ (fr n ρ ds) w K Q' := fun h =>
    wpIn_callF hF (o := ⟨dst, .call { callee := .value x, args := args, argTypes := ats }, ty, pos, af, none⟩) (by simp) (run_call_value rfl rfl hx hE) (by rw [hv, has]; exact hc') h
  refine wpListIn_plain rfl fun K hK => key fun v w'' ⟨R', h1, h2⟩ => hK _ _ ((h v R' h1).use w'' h2)⟩
end
theorem At_rowSome {base : World} {R : List Res} {Φ : World → Prop} {α : Type} {e sz : Nat} {enc : α → List Value} {A : Option Nat} {c : Nat} {l : List α} (i : Nat) (hi : R[i]? = some (.row e sz enc A c l)) (h0 : 0 < l.length) (h : ∀ b, A = some b → At base R Φ) : At base R Φ := fun w hw => by
  obtain ⟨b, junk, h1, _⟩ := hw.open i hi h0
  exact h b h1 w hw
end XW

/- An element of several cells, read out of a row of the call's own. -/
namespace XW
open Go Go.RowKit
set_option linter.unusedSimpArgs false
set_option linter.unusedVariables false
set_option linter.unusedSectionVars false
section
variable {F : Fence} {P : Program} {n : Nat} {Q : Post} {ρ : Nat → Value} {ds : List Deferred} {w base : World} {R R' : List Res} {ops : Array Oper} {Φ : World → Prop}
theorem row_cell {α : Type} {e sz c : Nat} {enc : α → List Value} {b : Nat} {l : List α} {w : World} (h : RowOk e sz enc (some b) c l w) (d : α) {k : Nat} (hk : k < l.length) : ∀ j u, (enc (l.getD k d))[j]? = some u → w.cell? ⟨b, k * sz + j, none⟩ = some u := by
  obtain ⟨h1, _, _, junk, hb, _⟩ := h
  intro j u hu
  have := get_flat h1 d l k hk (j := j) (v := u) hu
  refine cell_of hb ?_
  rw [buf, List.getElem?_toArray, List.getElem?_append_left (List.getElem?_eq_some_iff.1 this).1]
  exact this
theorem At_loadRow (hF : Wide F) {dst : Option Tmp} {t ty : TypeId} {x : Operand} {pos : String} {af : Array Edge} {rest : List Oper} {α : Type} {e sz c b k : Nat} {enc : α → List Value} {l : List α} [T : TAgg P t] (i : Nat) (hx : xv n ρ x = .pointer (some ⟨b, k * sz, none⟩)) (hi : R[i]? = some (.row e sz enc (some b) c l)) (d : α) (hk : k < l.length) (hs : T.size = sz) {v : Value} (hv : .agg (enc (l.getD k d)).toArray = v)
    (h : AL F P n Q ops rest (updO ρ dst v) ds base R) : AL F P n Q ops (⟨dst, .load t x, ty, pos, af, none⟩ :: rest) ρ ds base R := ⟨fun w hw => by
  subst hv
  obtain ⟨d', i', hu, hd, hi', hsz⟩ := T.h
  have hok := hw.ok _ (List.mem_of_getElem? hi)
  have hl : (enc (l.getD k d)).length = T.size := by rw [hs]; exact hok.1 _
  exact XL_load hF hx (loads_agg (cs := enc (l.getD k d)) hu hd hi' (by omega) (fun j u hj => by
    rw [add_plain]
    exact row_cell hok d hk j u hj)) (h.use w hw)⟩
end
end XW

/- Cuts of slices: s[l:h], s[:h], s[l:], with and without a bound for the room. -/
namespace XW
open Go Go.RowKit
set_option linter.unusedSimpArgs false
set_option linter.unusedVariables false
set_option linter.unusedSectionVars false
def cutA (A : Option Addr) (l m s : Nat) : Option Addr := if m = l then A else A.map (·.add (l * s))
theorem sliced_cut (A : Option Addr) (l h m s : Nat) : sliced A l h m s = .slice (cutA A l m s) (h - l) (m - l) := rfl
section
variable {F : Fence} {P : Program} {n : Nat} {Q : Post} {ρ : Nat → Value} {ds : List Deferred} {w base : World} {R : List Res} {ops : Array Oper}
variable (hF : Wide F) {dst : Option Tmp} {t ty : TypeId} {x : Operand} {pos : String} {af : Array Edge} {rest : List Oper}
include hF
theorem At_cut_l {A : Option Addr} {len c l : Nat} {kl : IntKind} {y : Operand} [T : TS P t] (hx : xv n ρ x = .slice A len c) (hl : xv n ρ y = .int kl (l : Nat)) (h1 : l ≤ len) (hk : AL F P n Q ops rest (updO ρ dst (.slice (cutA A l c T.sz) (len - l) (c - l))) ds base R) :
    AL F P n Q ops (⟨dst, .slice t x (some y) (none) (none), ty, pos, af, none⟩ :: rest) ρ ds base R := ⟨fun w hw => by
  obtain ⟨i, hi, hs, _⟩ := T.h
  have he : P.elem t = T.e := by simp [Program.elem, T.u]
  have hu : P.underlying t = some (.slice (P.elem t)) := by rw [he]; exact T.u
  have hz : (Go.sizeOf (P.elem t)).run P w = .ok T.sz w := by rw [he]; simp [Go.sizeOf, typeInfo, program, hi, hs, Sem.run_bind, Sem.run, Result.andThen]
  refine XL_gives hF rfl (by simp) (.inl ?_) (hk.use w hw)
  simp only [execOp, Option.map_some, Option.map_none, hx, hl]
  rw [Sem.run_bind, run_sliceAt_slice _ _ _ _ _ _ hu, run_slice_l _ _ _ _ _ hu _ (l : Int) (by omega) (by omega), hz]
  simp [Sem.run, Result.andThen, sliced_cut]⟩
theorem At_cut_hm {A : Option Addr} {len c h m : Nat} {kh km : IntKind} {z u : Operand} [T : TS P t] (hx : xv n ρ x = .slice A len c) (hh : xv n ρ z = .int kh (h : Nat)) (hm : xv n ρ u = .int km (m : Nat)) (h2 : h ≤ m) (h3 : m ≤ c) (hk : AL F P n Q ops rest (updO ρ dst (.slice (cutA A 0 m T.sz) (h - 0) (m - 0))) ds base R) :
    AL F P n Q ops (⟨dst, .slice t x (none) (some z) (some u), ty, pos, af, none⟩ :: rest) ρ ds base R := ⟨fun w hw => by
  obtain ⟨i, hi, hs, _⟩ := T.h
  have he : P.elem t = T.e := by simp [Program.elem, T.u]
  have hu : P.underlying t = some (.slice (P.elem t)) := by rw [he]; exact T.u
  have hz : (Go.sizeOf (P.elem t)).run P w = .ok T.sz w := by rw [he]; simp [Go.sizeOf, typeInfo, program, hi, hs, Sem.run_bind, Sem.run, Result.andThen]
  refine XL_gives hF rfl (by simp) (.inl ?_) (hk.use w hw)
  simp only [execOp, Option.map_some, Option.map_none, hx, hh, hm]
  rw [Sem.run_bind, run_sliceAt_slice _ _ _ _ _ _ hu, run_slice_hm _ _ _ _ _ hu _ _ (h : Int) (m : Int) (by omega) (by omega) (by omega), hz]
  simp [Sem.run, Result.andThen, sliced_cut]⟩
end
end XW

/- append(s, t...): onto a row of the call's own, and onto a cut without room. -/
namespace XW
open Go Go.RowKit
set_option linter.unusedSimpArgs false
set_option linter.unusedVariables false
set_option linter.unusedSectionVars false
def Lies (w : World) (A : Option Addr) (cs : List Value) : Prop := cs = [] ∨ ∃ a, A = some a ∧ ∀ j u, cs[j]? = some u → w.cell? (a.add j) = some u
theorem Lies.below {w w' : World} {A : Option Addr} {cs : List Value} (h : Lies w A cs) (hb : Below w.heap.size w w') : Lies w' A cs := by
  rcases h with h | ⟨a, hA, h⟩
  · exact .inl h
  · exact .inr ⟨a, hA, fun j u hu => below_cell ((Mem.start w).keep hb) (h j u hu)⟩
theorem Lies.obj {w : World} {b off : Nat} {xs : List Value} {t : TypeId} {fz : Nat × Nat} {cells : Array Value} (h : w.heap[b]? = some (.cells cells t fz)) (hx : ∀ j u, xs[j]? = some u → cells[off + j]? = some u) : Lies w (some ⟨b, off, none⟩) xs :=
  .inr ⟨_, rfl, fun j u hu => by rw [add_plain]; exact cell_of h (hx j u hu)⟩
theorem set_same {α : Type _} {l : List α} {i : Nat} {x : α} (h : l[i]? = some x) : l.set i x = l := by
  apply List.ext_getElem?
  intro j
  rw [List.getElem?_set]
  split
  · rename_i e; subst e
    rw [if_pos (List.getElem?_eq_some_iff.1 h).1, h]
  · rfl
section
variable {F : Fence} {P : Program} {n : Nat} {Q : Post} {ρ : Nat → Value} {ds : List Deferred} {w base : World} {R : List Res} {ops : Array Oper}
variable (hF : Wide F) {dst : Option Tmp} {t ty : TypeId} {s x : Operand} {pos : String} {af : Array Edge} {rest : List Oper}
include hF
theorem At_spread {α : Type} {e sz c c1 k m : Nat} {enc : α → List Value} {A : Option Nat} {S : Option Addr} {l ys : List α} [T : TS P t] (i : Nat) (hi : R[i]? = some (.row e sz enc A c l)) (hs : xv n ρ s = .slice (A.map fun b => ⟨b, 0, none⟩) k c) (hk : k = l.length) (hx : xv n ρ x = .slice S m c1) (hm : m = ys.length)
    (hr : ∀ w, Mem base w R → Lies w S (ys.flatMap enc)) (hT : T.e = e ∧ T.sz = sz ∧ sz ≠ 0 ∧ T.z.cells.size = sz) (h1 : ∀ y ∈ ys, ∀ u ∈ enc y, u.oneCell' = true) (hb : (l.length + ys.length) * T.bytes ≤ 140737488355328) (hmx : l.length + ys.length ≤ 1000000000) (hc1 : S = none → m = 0)
    (h : ∀ A' c', AL F P n Q ops rest (updO ρ dst (.slice (A'.map fun b => ⟨b, 0, none⟩) (l.length + ys.length) c')) ds base (R.set i (.row e sz enc A' c' (l ++ ys)))) :
    AL F P n Q ops (⟨dst, .call { callee := .builtin .append, args := #[s, x], argTypes := #[t, t] }, ty, pos, af, none⟩ :: rest) ρ ds base R := ⟨fun w hw => by
  obtain ⟨i', hi', hsz, hz', hby⟩ := T.h
  obtain ⟨hTe, hTs, hne, hTz⟩ := hT
  subst hTe hTs hk hm
  have hmem := List.mem_of_getElem? hi
  have hrow := hw.ok _ hmem
  have he : ∀ x, (enc x).length = T.sz := hrow.1
  by_cases hy : ys = []
  · subst hy
    have hle : l.length ≤ c := hrow.2.1
    have hsrc : Src P i'.size t (.slice S 0 c1) 0 [] w := by
      cases S with
      | none => exact Src.ofNil w T.u c1
      | some a => exact Src.ofSlice w T.u a 0 c1 [] (by simp) (fun j u hu => by simp at hu) (fun u hu => by cases hu)
    have hrun := run_append_nothing (P := P) w t t ty T.e i' T.u hi' (A.map fun b => ⟨b, 0, none⟩) l.length c hle (.slice S 0 c1) hsrc
    have hh := h A c
    rw [List.append_nil, List.length_nil, Nat.add_zero, set_same hi] at hh
    refine XL_gives hF rfl (by simp) (.inl ?_) (hh.use w hw)
    simp only [List.length_nil] at hx
    simp [execOp, resolve, invoke, builtin, hs, hx, hrun, Sem.run_bind, Sem.run_pure, Result.andThen]
  · have hl0 : 0 < ys.length := List.length_pos_iff.2 hy
    obtain ⟨a, rfl⟩ : ∃ a, S = some a := by
      cases S with
      | none => have := hc1 rfl; omega
      | some a => exact ⟨a, rfl⟩
    have hown := ownsRow_of (B := base.heap.size) hrow (fun k hk => (hw.bd _ hmem k hk).1)
    rw [← hsz] at hown
    have hflat : (ys.flatMap enc).length = ys.length * i'.size := by rw [len_flat he, hsz]
    have hnews : ∀ j u, (ys.flatMap enc)[j]? = some u → w.cell? (a.add j) = some u := by
      rcases hr w hw with h | ⟨a', hA, h⟩
      · intro j u hu; rw [h] at hu; simp at hu
      · cases hA; exact h
    refine XL_append hF T.u hi' hz' (by rw [hsz]; exact hTz) (by omega) hown hw.size hs hx (news := ys.flatMap enc) hflat hnews (fun u hu => by
      obtain ⟨y, hy, hu⟩ := List.mem_flatMap.1 hu
      exact h1 y hy u hu) (by
        have : (1000000001 : Nat) ≤ maxLen := by decide
        omega) (by rw [hby]; exact hb) ?_
    intro v' w' hap
    have hr := hap.row
    have hl : l.length + ys.length = (l ++ ys).length := by simp
    have hf : l.flatMap enc ++ ys.flatMap enc = (l ++ ys).flatMap enc := by simp
    rw [hl, hf, hsz] at hr
    obtain ⟨A', c', rfl, hok, hA⟩ := rowOk_of he hr
    have hA0 : ∀ k, (rowV A l.length c).ownBlock = some k ↔ A = some k := fun k => by cases A <;> simp [rowV, Value.ownBlock]
    have := (h A' c').use w' (hw.step i hi (hap.chg.mono (fun k _ hk => (hA0 k).1 hk)) hok (fun k hk => by
      have hk' := (hA k).1 hk
      refine ⟨?_, (ownsRow_lt hr hk').2⟩
      rcases hap.place with hp | hp
      · left; exact (hA0 k).1 (hp.symm.trans hk')
      · right; rw [hp] at hk'; cases hk'; exact Nat.le_refl _))
    simpa [rowV] using this⟩
theorem At_spreadNew {α : Type} {sz c c1 k m : Nat} {enc : α → List Value} {S S1 : Option Addr} {l ys : List α} [T : TS P t] (hs : xv n ρ s = .slice S k c) (hk : k = l.length) (hc : c = k) (hx : xv n ρ x = .slice S1 m c1) (hm : m = ys.length)
    (hrl : ∀ w, Mem base w R → Lies w S (l.flatMap enc)) (hr : ∀ w, Mem base w R → Lies w S1 (ys.flatMap enc)) (he : ∀ x, (enc x).length = sz) (hT : T.sz = sz ∧ sz ≠ 0 ∧ T.z.cells.size = sz) (hb : (l.length + ys.length) * T.bytes ≤ 140737488355328) (hmx : l.length + ys.length ≤ 1000000000)
    (h0 : ys = [] → AL F P n Q ops rest (updO ρ dst (.slice S k c)) ds base R)
    (h : ys ≠ [] → ∀ b c', AL F P n Q ops rest (updO ρ dst (.slice (some ⟨b, 0, none⟩) (l.length + ys.length) c')) ds base (.row T.e sz enc (some b) c' (l ++ ys) :: R)) :
    AL F P n Q ops (⟨dst, .call { callee := .builtin .append, args := #[s, x], argTypes := #[t, t] }, ty, pos, af, none⟩ :: rest) ρ ds base R := ⟨fun w hw => by
  obtain ⟨i', hi', hsz, hz', hby⟩ := T.h
  obtain ⟨hTs, hne, hTz⟩ := hT
  subst hTs hk hm
  by_cases hy : ys = []
  · have hsrc : Src P i'.size t (.slice S1 ys.length c1) 0 [] w := by
      rw [hy]
      cases S1 with
      | none => exact Src.ofNil w T.u c1
      | some a => exact Src.ofSlice w T.u a 0 c1 [] (by simp) (fun j u hu => by simp at hu) (fun u hu => by cases hu)
    have hrun := run_append_nothing (P := P) w t t ty T.e i' T.u hi' S l.length c (by omega) (.slice S1 ys.length c1) hsrc
    refine XL_gives hF rfl (by simp) (.inl ?_) ((h0 hy).use w hw)
    simp [execOp, resolve, invoke, builtin, hs, hx, hrun, Sem.run_bind, Sem.run_pure, Result.andThen]
  · have hl0 : 0 < ys.length := List.length_pos_iff.2 hy
    have hyf : ys.flatMap enc ≠ [] := fun e => by
      have := congrArg List.length e
      rw [len_flat he] at this
      have h2 := Nat.mul_pos hl0 (Nat.pos_of_ne_zero hne)
      simp at this
      omega
    obtain ⟨a, rfl, hnews⟩ : ∃ a, S1 = some a ∧ ∀ j u, (ys.flatMap enc)[j]? = some u → w.cell? (a.add j) = some u := by
      rcases hr w hw with h | h
      · exact absurd h hyf
      · exact h
    have hfl : (ys.flatMap enc).length = ys.length * i'.size := by rw [len_flat he, hsz]
    have hfo : (l.flatMap enc).length = l.length * i'.size := by rw [len_flat he, hsz]
    have hmxl : (1000000001 : Nat) ≤ maxLen := by decide
    have hmxl2 : maxLen ≤ 9223372036854775807 := by decide
    have fin : ∀ (cap : Nat) (w1 : World), l.length + ys.length ≤ cap → cap ≤ maxLen → (Builtin.append_ #[t, t] ty #[.slice S l.length c, .slice (some a) ys.length c1]).run P w = .ok (.slice (some ⟨w.heap.size, 0, none⟩) (l.length + ys.length) cap) (w.drew.alloc (.cells ((l.flatMap enc).toArray ++ (ys.flatMap enc).toArray ++ Builtin.zeroCells T.z.cells (cap - (l.length + ys.length))) T.e)) → XL F P n Q ops (⟨dst, .call { callee := .builtin .append, args := #[s, x], argTypes := #[t, t] }, ty, pos, af, none⟩ :: rest) ρ ds w := by
      intro cap w1 h3 h4 hrun
      have hm' : Mem base (w.drew.alloc (.cells ((l.flatMap enc).toArray ++ (ys.flatMap enc).toArray ++ Builtin.zeroCells T.z.cells (cap - (l.length + ys.length))) T.e)) (.row T.e T.sz enc (some w.heap.size) cap (l ++ ys) :: R) := by
        have hd : Mem base w.drew R := hw.drewN 1
        refine hd.new (Below.alloc (Below.refl _ _) (Nat.le_refl _) _) ⟨he, by simp; omega, h4, (Builtin.zeroCells T.z.cells (cap - (l.length + ys.length))).toList, ?_, ?_⟩ (fun k hk => ?_)
        · have := get_new w.drew (.cells ((l.flatMap enc).toArray ++ (ys.flatMap enc).toArray ++ Builtin.zeroCells T.z.cells (cap - (l.length + ys.length))) T.e)
          rw [show w.drew.heap.size = w.heap.size from rfl] at this
          rw [this]
          congr 2
          apply Array.ext'
          simp [buf]
        · have hz2 : (Builtin.zeroCells T.z.cells (cap - (l.length + ys.length))).size = (cap - (l.length + ys.length)) * T.sz := by
            rw [size_zeroCells, hTz]
          show (l ++ ys).length * T.sz + _ = _
          have hz3 : (Builtin.zeroCells T.z.cells (cap - (l.length + ys.length))).toList.length = (cap - (l.length + ys.length)) * T.sz := (Array.length_toList ..).trans hz2
          rw [hz3, List.length_append, ← Nat.add_mul]
          congr 1; omega
        · have : k = w.heap.size := (Option.some.inj hk).symm
          subst this
          exact ⟨Nat.le_refl _, by simp⟩
      refine XL_gives hF rfl (by simp) (.inl ?_) ((h hy w.heap.size cap).use _ hm')
      simp [execOp, resolve, invoke, builtin, hs, hx, hrun, Sem.run_bind, Sem.run_pure, Result.andThen]
    have hbytes : (l.length + ys.length) * i'.bytes ≤ 140737488355328 := by rw [hby]; exact hb
    by_cases hS : S = none ∧ c = 0
    · obtain ⟨rfl, rfl⟩ := hS
      have hl0' : l = [] := List.eq_nil_of_length_eq_zero (by omega)
      subst hl0'
      have hrun := run_append_nil (P := P) w t ty T.e i' T.z T.u hi' hz' a ys.length c1 (ys.flatMap enc) hfl hnews hl0 (by simp at hmx; omega) (by simp at hbytes; omega)
      refine fin (grownCap w ys.length 0 T.e) w (by simpa using grownCap_ge w ys.length 0 T.e) (grownCap_le_maxLen w _ _ _ (by simp at hmx; omega)) ?_
      simp only [List.length_nil, Nat.zero_add, List.flatMap_nil] at hrun ⊢
      rw [hrun]
      simp
    · have hSs : ∃ a', S = some a' ∧ ∀ j u, (l.flatMap enc)[j]? = some u → w.cell? (a'.add j) = some u := by
        rcases hrl w hw with h | h
        · have hl0' : l.length = 0 := by
            have := congrArg List.length h
            rw [len_flat he] at this
            rcases Nat.eq_zero_or_pos l.length with h2 | h2
            · exact h2
            · have := Nat.mul_pos h2 (Nat.pos_of_ne_zero hne); simp at *; omega
          cases S with
          | none => exact absurd ⟨rfl, by omega⟩ hS
          | some a' => exact ⟨a', rfl, fun j u hu => by rw [h] at hu; simp at hu⟩
        · exact h
      obtain ⟨a', rfl, holds⟩ := hSs
      have hrun := run_append_grow (P := P) w t ty T.e i' T.z T.u hi' hz' a' l.length c (l.flatMap enc) hfo holds a ys.length c1 (ys.flatMap enc) hfl hnews (by omega) (by omega) (growslice_fits (by omega) hbytes)
      exact fin _ w (grownCap_ge w _ _ _) (grownCap_le_maxLen w _ _ _ (by omega)) hrun⟩
end
end XW

/- Rows that come in, as cells that lie one behind the other. -/
namespace XW
open Go Go.RowKit Go.Proofs.YtecgklfcblpkdaaW.PrintWords
theorem lies_C {α : Type} {enc : α → List Value} {w : World} {A : Option Addr} {xs : List α} {d : Kd α} (hd : ∀ w x cs, d.K w x cs → cs = enc x) (h : d.C w A xs.length xs) : Lies w A (xs.flatMap enc) := by
  rcases Nat.eq_zero_or_pos xs.length with h0 | h0
  · exact .inl (by rw [List.eq_nil_of_length_eq_zero h0]; rfl)
  · obtain ⟨ad, hA, hc⟩ := h.2.2 h0
    refine .inr ⟨ad, hA, ?_⟩
    have hsz : ∀ x ∈ xs, (enc x).length = d.sz := fun x hx => by
      obtain ⟨j, hj⟩ := List.getElem?_of_mem hx
      obtain ⟨c, h1, h2, _⟩ := hc j x hj
      rw [← hd _ _ _ h2]; exact h1
    have key : ∀ (ys : List α) (o : Nat), (∀ x ∈ ys, (enc x).length = d.sz) → (∀ j p, ys[j]? = some p → ∀ i u, (enc p)[i]? = some u → w.cell? (ad.add ((o + j) * d.sz + i)) = some u) → ∀ j u, (ys.flatMap enc)[j]? = some u → w.cell? (ad.add (o * d.sz + j)) = some u := by
      intro ys
      induction ys with
      | nil => intro o _ _ j u hu; simp at hu
      | cons y ys ih =>
        intro o h1 h2 j u hu
        rw [List.flatMap_cons] at hu
        rcases Nat.lt_or_ge j (enc y).length with hj | hj
        · rw [List.getElem?_append_left hj] at hu
          exact h2 0 y rfl j u hu
        · rw [List.getElem?_append_right hj] at hu
          have hy := h1 y (by simp)
          have := ih (o + 1) (fun x hx => h1 x (by simp [hx])) (fun j p hp i v hv => by have := h2 (j + 1) p hp i v hv; rwa [show o + (j + 1) = o + 1 + j by omega] at this) _ u hu
          rw [hy] at this
          rwa [show (o + 1) * d.sz + (j - d.sz) = o * d.sz + j by rw [Nat.succ_mul]; omega] at this
    intro j u hu
    have := key xs 0 hsz (fun j p hp i v hv => by
      obtain ⟨c, h1, h2, h3⟩ := hc j p hp
      rw [Nat.zero_add]
      exact h3 i v (by rw [hd _ _ _ h2]; exact hv)) j u hu
    rwa [Nat.zero_mul, Nat.zero_add] at this
end XW

/- Ranges over functions whose parameters lie in memory of their own. -/
namespace XW
open Go Go.RowKit RegInv
set_option linter.unusedSimpArgs false
set_option linter.unusedVariables false
set_option linter.unusedSectionVars false
section
variable {F : Fence} {P : Program} {n : Nat} {Q : Post} {ρ : Nat → Value} {ds : List Deferred} {w base : World} {R R' : List Res} {ops : Array Oper}
theorem yieldOk_ofX (hF : Wide F) {l : Nat} {rec : Loop} {ι σ : Type} {args : ι → Array Value} {Pre : List ι → Prop} {Rs : σ → List Res} {φ : List ι → σ → Prop} {ψ : Exit → σ → Prop} (hp : rec.pending = none) (hst : rec.state = .ready) (hsz : ∀ a, (args a).size = rec.params.size) (htm : rec.tmps = (fr n ρ []).tmps)
    (has : ∀ (a : ι) (w : World) (Q' : Post), Q' .normal (updL ρ (rec.params.toList.zip (args a).toList)) [] w → True)
    (hround : ∀ (Ri : List Res) (xs : List ι) (a : ι) (s : σ), φ xs s → Pre (xs ++ [a]) →
      At base (.obj l (.loop rec) :: (Rs s ++ Ri)) (X (F.inRound l) P n (fun e ρ' ds' w' => e = .normal ∧ ∃ Rx, Mem base w' (.obj l (.loop rec) :: (Rx ++ (Rs s ++ Ri))) ∧
        At base (.obj l (.loop { rec with state := .busy }) :: (Rx ++ (Rs s ++ Ri))) (X (F.inRound l) P n (RndQ base l rec Rs Ri (φ (xs ++ [a])) ψ) rec.body ρ' ds')) rec.assign (updL ρ (rec.params.toList.zip (args a).toList)) [])) :
    YieldOk F P l base args Pre (fun s : σ × Option Exit => .obj l (.loop (recOf rec s.2)) :: Rs s.1) (fun xs s => s.2 = none ∧ φ xs s.1) (fun s => ∃ e, s.2 = some e ∧ (pend e).isSome ∧ ψ e s.1) := by
  rintro Ri xs a ⟨s, ex⟩ ⟨hn, hφ⟩ hpre w hw
  simp only at hn hφ
  subst hn
  have hrec : recOf rec none = rec := by cases rec; simp only at hp hst; subst hp hst; rfl
  have hw' : Mem base w (.obj l (.loop rec) :: (Rs s ++ Ri)) := by
    simp only [hrec] at hw
    exact hw.perm (by
      rw [← List.cons_append]
      exact List.perm_append_comm)
  refine yieldC_of hF (hw'.at_ 0 rfl) hst (hsz a) htm (X_mono (hround Ri xs a s hφ hpre w hw') ?_)
  rintro e ρ' ds' w1 ⟨rfl, Rx, hm, hb⟩
  refine ⟨hm.at_ 0 rfl, X_mono (hb _ hm.put0) ?_⟩
  intro e ρ'' ds'' w2 hq
  have hback : ∀ {w2 : World} {s' : σ} {o : Obj}, Mem base w2 (.obj l o :: (Rs s' ++ Ri)) → ∀ o', Mem base (w2.putObj l o') (Ri ++ (.obj l o' :: Rs s')) := fun h o' => h.put0.perm (by
    rw [← List.cons_append]
    exact List.perm_append_comm)
  cases e with
  | normal =>
    obtain ⟨s', h1, h2⟩ := hq
    exact ⟨h2.at_ 0 rfl, (s', none), hback h2 _, fun _ => ⟨rfl, h1⟩, fun h => by cases h⟩
  | ret =>
    obtain ⟨s', h1, h2⟩ := hq
    exact ⟨h2.at_ 0 rfl, (s', some .ret), hback h2 _, fun h => (by cases h), fun _ => ⟨_, rfl, rfl, h1⟩⟩
  | exit id =>
    obtain ⟨s', h1, h2⟩ := hq
    exact ⟨h2.at_ 0 rfl, (s', some (.exit id)), hback h2 _, fun h => (by cases h), fun _ => ⟨_, rfl, rfl, h1⟩⟩
  | goto t => exact hq.elim
  | panic ch => exact hq.elim
  | outgrown => exact hq.elim
theorem At_rangeX (hF : Wide F) (ha : F.alive = false) (hro : F.round = none) {g : Operand} {ps : Array Tmp} {assign body : Code} {gf : FuncId} {caps : Array Value} (hg : xv n ρ g = .func (.func gf) #[] caps) (hE : Enters P gf)
    {ι σ : Type} (Rit : List Res) (args : ι → Array Value) (Pre All : List ι → Prop) (hit : IterOk F P gf caps base Rit args Pre All)
    (Rs : σ → List Res) (φ : List ι → σ → Prop) (ψ : Exit → σ → Prop) (s0 : σ) (hR : (Rit ++ Rs s0).Sublist R) (h0 : φ [] s0) (hsz : ∀ a, (args a).size = ps.size)
    (hround : ∀ (l : Nat) (rec : Loop) (Ri : List Res) (xs : List ι) (a : ι) (s : σ), φ xs s → Pre (xs ++ [a]) →
      At base (.obj l (.loop rec) :: (Rs s ++ Ri)) (X (F.inRound l) P n (fun e ρ' ds' w' => e = .normal ∧ ∃ Rx, Mem base w' (.obj l (.loop rec) :: (Rx ++ (Rs s ++ Ri))) ∧
        At base (.obj l (.loop { rec with state := .busy }) :: (Rx ++ (Rs s ++ Ri))) (X (F.inRound l) P n (RndQ base l rec Rs Ri (φ (xs ++ [a])) ψ) body ρ' ds')) assign (updL ρ (ps.toList.zip (args a).toList)) []))
    (hafter : ∀ D xs s, All xs → φ xs s → At base (.obj D (.deferred (some [])) :: (Rit ++ Rs s)) (Q .normal ρ (mk D :: ds)))
    (hexit : ∀ D e s, (pend e).isSome → ψ e s → At base (.obj D (.deferred (some [])) :: (Rit ++ Rs s)) (Q e ρ (mk D :: ds))) :
    At base R (X F P n Q (.rangeFunc g ps assign body) ρ ds) := fun w hw => by
  refine X_range hF ha hro hg hE (fun fn => ?_)
  have hw0 := hw.sub hR
  have hw1 : Mem base ((w.alloc (.deferred (some []))).alloc (.loop { state := .ready, pending := none, fn := fn, tmps := (fr n ρ []).tmps, params := ps, assign := assign, body := body, defers := w.heap.size }))
      (Rit ++ (.obj (w.heap.size + 1) (.loop { state := .ready, pending := none, fn := fn, tmps := (fr n ρ []).tmps, params := ps, assign := assign, body := body, defers := w.heap.size }) :: (Rs s0 ++ [.obj w.heap.size (.deferred (some []))]))) := by
    have h2 := (hw0.alloc (.deferred (some []))).alloc (.loop { state := .ready, pending := none, fn := fn, tmps := (fr n ρ []).tmps, params := ps, assign := assign, body := body, defers := w.heap.size })
    rw [size_alloc] at h2
    refine h2.perm ?_
    have e1 : ∀ (a b : Res) (A B : List Res), (A ++ (a :: (B ++ [b]))).Perm (a :: b :: (A ++ B)) := fun a b A B =>
      (List.perm_middle).trans ((((List.append_assoc A B [b]).symm ▸ List.perm_append_singleton b (A ++ B))).cons a)
    exact e1 _ _ _ _
  have hy := yieldOk_ofX (F := F) (P := P) (n := n) (ρ := ρ) (base := base) hF (l := w.heap.size + 1) (rec := { state := .ready, pending := none, fn := fn, tmps := (fr n ρ []).tmps, params := ps, assign := assign, body := body, defers := w.heap.size })
    (args := args) (Pre := Pre) (Rs := fun s => Rs s ++ [.obj w.heap.size (.deferred (some []))]) (φ := φ) (ψ := ψ) rfl rfl hsz rfl (fun _ _ _ _ => trivial)
    (fun Ri xs a s h1 h2 => by
      have := hround (w.heap.size + 1) { state := .ready, pending := none, fn := fn, tmps := (fr n ρ []).tmps, params := ps, assign := assign, body := body, defers := w.heap.size } (.obj w.heap.size (.deferred (some [])) :: Ri) xs a s h1 h2
      have e : ∀ s, Rs s ++ [Res.obj w.heap.size (.deferred (some []))] ++ Ri = Rs s ++ (.obj w.heap.size (.deferred (some [])) :: Ri) := fun s => by simp
      have eq : ∀ φ', RndQ base (w.heap.size + 1) { state := .ready, pending := none, fn := fn, tmps := (fr n ρ []).tmps, params := ps, assign := assign, body := body, defers := w.heap.size } (fun s => Rs s ++ [Res.obj w.heap.size (.deferred (some []))]) Ri φ' ψ =
          RndQ base (w.heap.size + 1) { state := .ready, pending := none, fn := fn, tmps := (fr n ρ []).tmps, params := ps, assign := assign, body := body, defers := w.heap.size } Rs (.obj w.heap.size (.deferred (some [])) :: Ri) φ' ψ := fun φ' => by
        funext e ρ ds w'
        cases e <;> simp [RndQ]
      simp only [e, eq]
      exact this)
  have := hit (σ × Option Exit) (w.heap.size + 1) _ _ _ hy (s0, none) ⟨rfl, h0⟩ _ hw1
  refine CallsIn.mono this ?_
  rintro e w' ⟨v, ⟨s, ex⟩, rfl, hm, hend⟩
  have hm' : Mem base w' (.obj (w.heap.size + 1) (.loop (recOf { state := .ready, pending := none, fn := fn, tmps := (fr n ρ []).tmps, params := ps, assign := assign, body := body, defers := w.heap.size } ex)) :: .obj w.heap.size (.deferred (some [])) :: (Rit ++ Rs s)) := by
    refine hm.perm ?_
    have e1 : ∀ (a b : Res) (A B : List Res), (a :: b :: (A ++ B)).Perm (A ++ (a :: (B ++ [b]))) := fun a b A B =>
      ((List.perm_middle).trans ((((List.append_assoc A B [b]).symm ▸ List.perm_append_singleton b (A ++ B))).cons a)).symm
    exact e1 _ _ _ _
  refine ⟨v, rfl, _, hm'.at_ 0 rfl, ?_, ?_⟩
  · cases ex <;> simp [recOf]
  · have hm2 := hm'.put0 (o' := .loop { recOf { state := .ready, pending := none, fn := fn, tmps := (fr n ρ []).tmps, params := ps, assign := assign, body := body, defers := w.heap.size } ex with state := .exhausted })
    have hm3 := hm2.sub (List.sublist_cons_self _ _)
    rcases hend with ⟨xs, hall, he, hφ⟩ | ⟨e, he, hpe, hψ⟩
    · simp only at he hφ
      subst he
      exact hafter _ xs s hall hφ _ hm3
    · simp only at he hψ
      subst he
      cases e with
      | ret => exact X_ret (hexit _ .ret s rfl hψ _ hm3)
      | exit id => exact X_exit (hexit _ (.exit id) s rfl hψ _ hm3)
      | _ => cases hpe
end
end XW

/- Ranges over functions whose parameters lie in memory of their own, and whose elements own memory. -/
namespace XW
open Go Go.RowKit RegInv
set_option linter.unusedSimpArgs false
set_option linter.unusedVariables false
set_option linter.unusedSectionVars false
def YieldOkG (F : Fence) (P : Program) (l : Nat) (base : World) {ι σ : Type} (args : ι → Array Value) (Gv : ι → List Res → Prop) (Pre : List ι → Prop) (Rc : σ → List Res) (φ : List ι → σ → Prop) (ψ : σ → Prop) : Prop :=
  ∀ (Ri : List Res) (xs : List ι) (x : ι) (s : σ), Gv x Ri → φ xs s → Pre (xs ++ [x]) → ∀ w, Mem base w (Ri ++ Rc s) →
    YieldC F P l (args x) w fun b w' => ∃ s', Mem base w' (Ri ++ Rc s') ∧ (b = true → φ (xs ++ [x]) s') ∧ (b = false → ψ s')
def IterOkG (F : Fence) (P : Program) (gf : FuncId) (caps : Array Value) (base : World) {ι : Type} (Rit : List Res) (args : ι → Array Value) (Gv : ι → List Res → Prop) (Pre All : List ι → Prop) : Prop :=
  ∀ (σ : Type) (l : Nat) (Rc : σ → List Res) (φ : List ι → σ → Prop) (ψ : σ → Prop), YieldOkG F P l base args Gv Pre Rc φ ψ →
    ∀ s0, φ [] s0 → ∀ w, Mem base w (Rit ++ Rc s0) → CallsIn F 0 P gf (#[.func (.yield l) #[] #[]] ++ caps) w fun e w' =>
      ∃ v s, e = .returned v ∧ Mem base w' (Rit ++ Rc s) ∧ ((∃ xs, All xs ∧ φ xs s) ∨ ψ s)
section
variable {F : Fence} {P : Program} {n : Nat} {Q : Post} {ρ : Nat → Value} {ds : List Deferred} {w base : World} {R R' : List Res} {ops : Array Oper}
theorem At_yieldG (hF : Wide F) (ha : F.alive = false) {dst : Option Tmp} {x : Operand} {l : Nat} {as : Array Operand} {ats : Array TypeId} {ty : TypeId} {pos : String} {af : Array Edge} {rest : List Oper}
    {ι σ : Type} {args : ι → Array Value} {Gv : ι → List Res → Prop} {Pre : List ι → Prop} {Rc : σ → List Res} {φ : List ι → σ → Prop} {ψ : σ → Prop} (hy : YieldOkG F P l base args Gv Pre Rc φ ψ) (Ri : List Res) {xs : List ι} {s : σ} (a : ι) (hg : Gv a Ri) (hp : φ xs s) (hpre : Pre (xs ++ [a]))
    (hR : R = Ri ++ Rc s) (hx : xv n ρ x = .func (.yield l) #[] #[]) (hv : as.map (xv n ρ) = args a)
    (h1 : ∀ s', φ (xs ++ [a]) s' → AL F P n Q ops rest (updO ρ dst (.bool true)) ds base (Ri ++ Rc s')) (h2 : ∀ s', ψ s' → AL F P n Q ops rest (updO ρ dst (.bool false)) ds base (Ri ++ Rc s')) :
    AL F P n Q ops (⟨dst, .call { callee := .value x, args := as, argTypes := ats }, ty, pos, af, none⟩ :: rest) ρ ds base R := ⟨fun w hw => by
  subst hR
  refine XL_yield hF ha (hy Ri xs a s hg hp hpre w hw) hx hv ?_
  rintro b w' ⟨s', hm, ht, hf⟩
  cases b with
  | true => exact (h1 s' (ht rfl)).use w' hm
  | false => exact (h2 s' (hf rfl)).use w' hm⟩
theorem yieldOk_ofG (hF : Wide F) {l : Nat} {rec : Loop} {ι σ : Type} {args : ι → Array Value} {Gv : ι → List Res → Prop} {Pre : List ι → Prop} {Rs : σ → List Res} {φ : List ι → σ → Prop} {ψ : Exit → σ → Prop} (hp : rec.pending = none) (hst : rec.state = .ready) (hsz : ∀ a, (args a).size = rec.params.size) (htm : rec.tmps = (fr n ρ []).tmps)
    (has : ∀ (a : ι) (w : World) (Q' : Post), Q' .normal (updL ρ (rec.params.toList.zip (args a).toList)) [] w → True)
    (hround : ∀ (Ri : List Res) (xs : List ι) (a : ι) (s : σ), Gv a Ri → φ xs s → Pre (xs ++ [a]) →
      At base (.obj l (.loop rec) :: (Rs s ++ Ri)) (X (F.inRound l) P n (fun e ρ' ds' w' => e = .normal ∧ ∃ Rx, Mem base w' (.obj l (.loop rec) :: (Rx ++ (Rs s ++ Ri))) ∧
        At base (.obj l (.loop { rec with state := .busy }) :: (Rx ++ (Rs s ++ Ri))) (X (F.inRound l) P n (RndQ base l rec Rs Ri (φ (xs ++ [a])) ψ) rec.body ρ' ds')) rec.assign (updL ρ (rec.params.toList.zip (args a).toList)) [])) :
    YieldOkG F P l base args Gv Pre (fun s : σ × Option Exit => .obj l (.loop (recOf rec s.2)) :: Rs s.1) (fun xs s => s.2 = none ∧ φ xs s.1) (fun s => ∃ e, s.2 = some e ∧ (pend e).isSome ∧ ψ e s.1) := by
  rintro Ri xs a ⟨s, ex⟩ hgv ⟨hn, hφ⟩ hpre w hw
  simp only at hn hφ
  subst hn
  have hrec : recOf rec none = rec := by cases rec; simp only at hp hst; subst hp hst; rfl
  have hw' : Mem base w (.obj l (.loop rec) :: (Rs s ++ Ri)) := by
    simp only [hrec] at hw
    exact hw.perm (by
      rw [← List.cons_append]
      exact List.perm_append_comm)
  refine yieldC_of hF (hw'.at_ 0 rfl) hst (hsz a) htm (X_mono (hround Ri xs a s hgv hφ hpre w hw') ?_)
  rintro e ρ' ds' w1 ⟨rfl, Rx, hm, hb⟩
  refine ⟨hm.at_ 0 rfl, X_mono (hb _ hm.put0) ?_⟩
  intro e ρ'' ds'' w2 hq
  have hback : ∀ {w2 : World} {s' : σ} {o : Obj}, Mem base w2 (.obj l o :: (Rs s' ++ Ri)) → ∀ o', Mem base (w2.putObj l o') (Ri ++ (.obj l o' :: Rs s')) := fun h o' => h.put0.perm (by
    rw [← List.cons_append]
    exact List.perm_append_comm)
  cases e with
  | normal =>
    obtain ⟨s', h1, h2⟩ := hq
    exact ⟨h2.at_ 0 rfl, (s', none), hback h2 _, fun _ => ⟨rfl, h1⟩, fun h => by cases h⟩
  | ret =>
    obtain ⟨s', h1, h2⟩ := hq
    exact ⟨h2.at_ 0 rfl, (s', some .ret), hback h2 _, fun h => (by cases h), fun _ => ⟨_, rfl, rfl, h1⟩⟩
  | exit id =>
    obtain ⟨s', h1, h2⟩ := hq
    exact ⟨h2.at_ 0 rfl, (s', some (.exit id)), hback h2 _, fun h => (by cases h), fun _ => ⟨_, rfl, rfl, h1⟩⟩
  | goto t => exact hq.elim
  | panic ch => exact hq.elim
  | outgrown => exact hq.elim
theorem At_rangeG (hF : Wide F) (ha : F.alive = false) (hro : F.round = none) {g : Operand} {ps : Array Tmp} {assign body : Code} {gf : FuncId} {caps : Array Value} (hg : xv n ρ g = .func (.func gf) #[] caps) (hE : Enters P gf)
    {ι σ : Type} (Rit : List Res) (args : ι → Array Value) (Gv : ι → List Res → Prop) (Pre All : List ι → Prop) (hit : IterOkG F P gf caps base Rit args Gv Pre All)
    (Rs : σ → List Res) (φ : List ι → σ → Prop) (ψ : Exit → σ → Prop) (s0 : σ) (hR : (Rit ++ Rs s0).Sublist R) (h0 : φ [] s0) (hsz : ∀ a, (args a).size = ps.size)
    (hround : ∀ (l : Nat) (rec : Loop) (D : Nat) (Ri : List Res) (xs : List ι) (a : ι) (s : σ), Gv a Ri → φ xs s → Pre (xs ++ [a]) →
      At base (.obj l (.loop rec) :: (Rs s ++ (.obj D (.deferred (some [])) :: Ri))) (X (F.inRound l) P n (fun e ρ' ds' w' => e = .normal ∧ ∃ Rx, Mem base w' (.obj l (.loop rec) :: (Rx ++ (Rs s ++ (.obj D (.deferred (some [])) :: Ri)))) ∧
        At base (.obj l (.loop { rec with state := .busy }) :: (Rx ++ (Rs s ++ (.obj D (.deferred (some [])) :: Ri)))) (X (F.inRound l) P n (RndQ base l rec Rs (.obj D (.deferred (some [])) :: Ri) (φ (xs ++ [a])) ψ) body ρ' ds')) assign (updL ρ (ps.toList.zip (args a).toList)) []))
    (hafter : ∀ D xs s, All xs → φ xs s → At base (.obj D (.deferred (some [])) :: (Rit ++ Rs s)) (Q .normal ρ (mk D :: ds)))
    (hexit : ∀ D e s, (pend e).isSome → ψ e s → At base (.obj D (.deferred (some [])) :: (Rit ++ Rs s)) (Q e ρ (mk D :: ds))) :
    At base R (X F P n Q (.rangeFunc g ps assign body) ρ ds) := fun w hw => by
  refine X_range hF ha hro hg hE (fun fn => ?_)
  have hw0 := hw.sub hR
  have hw1 : Mem base ((w.alloc (.deferred (some []))).alloc (.loop { state := .ready, pending := none, fn := fn, tmps := (fr n ρ []).tmps, params := ps, assign := assign, body := body, defers := w.heap.size }))
      (Rit ++ (.obj (w.heap.size + 1) (.loop { state := .ready, pending := none, fn := fn, tmps := (fr n ρ []).tmps, params := ps, assign := assign, body := body, defers := w.heap.size }) :: (Rs s0 ++ [.obj w.heap.size (.deferred (some []))]))) := by
    have h2 := (hw0.alloc (.deferred (some []))).alloc (.loop { state := .ready, pending := none, fn := fn, tmps := (fr n ρ []).tmps, params := ps, assign := assign, body := body, defers := w.heap.size })
    rw [size_alloc] at h2
    refine h2.perm ?_
    have e1 : ∀ (a b : Res) (A B : List Res), (A ++ (a :: (B ++ [b]))).Perm (a :: b :: (A ++ B)) := fun a b A B =>
      (List.perm_middle).trans ((((List.append_assoc A B [b]).symm ▸ List.perm_append_singleton b (A ++ B))).cons a)
    exact e1 _ _ _ _
  have hy := yieldOk_ofG (F := F) (P := P) (n := n) (ρ := ρ) (base := base) hF (l := w.heap.size + 1) (rec := { state := .ready, pending := none, fn := fn, tmps := (fr n ρ []).tmps, params := ps, assign := assign, body := body, defers := w.heap.size })
    (args := args) (Gv := Gv) (Pre := Pre) (Rs := fun s => Rs s ++ [.obj w.heap.size (.deferred (some []))]) (φ := φ) (ψ := ψ) rfl rfl hsz rfl (fun _ _ _ _ => trivial)
    (fun Ri xs a s h0 h1 h2 => by
      have := hround (w.heap.size + 1) { state := .ready, pending := none, fn := fn, tmps := (fr n ρ []).tmps, params := ps, assign := assign, body := body, defers := w.heap.size } w.heap.size Ri xs a s h0 h1 h2
      have e : ∀ s, Rs s ++ [Res.obj w.heap.size (.deferred (some []))] ++ Ri = Rs s ++ (.obj w.heap.size (.deferred (some [])) :: Ri) := fun s => by simp
      have eq : ∀ φ', RndQ base (w.heap.size + 1) { state := .ready, pending := none, fn := fn, tmps := (fr n ρ []).tmps, params := ps, assign := assign, body := body, defers := w.heap.size } (fun s => Rs s ++ [Res.obj w.heap.size (.deferred (some []))]) Ri φ' ψ =
          RndQ base (w.heap.size + 1) { state := .ready, pending := none, fn := fn, tmps := (fr n ρ []).tmps, params := ps, assign := assign, body := body, defers := w.heap.size } Rs (.obj w.heap.size (.deferred (some [])) :: Ri) φ' ψ := fun φ' => by
        funext e ρ ds w'
        cases e <;> simp [RndQ]
      simp only [e, eq]
      exact this)
  have := hit (σ × Option Exit) (w.heap.size + 1) _ _ _ hy (s0, none) ⟨rfl, h0⟩ _ hw1
  refine CallsIn.mono this ?_
  rintro e w' ⟨v, ⟨s, ex⟩, rfl, hm, hend⟩
  have hm' : Mem base w' (.obj (w.heap.size + 1) (.loop (recOf { state := .ready, pending := none, fn := fn, tmps := (fr n ρ []).tmps, params := ps, assign := assign, body := body, defers := w.heap.size } ex)) :: .obj w.heap.size (.deferred (some [])) :: (Rit ++ Rs s)) := by
    refine hm.perm ?_
    have e1 : ∀ (a b : Res) (A B : List Res), (a :: b :: (A ++ B)).Perm (A ++ (a :: (B ++ [b]))) := fun a b A B =>
      ((List.perm_middle).trans ((((List.append_assoc A B [b]).symm ▸ List.perm_append_singleton b (A ++ B))).cons a)).symm
    exact e1 _ _ _ _
  refine ⟨v, rfl, _, hm'.at_ 0 rfl, ?_, ?_⟩
  · cases ex <;> simp [recOf]
  · have hm2 := hm'.put0 (o' := .loop { recOf { state := .ready, pending := none, fn := fn, tmps := (fr n ρ []).tmps, params := ps, assign := assign, body := body, defers := w.heap.size } ex with state := .exhausted })
    have hm3 := hm2.sub (List.sublist_cons_self _ _)
    rcases hend with ⟨xs, hall, he, hφ⟩ | ⟨e, he, hpe, hψ⟩
    · simp only at he hφ
      subst he
      exact hafter _ xs s hall hφ _ hm3
    · simp only at he hψ
      subst he
      cases e with
      | ret => exact X_ret (hexit _ .ret s rfl hψ _ hm3)
      | exit id => exact X_exit (hexit _ (.exit id) s rfl hψ _ hm3)
      | _ => cases hpe
end
end XW

/- Bits of unsigned numbers of 32 bits. -/
namespace XW
open Go Go.RowKit RegInv
set_option linter.unusedSimpArgs false
set_option linter.unusedVariables false
set_option linter.unusedSectionVars false
theorem wrap_u32 {x : Nat} (h : x < 4294967296) : IntKind.u32.wrap (x : Int) = x := by
  have h1 : ((x : Int) % (2 ^ IntKind.u32.bits : Int)) = x := Int.emod_eq_of_lt (by omega) (by show (x : Int) < 4294967296; omega)
  simp only [IntKind.wrap, h1]
  rfl
section
variable {F : Fence} {P : Program} {n : Nat} {Q : Post} {ρ : Nat → Value} {ds : List Deferred} {w base : World} {R : List Res} {ops : Array Oper}
theorem At_shl (hF : Wide F) {dst : Option Tmp} {t t' ty : TypeId} {x y : Operand} {pos : String} {af : Array Edge} {rest : List Oper} {a b : Nat} {yk : IntKind} (hx : xv n ρ x = .int .u32 (a : Int)) (hy : xv n ρ y = .int yk (b : Int)) (hb : b < 32) (hr : a * 2 ^ b < 4294967296) (h : AL F P n Q ops rest (updO ρ dst (.int .u32 ((a * 2 ^ b : Nat) : Int))) ds base R) :
    AL F P n Q ops (⟨dst, .binOp .shl t x y t', ty, pos, af, none⟩ :: rest) ρ ds base R := ⟨fun w hw => by
  refine XL_gives hF rfl (by simp) (.inl ?_) (h.use w hw)
  have e : IntKind.u32.wrap ((a : Int) * 2 ^ b) = ((a * 2 ^ b : Nat) : Int) := by
    rw [show (a : Int) * 2 ^ b = ((a * 2 ^ b : Nat) : Int) by push_cast; rfl]; exact wrap_u32 hr
  have hm : min b 32 = b := by omega
  simp [execOp, hx, hy, eqGuard, binOp, Op.shift, Sem.run_bind, Result.andThen, Sem.run_pure, IntKind.bits, hm, e]⟩
theorem At_or (hF : Wide F) {dst : Option Tmp} {t t' ty : TypeId} {x y : Operand} {pos : String} {af : Array Edge} {rest : List Oper} {a b : Nat} (hx : xv n ρ x = .int .u32 (a : Int)) (hy : xv n ρ y = .int .u32 (b : Int)) (ha : a < 4294967296) (hb : b < 4294967296) (h : AL F P n Q ops rest (updO ρ dst (.int .u32 ((a ||| b : Nat) : Int))) ds base R) :
    AL F P n Q ops (⟨dst, .binOp .or t x y t', ty, pos, af, none⟩ :: rest) ρ ds base R := ⟨fun w hw => by
  refine XL_gives hF rfl (by simp) (.inl ?_) (h.use w hw)
  have e : IntKind.u32.wrap ((BitVec.ofInt 32 (a : Int) ||| BitVec.ofInt 32 (b : Int)).toNat : Int) = ((a ||| b : Nat) : Int) := by
    have h1 : (BitVec.ofInt 32 (a : Int) ||| BitVec.ofInt 32 (b : Int)).toNat = a ||| b := by
      rw [BitVec.toNat_or, BitVec.ofInt_natCast, BitVec.ofInt_natCast, BitVec.toNat_ofNat, BitVec.toNat_ofNat, Nat.mod_eq_of_lt ha, Nat.mod_eq_of_lt hb]
    rw [h1]; exact wrap_u32 (Nat.or_lt_two_pow (n := 32) ha hb)
  simp [execOp, hx, hy, eqGuard, binOp, Op.intBits, Sem.run_bind, Result.andThen, Sem.run_pure, IntKind.bits]
  exact e⟩
theorem At_and (hF : Wide F) {dst : Option Tmp} {t t' ty : TypeId} {x y : Operand} {pos : String} {af : Array Edge} {rest : List Oper} {a b : Nat} (hx : xv n ρ x = .int .u32 (a : Int)) (hy : xv n ρ y = .int .u32 (b : Int)) (ha : a < 4294967296) (hb : b < 4294967296) (h : AL F P n Q ops rest (updO ρ dst (.int .u32 ((a &&& b : Nat) : Int))) ds base R) :
    AL F P n Q ops (⟨dst, .binOp .and t x y t', ty, pos, af, none⟩ :: rest) ρ ds base R := ⟨fun w hw => by
  refine XL_gives hF rfl (by simp) (.inl ?_) (h.use w hw)
  have e : IntKind.u32.wrap ((BitVec.ofInt 32 (a : Int) &&& BitVec.ofInt 32 (b : Int)).toNat : Int) = ((a &&& b : Nat) : Int) := by
    have h1 : (BitVec.ofInt 32 (a : Int) &&& BitVec.ofInt 32 (b : Int)).toNat = a &&& b := by
      rw [BitVec.toNat_and, BitVec.ofInt_natCast, BitVec.ofInt_natCast, BitVec.toNat_ofNat, BitVec.toNat_ofNat, Nat.mod_eq_of_lt ha, Nat.mod_eq_of_lt hb]
    rw [h1]; exact wrap_u32 (Nat.lt_of_le_of_lt Nat.and_le_left ha)
  simp [execOp, hx, hy, eqGuard, binOp, Op.intBits, Sem.run_bind, Result.andThen, Sem.run_pure, IntKind.bits]
  exact e⟩
theorem At_shr (hF : Wide F) {dst : Option Tmp} {t t' ty : TypeId} {x y : Operand} {pos : String} {af : Array Edge} {rest : List Oper} {a b : Nat} {yk : IntKind} (hx : xv n ρ x = .int .u32 (a : Int)) (hy : xv n ρ y = .int yk (b : Int)) (hb : b < 32) (h : AL F P n Q ops rest (updO ρ dst (.int .u32 ((a / 2 ^ b : Nat) : Int))) ds base R) :
    AL F P n Q ops (⟨dst, .binOp .shr t x y t', ty, pos, af, none⟩ :: rest) ρ ds base R := ⟨fun w hw => by
  refine XL_gives hF rfl (by simp) (.inl ?_) (h.use w hw)
  have e : (a : Int).fdiv (2 ^ b) = ((a / 2 ^ b : Nat) : Int) := by
    rw [show (2 : Int) ^ b = ((2 ^ b : Nat) : Int) by push_cast; rfl, Int.fdiv_eq_ediv_of_nonneg _ (Int.natCast_nonneg _)]; rfl
  have hm : min b 32 = b := by omega
  simp [execOp, hx, hy, eqGuard, binOp, Op.shift, Sem.run_bind, Result.andThen, Sem.run_pure, IntKind.bits, hm, e]⟩
end
end XW

/- Bytes of strings, and conversions between whole numbers. -/
namespace XW
open Go Go.RowKit RegInv
set_option linter.unusedSimpArgs false
set_option linter.unusedVariables false
set_option linter.unusedSectionVars false
section
variable {F : Fence} {P : Program} {n : Nat} {Q : Post} {ρ : Nat → Value} {ds : List Deferred} {w base : World} {R : List Res} {ops : Array Oper}
theorem At_indexStr (hF : Wide F) {dst : Option Tmp} {t ty : TypeId} {x y : Operand} {pos : String} {af : Array Edge} {rest : List Oper} {s : ByteArray} {i : Nat} {kk : IntKind} {b : UInt8} (ht : P.underlying t = some .string) (hx : xv n ρ x = .string s) (hy : xv n ρ y = .int kk (i : Int)) (hb : s[i]? = some b) (h : AL F P n Q ops rest (updO ρ dst (.int .u8 (b.toNat : Int))) ds base R) :
    AL F P n Q ops (⟨dst, .index t x y, ty, pos, af, none⟩ :: rest) ρ ds base R := ⟨fun w hw => by
  refine XL_gives hF rfl (by simp) (.inl ?_) (h.use w hw)
  have h0 : (if (0 : Int) ≤ (i : Int) then s[(i : Int).toNat]? else none) = some b := by rw [if_pos (by omega), Int.toNat_natCast]; exact hb
  simp [execOp, Instr.index, hx, hy, asIntOf, underlying, program, ht, h0, Sem.run_bind, Sem.run, Result.andThen, Sem.run_pure, hb]⟩
theorem At_conv (hF : Wide F) {dst : Option Tmp} {t t' ty : TypeId} {x : Operand} {pos : String} {af : Array Edge} {rest : List Oper} {a : Int} {k k' : IntKind} (ht : P.underlying t = some (.int k)) (ht' : P.underlying t' = some (.int k')) (hx : xv n ρ x = .int k a) (h : AL F P n Q ops rest (updO ρ dst (.int k' (k'.wrap a))) ds base R) :
    AL F P n Q ops (⟨dst, .convert t t' x, ty, pos, af, none⟩ :: rest) ρ ds base R := ⟨fun w hw => by
  refine XL_gives hF rfl (by simp) (.inl ?_) (h.use w hw)
  simp [execOp, convert, hx, underlying, program, ht, ht', Conv.intToInt, Sem.run_bind, Sem.run, Result.andThen, Sem.run_pure]⟩
end
end XW
