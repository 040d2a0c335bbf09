/- Ranges over functions, over XW: the statement, a round, a call of yield. -/
import Derived.Test.YtbbffpgnjdejiaaXOps
namespace XW
open Go
set_option linter.unusedSimpArgs false
set_option linter.unusedVariables false

section
variable {F : Fence} {P : Program} {n : Nat} {Q : Post} {ρ : Nat → Value} {ds : List Deferred} {w : World} {ops : Array Oper}

/-- what a call of yield comes to: the round's answer -/
def YieldC (F : Fence) (P : Program) (l : Nat) (vs : Array Value) (W : World) (R : Bool → World → Prop) : Prop :=
  ∃ fn tmps assign body, (Instr.yield l vs).run P W = .ok (.round l fn tmps assign body) W ∧ RoundIn F 0 P l fn tmps assign body W fun e W' => ∃ b, e = .returned (.bool b) ∧ R b W'

theorem YieldC.mono {l : Nat} {vs : Array Value} {W : World} {R R' : Bool → World → Prop} (h : YieldC F P l vs W R) (hr : ∀ b W', R b W' → R' b W') : YieldC F P l vs W R' := by
  obtain ⟨fn, tmps, assign, body, h1, h2⟩ := h
  exact ⟨fn, tmps, assign, body, h1, h2.mono fun e W' ⟨b, he, hb⟩ => ⟨b, he, hr _ _ hb⟩⟩

theorem run_call_yield {o : Oper} {c : Call} {x : Operand} {l : Nat} {ρ' : Operand → Value} (ho : o.op = .call c) (hc : c.callee = .value x) (hρ : ρ' x = .func (.yield l) #[] #[]) :
    (execOp ρ' o).run P w = (Instr.yield l (c.args.map ρ')).run P w := by
  obtain ⟨dst, op, type, pos, after, guard⟩ := o
  simp only at ho
  subst ho
  simp only [execOp, resolve, hc]
  simp only [hρ, Deferred.ofValue, invoke, pure_bind, Sem.run_bind, Sem.run_pure, Result.andThen, Array.empty_append]

theorem wpIn_yield (hF : Wide F) (ha : F.alive = false) {o : Oper} {c : Call} {x : Operand} {l : Nat} {vs : Array Value} (ho : o.op = .call c) (hc : c.callee = .value x) (hx : xv n ρ x = .func (.yield l) #[] #[]) (hv : c.args.map (xv n ρ) = vs)
    {R : Bool → World → Prop} (hy : YieldC F P l vs w R) {K : Act → World → Prop} {Q' : Exit → Act → World → Prop} (h : ∀ b w', R b w' → K (fr n (updO ρ o.dst (.bool b)) ds) w') :
    o.wpIn F 0 P (fr n ρ ds) w K Q' := by
  obtain ⟨fn, tmps, assign, body, h1, h2⟩ := hy
  have hd : ∀ c', o.op ≠ .defer c' := fun c' h => by rw [ho] at h; cases h
  refine ⟨fun f _ => hF.fn f, ?_⟩
  rw [semAt_any _ _ _ hd, eval_fr, run_call_yield ho hc hx, hv, h1]
  refine ⟨fun hs => (by rw [hF.depth] at hs; cases hs), h2.mono fun e w' ⟨b, he, hb⟩ => ?_⟩
  subst he
  show K ((fr n ρ ds).put o.dst (.bool b)) w'
  rw [put_fr]; exact h b w' hb

theorem XL_yield (hF : Wide F) (ha : F.alive = false) {dst : Option Tmp} {x : Operand} {l : Nat} {vs : Array Value} {args : Array Operand} {ats : Array TypeId} {ty : TypeId} {pos : String} {af : Array Edge} {rest : List Oper}
    {R : Bool → World → Prop} (hy : YieldC F P l vs w R) (hx : xv n ρ x = .func (.yield l) #[] #[]) (hv : args.map (xv n ρ) = vs) (h : ∀ b w', R b w' → XL F P n Q ops rest (updO ρ dst (.bool b)) ds w') :
    XL F P n Q ops (⟨dst, .call { callee := .value x, args := args, argTypes := ats }, ty, pos, af, none⟩ :: rest) ρ ds w :=
  wpListIn_plain rfl fun _ hK => wpIn_yield hF ha rfl rfl hx hv hy fun b w' hb => hK _ _ (h b w' hb)

/-! ### a round -/
/-- how the body of a round may end -/
def EndR (l : Nat) (rec : Loop) (R : Bool → World → Prop) : Post
  | .normal, _, _, w' => w'.heap[l]? = some (.loop { rec with state := .busy }) ∧ R true (w'.putObj l (.loop { rec with state := .ready, pending := none }))
  | .ret, _, _, w' => w'.heap[l]? = some (.loop { rec with state := .busy }) ∧ R false (w'.putObj l (.loop { rec with state := .done, pending := some .ret }))
  | .exit id, _, _, w' => w'.heap[l]? = some (.loop { rec with state := .busy }) ∧ R false (w'.putObj l (.loop { rec with state := .done, pending := some (.exit id) }))
  | _, _, _, _ => False

def StartR (F : Fence) (P : Program) (n l : Nat) (rec : Loop) (R : Bool → World → Prop) : Post
  | .normal, ρ, ds, w' => w'.heap[l]? = some (.loop rec) ∧ X F P n (EndR l rec R) rec.body ρ ds (w'.putObj l (.loop { rec with state := .busy }))
  | _, _, _, _ => False

def updL (ρ : Nat → Value) : List (Nat × Value) → Nat → Value
  | [] => ρ
  | (t, v) :: l => updL (upd ρ t v) l

theorem foldl_fr (ρ : Nat → Value) (ds : List Deferred) (l : List (Nat × Value)) : l.foldl (fun tmps (p : Nat × Value) => tmps.setIfInBounds p.1 p.2) (fr n ρ ds).tmps = (fr n (updL ρ l) ds).tmps := by
  induction l generalizing ρ with
  | nil => rfl
  | cons p l ih =>
    obtain ⟨t, v⟩ := p
    simp only [List.foldl_cons, updL]
    have : (fr n ρ ds).tmps.setIfInBounds t v = (fr n (upd ρ t v) ds).tmps := by
      have := put_fr n ρ ds (some t) v
      exact congrArg Act.tmps this
    rw [this, ih]

theorem yieldC_of (hF : Wide F) {l : Nat} {rec : Loop} {vs : Array Value} {W : World} {R : Bool → World → Prop} (hl : W.heap[l]? = some (.loop rec)) (hst : rec.state = .ready) (hsz : vs.size = rec.params.size) (htm : rec.tmps = (fr n ρ []).tmps)
    (hb : X (F.inRound l) P n (StartR (F.inRound l) P n l rec R) rec.assign (updL ρ (rec.params.toList.zip vs.toList)) [] W) : YieldC F P l vs W R := by
  refine ⟨_, _, _, _, run_yield hl hsz, ?_⟩
  have e : (rec.params.zip vs).foldl (fun tmps (p : Tmp × Value) => tmps.setIfInBounds p.1 p.2) rec.tmps = (fr n (updL ρ (rec.params.toList.zip vs.toList)) []).tmps := by
    rw [← Array.foldl_toList, Array.toList_zip, htm]
    exact foldl_fr ..
  refine roundIn_of_wpIn (hF.fn _) ?_
  have e' : ({ tmps := (rec.params.zip vs).foldl (fun tmps (p : Tmp × Value) => tmps.setIfInBounds p.1 p.2) rec.tmps, defers := [] } : Act) = fr n (updL ρ (rec.params.toList.zip vs.toList)) [] := by
    rw [e]; rfl
  show rec.assign.wpIn (F.inRound l) 0 P _ { tmps := (rec.params.zip vs).foldl (fun tmps (p : Tmp × Value) => tmps.setIfInBounds p.1 p.2) rec.tmps, defers := [] } W
  rw [e']
  refine wpIn_mono hb ?_
  rintro ex a w' ⟨ρ', ds', rfl, hq⟩
  cases ex with
  | normal =>
    obtain ⟨hl', hx⟩ := hq
    refine ⟨_, run_beginRound hl' hst, wpIn_mono hx ?_⟩
    rintro ex a w'' ⟨ρ'', ds'', rfl, hq⟩
    cases ex with
    | normal =>
      obtain ⟨h1, h2⟩ := hq
      have := run_endRound (P := P) none h1
      exact ⟨_, _, this, true, rfl, h2⟩
    | ret =>
      obtain ⟨h1, h2⟩ := hq
      have := run_endRound (P := P) (some .ret) h1
      exact ⟨_, _, this, false, rfl, h2⟩
    | exit id =>
      obtain ⟨h1, h2⟩ := hq
      have := run_endRound (P := P) (some (.exit id)) h1
      exact ⟨_, _, this, false, rfl, h2⟩
    | goto t => exact hq.elim
    | panic ch => exact hq.elim
    | outgrown => exact hq.elim
  | _ => exact hq.elim

/-! ### the statement -/
/-- behind the function that is ranged over -/
def AfterR (F : Fence) (P : Program) (n : Nat) (Q : Post) (l : Nat) (ρ : Nat → Value) (ds : List Deferred) (w' : World) : Prop :=
  ∃ rec : Loop, w'.heap[l]? = some (.loop rec) ∧ rec.state ≠ .busy ∧ match rec.pending with
    | none => Q .normal ρ ds (w'.putObj l (.loop { rec with state := .exhausted }))
    | some c => X F P n Q c ρ ds (w'.putObj l (.loop { rec with state := .exhausted }))

theorem X_range (hF : Wide F) (ha : F.alive = false) (hro : F.round = none) {g : Operand} {ps : Array Tmp} {assign body : Code} {gf : FuncId} {caps : Array Value} (hg : xv n ρ g = .func (.func gf) #[] caps) (hE : Enters P gf)
    (h : ∀ fn : FuncId, CallsIn F 0 P gf (#[.func (.yield (w.heap.size + 1)) #[] #[]] ++ caps)
      ((w.alloc (.deferred (some []))).alloc (.loop { state := .ready, pending := none, fn := fn, tmps := (fr n ρ []).tmps, params := ps, assign := assign, body := body, defers := w.heap.size }))
      fun e w' => ∃ v, e = .returned v ∧ AfterR F P n Q (w.heap.size + 1) ρ ({ target := .collected w.heap.size, args := #[] } :: ds) w') :
    X F P n Q (.rangeFunc g ps assign body) ρ ds w := by
  refine wpIn_rangeFunc fun fn hfn => ?_
  rw [hro]
  have h := h fn
  refine ⟨w.heap.size + 1, [{ target := .collected w.heap.size, args := #[] }], ((w.alloc (.deferred (some []))).alloc (.loop { state := .ready, pending := none, fn := fn, tmps := (fr n ρ ds).tmps, params := ps, assign := assign, body := body, defers := w.heap.size })), { target := .fn (.func gf) caps, args := #[.func (.yield (w.heap.size + 1)) #[] #[]] }, ((w.alloc (.deferred (some []))).alloc (.loop { state := .ready, pending := none, fn := fn, tmps := (fr n ρ ds).tmps, params := ps, assign := assign, body := body, defers := w.heap.size })), gf,
    #[.func (.yield (w.heap.size + 1)) #[] #[]] ++ caps, ((w.alloc (.deferred (some []))).alloc (.loop { state := .ready, pending := none, fn := fn, tmps := (fr n ρ ds).tmps, params := ps, assign := assign, body := body, defers := w.heap.size })), run_enterLoop_outer fn _ ps assign body, ?_, fun f' _ => hF.fn f', ?_, fun hs => (by rw [hF.depth] at hs; cases hs), ?_⟩
  · simp only [resolve, eval_fr, hg, Deferred.ofValue]
    simp [Act.eval, xv]
  · simp only [invoke]; exact hE _ _
  · refine CallsIn.mono h ?_
    rintro e w' ⟨v, rfl, rec, hl, hb, hq⟩
    have hend := run_endLoop (P := P) hl hb
    refine ⟨_, _, hend, ?_⟩
    have hfr : ({ (fr n ρ ds) with defers := [{ target := .collected w.heap.size, args := #[] }] ++ (fr n ρ ds).defers } : Act) = fr n ρ ({ target := .collected w.heap.size, args := #[] } :: ds) := rfl
    rw [hfr]
    cases hp : rec.pending with
    | none => rw [hp] at hq; exact ⟨_, _, rfl, hq⟩
    | some c => rw [hp] at hq; exact hq

theorem run_enterLoop_inner' {l0 : Nat} {r0 : Loop} (h : w.heap[l0]? = some (.loop r0)) (fn : FuncId) (tmps : Array Value) (ps : Array Tmp) (assign body : Code) :
    (Instr.enterLoop fn tmps ps assign body (some l0)).run P w =
      .ok (w.heap.size, []) (w.alloc (.loop { state := .ready, pending := none, fn, tmps, params := ps, assign, body, defers := r0.defers })) := by
  unfold Instr.enterLoop
  simp only [Sem.run_bind, run_getLoop h, run_newObj_alloc, Result.andThen, Sem.run_pure]

/-- the same within a round of the loop l0 -/
theorem X_range_in (hF : Wide F) (ha : F.alive = false) {l0 : Nat} {r0 : Loop} (hro : F.round = some l0) (hl0 : w.heap[l0]? = some (.loop r0)) {g : Operand} {ps : Array Tmp} {assign body : Code} {gf : FuncId} {caps : Array Value} (hg : xv n ρ g = .func (.func gf) #[] caps) (hE : Enters P gf)
    (h : ∀ fn : FuncId, CallsIn F 0 P gf (#[.func (.yield w.heap.size) #[] #[]] ++ caps)
      (w.alloc (.loop { state := .ready, pending := none, fn := fn, tmps := (fr n ρ []).tmps, params := ps, assign := assign, body := body, defers := r0.defers }))
      fun e w' => ∃ v, e = .returned v ∧ AfterR F P n Q w.heap.size ρ ds w') :
    X F P n Q (.rangeFunc g ps assign body) ρ ds w := by
  refine wpIn_rangeFunc fun fn hfn => ?_
  rw [hro]
  have h := h fn
  refine ⟨w.heap.size, [], (w.alloc (.loop { state := .ready, pending := none, fn := fn, tmps := (fr n ρ ds).tmps, params := ps, assign := assign, body := body, defers := r0.defers })), { target := .fn (.func gf) caps, args := #[.func (.yield w.heap.size) #[] #[]] }, (w.alloc (.loop { state := .ready, pending := none, fn := fn, tmps := (fr n ρ ds).tmps, params := ps, assign := assign, body := body, defers := r0.defers })), gf,
    #[.func (.yield w.heap.size) #[] #[]] ++ caps, (w.alloc (.loop { state := .ready, pending := none, fn := fn, tmps := (fr n ρ ds).tmps, params := ps, assign := assign, body := body, defers := r0.defers })), run_enterLoop_inner' hl0 fn _ ps assign body, ?_, fun f' _ => hF.fn f', ?_, fun hs => (by rw [hF.depth] at hs; cases hs), ?_⟩
  · simp only [resolve, eval_fr, hg, Deferred.ofValue]
    simp [Act.eval, xv]
  · simp only [invoke]; exact hE _ _
  · refine CallsIn.mono h ?_
    rintro e w' ⟨v, rfl, rec, hl, hb, hq⟩
    have hend := run_endLoop (P := P) hl hb
    refine ⟨_, _, hend, ?_⟩
    have hfr : ({ (fr n ρ ds) with defers := [] ++ (fr n ρ ds).defers } : Act) = fr n ρ ds := rfl
    rw [hfr]
    cases hp : rec.pending with
    | none => rw [hp] at hq; exact ⟨_, _, rfl, hq⟩
    | some c => rw [hp] at hq; exact hq

/-- a function's contract inside a fence -/
theorem callsIn_body (hF : Wide F) (hro : F.round = none) {f : FuncId} {fn : Func} {c : Code} {args : Array Value} {R : Ending → World → Prop} (hf : P.funcs[f]? = some fn) (hb : fn.body = some c) (hn : fn.ntmps = n) (ha : args.size ≤ n)
    (h : X F P n (Body F P n fn R) c (fun t => args.getD t undef) [] w) : CallsIn F 0 P f args w R := by
  subst hn
  refine callsIn_of_wp_marks hf hb (hF.fn f) ?_ hro
  rw [fr_init _ _ ha]
  refine wpIn_mono h fun e a w ⟨ρ, ds, hfr, hq⟩ => ?_
  subst hfr
  cases e <;> exact hq
/-- inside a round, a function's contract is as outside -/
theorem callsIn_round {l : Nat} {f : FuncId} {args : Array Value} {R : Ending → World → Prop} (h : CallsIn F 0 P f args w R) : CallsIn (F.inRound l) 0 P f args w R := h
end
end XW
