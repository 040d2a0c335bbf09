/- One rule an operation, over XW. -/
import Derived.Test.YtbbffpgnjdejiaaXW
namespace XW
open Go
set_option linter.unusedSimpArgs false
set_option linter.unusedVariables false

/-! ### operations that only compute -/
def intBin (op : BinOp) (k : IntKind) (a b : Int) : Option Value :=
  match op with
  | .add => some (.int k (k.wrap (a + b)))
  | .sub => some (.int k (k.wrap (a - b)))
  | .mul => some (.int k (k.wrap (a * b)))
  | .quo => if b = 0 then none else some (.int k (k.wrap (a.tdiv b)))
  | .rem => if b = 0 then none else some (.int k (a.tmod b))
  | .eql => some (.bool (a == b))
  | .neq => some (.bool (a != b))
  | .lss => some (.bool (decide (a < b)))
  | .leq => some (.bool (decide (a ≤ b)))
  | .gtr => some (.bool (decide (a > b)))
  | .geq => some (.bool (decide (a ≥ b)))
  | _ => none
def bin (op : BinOp) : Value → Value → Option Value
  | .int k a, .int k' b => if k = k' then intBin op k a b else none
  | _, _ => none
def un (op : UnOp) : Value → Option Value
  | .int k a => if op = .neg then some (.int k (k.wrap (0 - a))) else none
  | .bool b => if op = .not then some (.bool (!b)) else none
  | _ => none

theorem run_bin {P : Program} {w : World} {op : BinOp} {t : TypeId} {x y : Operand} {u v r : Value} (h : bin op u v = some r) :
    (do eqGuard op t x y u v; binOp op t u v : Sem Value).run P w = .ok r w := by
  unfold bin at h
  split at h
  · rename_i k a k' b
    split at h
    · rename_i hk
      subst hk
      cases op <;> simp only [intBin] at h <;> (try split at h) <;> (try cases h) <;>
        simp_all [eqGuard, binOp, Op.intArith, Op.intDiv, Op.intCmp, Sem.run_bind, Result.andThen]
    · cases h
  · cases h

theorem run_un {P : Program} {w : World} {op : UnOp} {u r : Value} (h : un op u = some r) : (Op.unary op u).run P w = .ok r w := by
  unfold un at h
  split at h
  · split at h
    · rename_i e; subst e; cases h; simp [Op.unary, Op.intArith]
    · cases h
  · split at h
    · rename_i e; subst e; cases h; simp [Op.unary]
    · cases h
  · cases h

/-- what a plain operation answers, whatever the world -/
def plain (n : Nat) (ρ : Nat → Value) : Op → Option Value
  | .move x | .assign x => some (xv n ρ x)
  | .pick c a b => match xv n ρ c with
    | .bool true => some (xv n ρ a)
    | .bool false => some (xv n ρ b)
    | _ => none
  | .binOp op _ x y _ => bin op (xv n ρ x) (xv n ρ y)
  | .unOp op _ x => un op (xv n ρ x)
  | .makeFunc fn first captured => some (.func fn (first.map (xv n ρ)) (captured.map (xv n ρ)))
  | .extract t i => match xv n ρ t with
    | .tuple vs => vs[i]?
    | _ => none
  | .nilCheck x => match xv n ρ x with
    | .pointer (some a) => some (.pointer (some a))
    | _ => none
  | _ => none

theorem plain_gives {P : Program} {n : Nat} {ρ : Nat → Value} {w : World} {o : Oper} {v : Value} (h : plain n ρ o.op = some v) : (execOp (xv n ρ) o).run P w = .ok (.value v) w ∧ ∀ c, o.op ≠ .defer c := by
  obtain ⟨dst, op, type, pos, after, guard⟩ := o
  cases op <;> simp only [plain] at h <;> try cases h
  case move x => exact ⟨rfl, by simp⟩
  case assign x => exact ⟨rfl, by simp⟩
  case pick c a b =>
    refine ⟨?_, by simp⟩
    split at h <;> cases h <;> (rename_i e; simp [execOp, e, asBool, Sem.run_bind, Result.andThen])
  case binOp op t x y yt =>
    refine ⟨?_, by simp⟩
    simp only [execOp]
    rw [Sem.run_bind, run_bin h]; rfl
  case unOp op t x =>
    refine ⟨?_, by simp⟩
    simp only [execOp]
    rw [Sem.run_bind, run_un h]; rfl
  case makeFunc fn first captured =>
    refine ⟨?_, by simp⟩
    rfl
  case extract t i =>
    refine ⟨?_, by simp⟩
    split at h
    · rename_i vs e
      simp only [execOp, e, Instr.extract]
      simp [h, Sem.run_bind, Result.andThen]
    · cases h
  case nilCheck x =>
    refine ⟨?_, by simp⟩
    split at h
    · rename_i a e
      cases h
      simp [execOp, e]
    · cases h

/-- the plain operations at the head of a region's rest -/
def plainRun (n : Nat) (ops : Array Oper) : List Oper → (Nat → Value) → List Oper × (Nat → Value)
  | [], ρ => ([], ρ)
  | o :: rest, ρ =>
    match o.guard with
    | none => match plain n ρ o.op with
      | some v => plainRun n ops rest (updO ρ o.dst v)
      | none => (o :: rest, ρ)
    | some (g, want) => match (ops[g]?).bind (·.dst) with
      | none => (o :: rest, ρ)
      | some t => if t < n then match ρ t with
        | .bool b => if b == want then (match plain n ρ o.op with
            | some v => plainRun n ops rest (updO ρ o.dst v)
            | none => (o :: rest, ρ)) else plainRun n ops rest (updO ρ o.dst undef)
        | _ => (o :: rest, ρ)
        else (o :: rest, ρ)

section
variable {F : Fence} {P : Program} {n : Nat} {Q : Post} {ρ : Nat → Value} {ds : List Deferred} {w : World} {ops : Array Oper}

theorem XL_plain (hF : Wide F) : ∀ (l : List Oper) (ρ : Nat → Value), (XL F P n Q ops (plainRun n ops l ρ).1 (plainRun n ops l ρ).2 ds w) → XL F P n Q ops l ρ ds w
  | [], ρ, h => h
  | o :: rest, ρ, h => by
    unfold plainRun at h
    split at h
    · rename_i hg
      split at h
      · rename_i v hv
        obtain ⟨h1, h2⟩ := plain_gives (P := P) (w := w) hv
        exact XL_gives hF hg h2 (.inl h1) (XL_plain hF rest _ h)
      · exact h
    · rename_i g want hg
      split at h
      · exact h
      · rename_i t ht
        obtain ⟨og, hog, hd⟩ := Option.bind_eq_some_iff.1 ht
        split at h
        · rename_i hlt
          split at h
          · rename_i b hb
            split at h
            · rename_i hbw
              split at h
              · rename_i v hv
                obtain ⟨h1, h2⟩ := plain_gives (P := P) (w := w) hv
                refine XL_unguard hg hog hd hlt hb hbw ?_
                exact XL_gives hF rfl h2 (.inl h1) (XL_plain hF rest _ h)
              · exact h
            · rename_i hbw
              exact XL_skip hF hg hog hd hlt hb (by simpa using hbw) (XL_plain hF rest _ h)
          · exact h
        · exact h

/-! ### memory -/
def Loads (P : Program) (t : TypeId) (w : World) (a : Addr) (v : Value) : Prop := (loadVar t a).run P w = .ok v w
def Stores (P : Program) (t : TypeId) (w : World) (a : Addr) (v : Value) (w' : World) : Prop := (storeVar t a v).run P w = .ok () w'

/-- the type's own kind is one cell -/
def oneCellType (d : TypeDesc) : Bool := match d with
  | .struct _ | .array _ _ => false
  | _ => true
theorem loads_one {t : TypeId} {d : TypeDesc} {a : Addr} {v : Value} (hu : P.underlying t = some d) (hd : oneCellType d = true) (hc : w.cell? a = some v) : Loads P t w a v := by
  unfold Loads loadVar isAgg
  cases d <;> simp_all [oneCellType, underlying, program, load, Sem.run_bind, Sem.run, Result.andThen]

theorem XL_load (hF : Wide F) {dst : Option Tmp} {t ty : TypeId} {x : Operand} {pos : String} {af : Array Edge} {rest : List Oper} {a : Addr} {v : Value} (hx : xv n ρ x = .pointer (some a)) (hl : Loads P t w a v)
    (h : XL F P n Q ops rest (updO ρ dst v) ds w) : XL F P n Q ops (⟨dst, .load t x, ty, pos, af, none⟩ :: rest) ρ ds w :=
  XL_gives hF rfl (by simp) (.inl (by
    simp only [execOp, Instr.loadAt, hx, Instr.sureAddr]
    rw [Sem.run_bind, Sem.run_bind]
    simp only [Sem.run_pure, Result.andThen]
    rw [hl])) h
theorem XL_store (hF : Wide F) {dst : Option Tmp} {t ty : TypeId} {x y : Operand} {pos : String} {af : Array Edge} {rest : List Oper} {a : Addr} {w' : World} (hx : xv n ρ x = .pointer (some a)) (hl : Stores P t w a (xv n ρ y) w')
    (h : XL F P n Q ops rest (updO ρ dst undef) ds w') : XL F P n Q ops (⟨dst, .store t x y, ty, pos, af, none⟩ :: rest) ρ ds w :=
  XL_gives hF rfl (by simp) (.inr ⟨by
    simp only [execOp, Instr.storeAt, hx, Instr.sureAddr]
    rw [Sem.run_bind, Sem.run_bind]
    simp only [Sem.run_pure, Result.andThen]
    rw [hl], rfl⟩) h
theorem XL_box (hF : Wide F) {dst : Option Tmp} {t ty : TypeId} {x : Operand} {pos : String} {af : Array Edge} {rest : List Oper}
    (h : XL F P n Q ops rest (updO ρ dst (.pointer (some ⟨w.heap.size, 0, none⟩))) ds (w.alloc (.cells (xv n ρ x).cells t))) : XL F P n Q ops (⟨dst, .box t x, ty, pos, af, none⟩ :: rest) ρ ds w :=
  XL_gives hF rfl (by simp) (.inl (by simp [execOp, Instr.box, newVar, newRow, newObj, Sem.run_bind, Sem.run, Result.andThen])) h
theorem XL_alloc (hF : Wide F) {dst : Option Tmp} {t ty : TypeId} {pos : String} {af : Array Edge} {rest : List Oper} {z : Value} {i : TypeInfo} (hi : P.info? t = some i) (hz : i.zero = some z)
    (h : XL F P n Q ops rest (updO ρ dst (.pointer (some ⟨w.heap.size, 0, none⟩))) ds (w.alloc (.cells z.cells t))) : XL F P n Q ops (⟨dst, .alloc t, ty, pos, af, none⟩ :: rest) ρ ds w :=
  XL_gives hF rfl (by simp) (.inl (by simp [execOp, Instr.alloc, zeroValue, typeInfo, hi, hz, program, newVar, newRow, newObj, Sem.run_bind, Sem.run, Result.andThen])) h

/-! ### slices -/
theorem XL_len (hF : Wide F) {dst : Option Tmp} {t e ty : TypeId} {x : Operand} {pos : String} {af : Array Edge} {rest : List Oper} {a : Option Addr} {l c : Nat} (hu : P.underlying t = some (.slice e)) (hx : xv n ρ x = .slice a l c)
    (h : XL F P n Q ops rest (updO ρ dst (.int .i64 l)) ds w) : XL F P n Q ops (⟨dst, .call { callee := .builtin .len, args := #[x], argTypes := #[t] }, ty, pos, af, none⟩ :: rest) ρ ds w :=
  XL_gives hF rfl (by simp) (.inl (by simp [execOp, resolve, invoke, builtin, Builtin.len_, hx, underlying, program, hu, goInt, Sem.run_bind, Sem.run, Result.andThen])) h
theorem XL_index (hF : Wide F) {dst : Option Tmp} {t e ty : TypeId} {x y : Operand} {pos : String} {af : Array Edge} {rest : List Oper} {a : Addr} {l c : Nat} {k : IntKind} {i : Int} {inf : TypeInfo}
    (hu : P.underlying t = some (.slice e)) (hi : P.info? e = some inf) (hx : xv n ρ x = .slice (some a) l c) (hy : xv n ρ y = .int k i) (h0 : 0 ≤ i) (h1 : i < l)
    (h : XL F P n Q ops rest (updO ρ dst (.pointer (some (a.add (i.toNat * inf.size))))) ds w) : XL F P n Q ops (⟨dst, .indexAddr t x y, ty, pos, af, none⟩ :: rest) ρ ds w :=
  XL_gives hF rfl (by simp) (.inl (by
    have h01 : 0 ≤ i ∧ i < (l : Int) := ⟨h0, h1⟩
    simp [execOp, Instr.indexAt, hx, hy, asIntOf, underlying, program, hu, Go.sizeOf, typeInfo, hi, Sem.run_bind, Sem.run, Result.andThen, h0, h1])) h

/-! ### calls -/
/-- f has a Go body -/
def Enters (P : Program) (f : FuncId) : Prop := ∀ (args : Array Value) (w : World), (callFunc f args).run P w = .ok (.enter f args) w
theorem enters {f : FuncId} {fn : Func} {c : Code} (hf : P.funcs[f]? = some fn) (hn : (fn.name == "runtime.NumGoroutine") = false) (hb : fn.body = some c) : Enters P f := by
  intro args w
  have hn' : ¬ fn.name = "runtime.NumGoroutine" := by simpa using hn
  have hb' : fn.body.isNone = false := by rw [hb]; rfl
  have hb2 : ¬ fn.body = none := by rw [hb]; simp
  simp only [callFunc, program, Bind.bind]
  simp [Sem.bind, Sem.run, hf, hn', hb2]
theorem run_call_func {o : Oper} {c : Call} {f : FuncId} {ρ' : Operand → Value} (ho : o.op = .call c) (hc : c.callee = .value (.func f)) (hρ : ρ' (.func f) = .func (.func f) #[] #[]) (hE : Enters P f) :
    (execOp ρ' o).run P w = .ok (.enter f (c.args.map ρ')) w := by
  obtain ⟨dst, op, type, pos, after, guard⟩ := o
  simp only at ho
  subst ho
  simp only [execOp, resolve, hc, hρ]
  simp only [Deferred.ofValue, invoke, pure_bind, Sem.run_bind, Sem.run_pure, Result.andThen]
  first | exact hE _ _ | (simp only [Array.empty_append, Array.append_empty]; exact hE _ _)
/-- a function value that is called: first arguments, arguments, what it has captured -/
theorem run_call_value {o : Oper} {c : Call} {x : Operand} {f : FuncId} {first caps : Array Value} {ρ' : Operand → Value} (ho : o.op = .call c) (hc : c.callee = .value x) (hρ : ρ' x = .func (.func f) first caps) (hE : Enters P f) :
    (execOp ρ' o).run P w = .ok (.enter f (first ++ c.args.map ρ' ++ caps)) w := by
  obtain ⟨dst, op, type, pos, after, guard⟩ := o
  simp only at ho
  subst ho
  simp only [execOp, resolve, hc]
  simp only [hρ, Deferred.ofValue, invoke, pure_bind, Sem.run_bind, Sem.run_pure, Result.andThen]
  exact hE _ _

theorem XL_call (hF : Wide F) (ha : F.alive = false) {dst : Option Tmp} {f : FuncId} {args : Array Operand} {ats : Array TypeId} {ty : TypeId} {pos : String} {af : Array Edge} {rest : List Oper} (hE : Enters P f)
    {vs : Array Value} {R : Value → World → Prop} (hc : Rets P f vs w R) (hv : args.map (xv n ρ) = vs) (h : ∀ v w'', R v w'' → XL F P n Q ops rest (updO ρ dst v) ds w'') :
    XL F P n Q ops (⟨dst, .call { callee := .value (.func f), args := args, argTypes := ats }, ty, pos, af, none⟩ :: rest) ρ ds w :=
  XL_rets hF ha rfl (by simp) (run_call_func rfl rfl rfl hE) (by rw [hv]; exact hc) h
theorem XL_callv (hF : Wide F) (ha : F.alive = false) {dst : Option Tmp} {x : Operand} {f : FuncId} {first caps : Array Value} {args : Array Operand} {ats : Array TypeId} {ty : TypeId} {pos : String} {af : Array Edge} {rest : List Oper} (hE : Enters P f) (hx : xv n ρ x = .func (.func f) first caps)
    {vs : Array Value} {R : Value → World → Prop} (hc : Rets P f vs w R) (hv : first ++ args.map (xv n ρ) ++ caps = vs) (h : ∀ v w'', R v w'' → XL F P n Q ops rest (updO ρ dst v) ds w'') :
    XL F P n Q ops (⟨dst, .call { callee := .value x, args := args, argTypes := ats }, ty, pos, af, none⟩ :: rest) ρ ds w :=
  XL_rets hF ha rfl (by simp) (run_call_value rfl rfl hx hE) (by rw [hv]; exact hc) h
theorem rets_of {f : FuncId} {args : Array Value} {v : Value} {S : World → Prop} (h : Calls P f args w fun e w' => e = .returned v ∧ S w') : Rets P f args w fun u w' => u = v ∧ S w' :=
  h.mono fun _ _ ⟨he, hs⟩ => ⟨v, he, rfl, hs⟩
theorem calls_of_rets {f : FuncId} {args : Array Value} {v : Value} {S : World → Prop} (h : Rets P f args w fun u w' => u = v ∧ S w') : Calls P f args w fun e w' => e = .returned v ∧ S w' :=
  h.mono fun _ _ ⟨_, he, hu, hs⟩ => ⟨he.trans (by rw [hu]), hs⟩

/-! ### the end of a body -/
theorem results1 {fn : Func} {t : Tmp} (h : fn.results = #[.tmp t]) (ht : t < n) : (results fn (fr n ρ ds).tmps).run P w = .ok (ρ t) w := by
  rw [results_tmp h, Array.getD_eq_getD_getElem?, fr_get ht]; rfl
theorem results2 {fn : Func} {t u : Tmp} (h : fn.results = #[.tmp t, .tmp u]) (ht : t < n) (hu : u < n) : (results fn (fr n ρ ds).tmps).run P w = .ok (.tuple #[ρ t, ρ u]) w := by
  rw [results_tmp2 h, Array.getD_eq_getD_getElem?, Array.getD_eq_getD_getElem?, fr_get ht, fr_get hu]; rfl
theorem results3 {fn : Func} {t u v : Tmp} (h : fn.results = #[.tmp t, .tmp u, .tmp v]) (ht : t < n) (hu : u < n) (hv : v < n) : (results fn (fr n ρ ds).tmps).run P w = .ok (.tuple #[ρ t, ρ u, ρ v]) w := by
  have e : ∀ x, x < n → (fr n ρ ds).tmps[x]? = some (ρ x) := fun x hx => fr_get hx
  simp [results, h, Sem.run_bind, Result.andThen, Array.getD_eq_getD_getElem?, e t ht, e u hu, e v hv]
theorem results0 {fn : Func} (h : fn.results = #[]) : (results fn (fr n ρ ds).tmps).run P w = .ok (.tuple #[]) w := results_none h ..
/-- what is asked of a body that has no marks -/
theorem body_ret {fn : Func} {R : Ending → World → Prop} {v : Value} (hr : (results fn (fr n ρ []).tmps).run P w = .ok v w) (hR : R (.returned v) w) : Body F P n fn R .ret ρ [] w := ⟨v, hr, hR⟩
theorem body_end {fn : Func} {R : Ending → World → Prop} {v : Value} (hr : (results fn (fr n ρ []).tmps).run P w = .ok v w) (hR : R (.returned v) w) : Body F P n fn R .normal ρ [] w := ⟨v, hr, hR⟩

/-! ### whole numbers in range -/
theorem wrap64_in {x : Int} (h0 : -9223372036854775808 ≤ x) (h1 : x ≤ 9223372036854775807) : IntKind.i64.wrap x = x := by
  have e1 : (2 : Int) ^ 64 = 18446744073709551616 := by decide
  have e2 : (2 : Int) ^ (64 - 1) = 9223372036854775808 := by decide
  simp only [IntKind.wrap, IntKind.bits, IntKind.signed, Bool.true_and, decide_eq_true_eq, e1, e2]
  split <;> omega
end
end XW
