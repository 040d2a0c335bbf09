/- My general texts: XW XOps XRange XMap XMem RegInv XReg XOwn XPair XIter XRes XAt XRow. -/
import Derived.RangeFuncLeaves
import Derived.RangeFuncRecord
import Derived.TacticsIn
import Derived.OrdersIn
import Derived.Below
import Derived.WalkKit
import Derived.Deep.Draws
import Derived.Laws.AppendOwn
import Derived.WideKeyRuns
import Derived.Maps.RangeRun
import Derived.Laws.MakeOwn
/- A small calculus over the fenced one: frames as functions, one rule an operation. -/
namespace XW
open Go

structure Wide (F : Fence) : Prop where
  fn : ∀ f, F.fn f
  depth : F.depth = none
theorem wide_wide : Wide Fence.wide := ⟨fun _ => trivial, rfl⟩
theorem Wide.inRound {F : Fence} (h : Wide F) (l : Nat) : Wide (F.inRound l) := ⟨h.fn, h.depth⟩
theorem Wide.room {F : Fence} (h : Wide F) (k : Nat) : F.room k := fun d hd => by rw [h.depth] at hd; cases hd
theorem fenced_of {F : Fence} (h : Wide F) (ha : F.alive = false) (P : Program) (m : Machine) : m.fenced P F := fun _ _ => ⟨fun h => (by rw [ha] at h; cases h), .inl (h.fn _), fun _ _ => h.fn _, h.room _⟩

/-- a contract, inside whatever wide fence -/
theorem callsIn_of {F : Fence} (h : Wide F) (ha : F.alive = false) {n : Nat} {P : Program} {f : FuncId} {args : Array Value} {w : World} {R : Ending → World → Prop} (hc : Calls P f args w R) : CallsIn F n P f args w R :=
  ⟨h.fn f, fun cs _ => by
    obtain ⟨e, w', fr, r, s, x⟩ := hc cs
    refine ⟨e, w', fr, r, ?_, x⟩
    cases e with
    | returned v => exact (StepsIn.of_steps s).mono fun m _ => fenced_of h ha P m
    | panicked ch => exact (StepsIn.of_steps s).mono fun m _ => fenced_of h ha P m
    | outgrown => exact s⟩

/-! ### frames -/
def upd (ρ : Nat → Value) (d : Nat) (v : Value) : Nat → Value := fun t => if t = d then v else ρ t
def updO (ρ : Nat → Value) (d : Option Nat) (v : Value) : Nat → Value := match d with
  | some d => upd ρ d v
  | none => ρ
def fr (n : Nat) (ρ : Nat → Value) (ds : List Deferred) : Act := { tmps := ((List.range n).map ρ).toArray, defers := ds }
def xv (n : Nat) (ρ : Nat → Value) : Operand → Value
  | .tmp t => if t < n then ρ t else undef
  | .const v => v
  | .global g => .pointer (some ⟨g, 0, none⟩)
  | .func f => .func (.func f) #[] #[]
theorem fr_size (n : Nat) (ρ : Nat → Value) (ds : List Deferred) : (fr n ρ ds).tmps.size = n := by simp [fr]
theorem fr_get {n : Nat} {ρ : Nat → Value} {ds : List Deferred} {t : Nat} (h : t < n) : (fr n ρ ds).tmps[t]? = some (ρ t) := by
  simp [fr, h]
theorem eval_fr (n : Nat) (ρ : Nat → Value) (ds : List Deferred) : (fr n ρ ds).eval = xv n ρ := by
  funext x
  cases x with
  | tmp t =>
    show (fr n ρ ds).tmps.getD t undef = if t < n then ρ t else undef
    rw [Array.getD_eq_getD_getElem?]
    by_cases h : t < n
    · rw [fr_get h, if_pos h]; rfl
    · have h' : (fr n ρ ds).tmps.size ≤ t := by rw [fr_size]; exact Nat.le_of_not_lt h
      rw [if_neg h, Array.getElem?_eq_none h']; rfl
  | _ => rfl
theorem put_fr (n : Nat) (ρ : Nat → Value) (ds : List Deferred) (d : Option Nat) (v : Value) : (fr n ρ ds).put d v = fr n (updO ρ d v) ds := by
  cases d with
  | none => rfl
  | some d =>
    simp only [Act.put, updO, fr]
    congr 1
    apply Array.ext
    · simp
    · intro i h1 h2
      simp only [List.setIfInBounds_toArray, List.getElem_toArray, List.getElem_set, List.getElem_map, List.getElem_range, upd]
      by_cases e : d = i
      · subst e; simp
      · rw [if_neg e, if_neg (fun h => e h.symm)]
theorem fr_init (n : Nat) (args : Array Value) (h : args.size ≤ n) :
    ({ tmps := args ++ Array.replicate (n - args.size) undef, defers := [] } : Act) = fr n (fun t => args.getD t undef) [] := by
  simp only [fr]
  congr 1
  apply Array.ext
  · simp; omega
  · intro i h1 h2
    simp only [List.getElem_toArray, List.getElem_map, List.getElem_range, Array.getElem_append, Array.getElem_replicate, Array.getD_eq_getD_getElem?]
    split
    · rename_i h; rw [Array.getElem?_eq_getElem h]; rfl
    · rename_i h; rw [Array.getElem?_eq_none (by omega)]; rfl

abbrev Post := Exit → (Nat → Value) → List Deferred → World → Prop
def lift (n : Nat) (Q : Post) : Exit → Act → World → Prop := fun e a w => ∃ ρ ds, a = fr n ρ ds ∧ Q e ρ ds w

/-- the code, from a frame -/
def X (F : Fence) (P : Program) (n : Nat) (Q : Post) (c : Code) (ρ : Nat → Value) (ds : List Deferred) (w : World) : Prop := c.wpIn F 0 P (lift n Q) (fr n ρ ds) w
/-- the rest of a region -/
def XL (F : Fence) (P : Program) (n : Nat) (Q : Post) (ops : Array Oper) (l : List Oper) (ρ : Nat → Value) (ds : List Deferred) (w : World) : Prop := wpListIn F 0 P ops (lift n Q) l (fr n ρ ds) w

def Then (K : (Nat → Value) → List Deferred → World → Prop) (Q : Post) : Post
  | .normal, ρ, ds, w => K ρ ds w
  | e, ρ, ds, w => Q e ρ ds w
def InB (id : Nat) (Q : Post) : Post
  | .exit id', ρ, ds, w => if id' = id then Q .normal ρ ds w else Q (.exit id') ρ ds w
  | e, ρ, ds, w => Q e ρ ds w

section
variable {F : Fence} {P : Program} {n : Nat} {Q : Post} {ρ : Nat → Value} {ds : List Deferred} {w : World} {ops : Array Oper}

theorem X_mono {Q' : Post} {c : Code} (h : X F P n Q c ρ ds w) (hq : ∀ e ρ ds w, Q e ρ ds w → Q' e ρ ds w) : X F P n Q' c ρ ds w :=
  wpIn_mono h fun _ _ _ ⟨ρ, ds, ha, hq'⟩ => ⟨ρ, ds, ha, hq _ _ _ _ hq'⟩
theorem X_skip (h : Q .normal ρ ds w) : X F P n Q .skip ρ ds w := wpIn_skip ⟨_, _, rfl, h⟩
theorem X_ret (h : Q .ret ρ ds w) : X F P n Q .ret ρ ds w := wpIn_ret ⟨_, _, rfl, h⟩
theorem X_exit {id : Nat} (h : Q (.exit id) ρ ds w) : X F P n Q (.exit id) ρ ds w := wpIn_exit ⟨_, _, rfl, h⟩
theorem X_seq {a b : Code} (h : X F P n (Then (fun ρ ds w => X F P n Q b ρ ds w) Q) a ρ ds w) : X F P n Q (.seq a b) ρ ds w :=
  wpIn_seq (wpIn_mono h fun e a w ⟨ρ, ds, ha, hq⟩ => by
    subst ha
    cases e <;> first | exact hq | exact ⟨_, _, rfl, hq⟩)
theorem X_seq_k {a b : Code} (h : ∀ K : (Nat → Value) → List Deferred → World → Prop, (∀ ρ ds w, X F P n Q b ρ ds w → K ρ ds w) → X F P n (Then K Q) a ρ ds w) : X F P n Q (.seq a b) ρ ds w := X_seq (h _ fun _ _ _ h => h)
theorem inb_e {id id' : Nat} (e : (id' == id) = true) (h : Q .normal ρ ds w) : InB id Q (.exit id') ρ ds w := by
  simp only [InB]; rw [if_pos (by simpa using e)]; exact h
theorem X_cond {c : Operand} {x y : Code} {t : Bool} (hc : xv n ρ c = .bool t) (h : X F P n Q (if t then x else y) ρ ds w) : X F P n Q (.cond c x y) ρ ds w :=
  wpIn_cond (by rw [eval_fr]; exact hc) h
theorem X_cond_true {c : Operand} {x y : Code} (hc : xv n ρ c = .bool true) (h : X F P n Q x ρ ds w) : X F P n Q (.cond c x y) ρ ds w := X_cond hc h
theorem X_cond_false {c : Operand} {x y : Code} (hc : xv n ρ c = .bool false) (h : X F P n Q y ρ ds w) : X F P n Q (.cond c x y) ρ ds w := X_cond hc h
theorem X_block {id : Nat} {c : Code} (h : X F P n (InB id Q) c ρ ds w) : X F P n Q (.block id c) ρ ds w :=
  wpIn_block (wpIn_mono h fun e a w ⟨ρ, ds, ha, hq⟩ => by
    subst ha
    cases e with
    | exit id' =>
      simp only [Exit.inBlock, InB] at hq ⊢
      split
      · rename_i e; rw [if_pos e] at hq; exact ⟨_, _, rfl, hq⟩
      · rename_i e; rw [if_neg e] at hq; exact ⟨_, _, rfl, hq⟩
    | _ => exact ⟨_, _, rfl, hq⟩)
/-- a loop: what holds at each round's head, what goes down -/
theorem X_loop {c : Code} {α : Type} (I : α → (Nat → Value) → List Deferred → World → Prop) (m : α → Nat) (x : α) (h0 : I x ρ ds w)
    (hr : ∀ x ρ ds w, I x ρ ds w → ∀ K : (Nat → Value) → List Deferred → World → Prop, (∀ ρ' ds' w', (∃ y, I y ρ' ds' w' ∧ m y < m x) → K ρ' ds' w') → X F P n (Then K Q) c ρ ds w) : X F P n Q (.loop c) ρ ds w := by
  intro b k cs hro hb hrm
  have key : ∀ (N : Nat) (x : α) (ρ : Nat → Value) (ds : List Deferred) (w : World), m x = N → I x ρ ds w →
      ∃ e a' w', lift n Q e a' w' ∧ ArrivesIn (Machine.fenced P F) P (lone (b.atR (fr n ρ ds) (.code c :: .inLoop c :: k)) cs w) b k cs e a' w' := by
    intro N
    induction N using Nat.strongRecOn with
    | _ N ih =>
      intro x ρ ds w hn hI
      obtain ⟨e, a₁, w₁, ⟨ρ₁, ds₁, rfl, hq⟩, harr⟩ := hr x ρ ds w hI _ (fun _ _ _ h => h) b (.inLoop c :: k) cs hro hb hrm
      cases e with
      | normal =>
        obtain ⟨y, hy, hlt⟩ := hq
        obtain ⟨e₂, a₂, w₂, hq₂, harr₂⟩ := ih (m y) (hn ▸ hlt) y ρ₁ ds₁ w₁ rfl hy
        exact ⟨e₂, a₂, w₂, hq₂, .of_steps (StepsIn.trans harr (.one (fenced_calm hb hrm rfl) stepR_inLoop)) harr₂⟩
      | exit id => exact ⟨_, _, w₁, ⟨_, _, rfl, hq⟩, .pass (x := .inLoop c) rfl (fun _ _ => .inl (by simp)) harr⟩
      | goto l => exact ⟨_, _, w₁, ⟨_, _, rfl, hq⟩, .pass (x := .inLoop c) rfl (fun _ _ => .inl (by simp)) harr⟩
      | ret => exact ⟨_, _, w₁, ⟨_, _, rfl, hq⟩, .pass (x := .inLoop c) rfl (fun _ _ => .inl (by simp)) harr⟩
      | panic ch => exact ⟨_, _, w₁, ⟨_, _, rfl, hq⟩, .pass (x := .inLoop c) rfl (fun _ _ => .inl (by simp)) harr⟩
      | outgrown => exact ⟨_, _, w₁, ⟨_, _, rfl, hq⟩, .pass (x := .inLoop c) rfl (fun _ _ => .inl (by simp)) harr⟩
  obtain ⟨e, a', w', hq, harr⟩ := key _ x ρ ds w rfl h0
  exact ⟨e, a', w', hq, .of_steps (.one (fenced_calm hb hrm rfl) stepR_loop) harr⟩

/-! ### regions -/
theorem X_region {id : Nat} {l : List Oper} (h : XL F P n Q l.toArray l ρ ds w) : X F P n Q (.region id l.toArray false) ρ ds w := wpIn_region_lit h
theorem XL_nil (h : Q .normal ρ ds w) : XL F P n Q ops [] ρ ds w := wpListIn_nil ⟨_, _, rfl, h⟩

/-- what an operation that is no call comes to -/
def Gives (P : Program) (n : Nat) (o : Oper) (ρ : Nat → Value) (w : World) (v : Value) (w' : World) : Prop :=
  (execOp (xv n ρ) o).run P w = .ok (.value v) w' ∨ ((execOp (xv n ρ) o).run P w = .ok .skip w' ∧ v = undef)

theorem semAt_any (rd : Option Nat) (e : Operand → Value) (o : Oper) (h : ∀ c, o.op ≠ .defer c) : Oper.semAt rd e o = execOp e o := by
  cases rd with
  | none => exact Oper.semAt_none ..
  | some l => exact Oper.semAt_some l e o h

theorem wpIn_gives (hF : Wide F) {o : Oper} (hd : ∀ c, o.op ≠ .defer c) {v : Value} {w' : World} (hg : Gives P n o ρ w v w') {K : Act → World → Prop} {Q' : Exit → Act → World → Prop} (h : K (fr n (updO ρ o.dst v) ds) w') :
    o.wpIn F 0 P (fr n ρ ds) w K Q' := by
  refine ⟨fun f _ => hF.fn f, ?_⟩
  rw [semAt_any _ _ _ hd, eval_fr]
  rcases hg with hg | ⟨hg, rfl⟩ <;> rw [hg]
  · show K ((fr n ρ ds).put o.dst v) w'
    rw [put_fr]; exact h
  · show K ((fr n ρ ds).put o.dst undef) w'
    rw [put_fr]; exact h

theorem XL_gives (hF : Wide F) {o : Oper} {rest : List Oper} (hg : o.guard = none) (hd : ∀ c, o.op ≠ .defer c) {v : Value} {w' : World} (hr : Gives P n o ρ w v w') (h : XL F P n Q ops rest (updO ρ o.dst v) ds w') :
    XL F P n Q ops (o :: rest) ρ ds w :=
  wpListIn_plain hg fun _ hK => wpIn_gives hF hd hr (hK _ _ h)

/-- a call of a Go function -/
theorem wpIn_calls (hF : Wide F) (ha : F.alive = false) {o : Oper} (hd : ∀ c, o.op ≠ .defer c) {f : FuncId} {args : Array Value} {w' : World} (hr : (execOp (xv n ρ) o).run P w = .ok (.enter f args) w')
    {R : Ending → World → Prop} (hc : Calls P f args w' R) {K : Act → World → Prop} {Q' : Exit → Act → World → Prop}
    (h : ∀ e w'', R e w'' → match e with | .returned v => K (fr n (updO ρ o.dst v) ds) w'' | .panicked ch => Q' (.panic ch) (fr n ρ ds) w'' | .outgrown => LetsOut Q') :
    o.wpIn F 0 P (fr n ρ ds) w K Q' := by
  refine ⟨fun f _ => hF.fn f, ?_⟩
  rw [semAt_any _ _ _ hd, eval_fr, hr]
  refine ⟨fun hs => (by rw [hF.depth] at hs; cases hs), callsIn_of hF ha (hc.mono fun e w'' hR => ?_)⟩
  have := h e w'' hR
  cases e with
  | returned v => show K ((fr n ρ ds).put o.dst v) w''; rw [put_fr]; exact this
  | panicked ch => exact this
  | outgrown => exact this

/-- a call that returns -/
def Rets (P : Program) (f : FuncId) (args : Array Value) (w : World) (R : Value → World → Prop) : Prop :=
  Calls P f args w fun e w' => ∃ v, e = .returned v ∧ R v w'

theorem wpIn_rets (hF : Wide F) (ha : F.alive = false) {o : Oper} (hd : ∀ c, o.op ≠ .defer c) {f : FuncId} {args : Array Value} {w' : World} (hr : (execOp (xv n ρ) o).run P w = .ok (.enter f args) w')
    {R : Value → World → Prop} (hc : Rets P f args w' R) {K : Act → World → Prop} {Q' : Exit → Act → World → Prop}
    (h : ∀ v w'', R v w'' → K (fr n (updO ρ o.dst v) ds) w'') : o.wpIn F 0 P (fr n ρ ds) w K Q' :=
  wpIn_calls hF ha hd hr hc fun e w'' ⟨v, he, hR⟩ => by subst he; exact h v w'' hR

theorem XL_rets (hF : Wide F) (ha : F.alive = false) {o : Oper} {rest : List Oper} (hg : o.guard = none) (hd : ∀ c, o.op ≠ .defer c) {f : FuncId} {args : Array Value} {w' : World} (hr : (execOp (xv n ρ) o).run P w = .ok (.enter f args) w')
    {R : Value → World → Prop} (hc : Rets P f args w' R) (h : ∀ v w'', R v w'' → XL F P n Q ops rest (updO ρ o.dst v) ds w'') : XL F P n Q ops (o :: rest) ρ ds w :=
  wpListIn_plain hg fun _ hK => wpIn_rets hF ha hd hr hc fun v w'' hR => hK _ _ (h v w'' hR)

/-- a guarded operation -/
theorem wanted_fr {o : Oper} {g : Nat} {want b : Bool} {og : Oper} {t : Nat} (hg : o.guard = some (g, want)) (ho : ops[g]? = some og) (hd : og.dst = some t) (ht : t < n) (hv : ρ t = .bool b) :
    Region.wanted o (yielded ops (fr n ρ ds).tmps) = (b == want) := by
  simp only [Region.wanted, hg, yielded, ho, Option.bind_some, hd, fr_get ht, hv]
  cases b <;> cases want <;> rfl
theorem XL_skip (hF : Wide F) {o : Oper} {rest : List Oper} {g : Nat} {want b : Bool} {og : Oper} {t : Nat} (hg : o.guard = some (g, want)) (ho : ops[g]? = some og) (hd : og.dst = some t) (ht : t < n) (hv : ρ t = .bool b) (hb : (b == want) = false)
    (h : XL F P n Q ops rest (updO ρ o.dst undef) ds w) : XL F P n Q ops (o :: rest) ρ ds w := by
  show wpListIn ..
  unfold wpListIn
  rw [wanted_fr hg ho hd ht hv, hb, if_neg (by simp), put_fr]
  exact ⟨fun f _ => hF.fn f, h⟩
theorem XL_unguard {o : Oper} {rest : List Oper} {g : Nat} {want b : Bool} {og : Oper} {t : Nat} (hg : o.guard = some (g, want)) (ho : ops[g]? = some og) (hd : og.dst = some t) (ht : t < n) (hv : ρ t = .bool b) (hb : (b == want) = true)
    (h : XL F P n Q ops ({ o with guard := none } :: rest) ρ ds w) : XL F P n Q ops (o :: rest) ρ ds w := by
  have h' : wpListIn F 0 P ops (lift n Q) ({ o with guard := none } :: rest) (fr n ρ ds) w := h
  show wpListIn ..
  unfold wpListIn at h' ⊢
  rw [if_pos (by simp [Region.wanted])] at h'
  rw [wanted_fr hg ho hd ht hv, hb, if_pos rfl]
  exact h'

/-! ### functions -/
/-- what a body must come to, marks of ranges over functions among its deferred calls -/
def Body (F : Fence) (P : Program) (n : Nat) (fn : Func) (R : Ending → World → Prop) : Post
  | .normal, ρ, ds, w | .ret, ρ, ds, w => LeavesInM F 0 P fn (fr n ρ ds).tmps R ds .returning w
  | .panic ch, ρ, ds, w => LeavesInM F 0 P fn (fr n ρ ds).tmps R ds (.panicking ch) w
  | .outgrown, _, _, w => R .outgrown w
  | _, _, _, _ => False

theorem calls_of {f : FuncId} {fn : Func} {c : Code} {args : Array Value} {R : Ending → World → Prop} (hf : P.funcs[f]? = some fn) (hb : fn.body = some c) (hn : fn.ntmps = n) (ha : args.size ≤ n)
    (h : X Fence.wide P n (Body Fence.wide P n fn R) c (fun t => args.getD t undef) [] w) : Calls P f args w R := by
  subst hn
  refine (callsIn_wide (n := 0)).1 (callsIn_of_wp_marks hf hb trivial ?_)
  rw [fr_init _ _ ha]
  refine wpIn_mono h fun e a w ⟨ρ, ds, hfr, hq⟩ => ?_
  subst hfr
  cases e <;> exact hq

end
end XW

/- One rule an operation, over XW. -/
namespace XW
open Go
set_option linter.unusedSimpArgs false
set_option linter.unusedVariables false

/-! ### operations that only compute -/
def intBin (op : BinOp) (k : IntKind) (a b : Int) : Option Value :=
  match op with
  | .add => some (.int k (k.wrap (a + b)))
  | .sub => some (.int k (k.wrap (a - b)))
  | .mul => some (.int k (k.wrap (a * b)))
  | .quo => if b = 0 then none else some (.int k (k.wrap (a.tdiv b)))
  | .rem => if b = 0 then none else some (.int k (a.tmod b))
  | .eql => some (.bool (a == b))
  | .neq => some (.bool (a != b))
  | .lss => some (.bool (decide (a < b)))
  | .leq => some (.bool (decide (a ≤ b)))
  | .gtr => some (.bool (decide (a > b)))
  | .geq => some (.bool (decide (a ≥ b)))
  | _ => none
def bin (op : BinOp) : Value → Value → Option Value
  | .int k a, .int k' b => if k = k' then intBin op k a b else none
  | _, _ => none
def un (op : UnOp) : Value → Option Value
  | .int k a => if op = .neg then some (.int k (k.wrap (0 - a))) else none
  | .bool b => if op = .not then some (.bool (!b)) else none
  | _ => none

theorem run_bin {P : Program} {w : World} {op : BinOp} {t : TypeId} {x y : Operand} {u v r : Value} (h : bin op u v = some r) :
    (do eqGuard op t x y u v; binOp op t u v : Sem Value).run P w = .ok r w := by
  unfold bin at h
  split at h
  · rename_i k a k' b
    split at h
    · rename_i hk
      subst hk
      cases op <;> simp only [intBin] at h <;> (try split at h) <;> (try cases h) <;>
        simp_all [eqGuard, binOp, Op.intArith, Op.intDiv, Op.intCmp, Sem.run_bind, Result.andThen]
    · cases h
  · cases h

theorem run_un {P : Program} {w : World} {op : UnOp} {u r : Value} (h : un op u = some r) : (Op.unary op u).run P w = .ok r w := by
  unfold un at h
  split at h
  · split at h
    · rename_i e; subst e; cases h; simp [Op.unary, Op.intArith]
    · cases h
  · split at h
    · rename_i e; subst e; cases h; simp [Op.unary]
    · cases h
  · cases h

/-- what a plain operation answers, whatever the world -/
def plain (n : Nat) (ρ : Nat → Value) : Op → Option Value
  | .move x | .assign x => some (xv n ρ x)
  | .pick c a b => match xv n ρ c with
    | .bool true => some (xv n ρ a)
    | .bool false => some (xv n ρ b)
    | _ => none
  | .binOp op _ x y _ => bin op (xv n ρ x) (xv n ρ y)
  | .unOp op _ x => un op (xv n ρ x)
  | .makeFunc fn first captured => some (.func fn (first.map (xv n ρ)) (captured.map (xv n ρ)))
  | .extract t i => match xv n ρ t with
    | .tuple vs => vs[i]?
    | _ => none
  | .nilCheck x => match xv n ρ x with
    | .pointer (some a) => some (.pointer (some a))
    | _ => none
  | _ => none

theorem plain_gives {P : Program} {n : Nat} {ρ : Nat → Value} {w : World} {o : Oper} {v : Value} (h : plain n ρ o.op = some v) : (execOp (xv n ρ) o).run P w = .ok (.value v) w ∧ ∀ c, o.op ≠ .defer c := by
  obtain ⟨dst, op, type, pos, after, guard⟩ := o
  cases op <;> simp only [plain] at h <;> try cases h
  case move x => exact ⟨rfl, by simp⟩
  case assign x => exact ⟨rfl, by simp⟩
  case pick c a b =>
    refine ⟨?_, by simp⟩
    split at h <;> cases h <;> (rename_i e; simp [execOp, e, asBool, Sem.run_bind, Result.andThen])
  case binOp op t x y yt =>
    refine ⟨?_, by simp⟩
    simp only [execOp]
    rw [Sem.run_bind, run_bin h]; rfl
  case unOp op t x =>
    refine ⟨?_, by simp⟩
    simp only [execOp]
    rw [Sem.run_bind, run_un h]; rfl
  case makeFunc fn first captured =>
    refine ⟨?_, by simp⟩
    rfl
  case extract t i =>
    refine ⟨?_, by simp⟩
    split at h
    · rename_i vs e
      simp only [execOp, e, Instr.extract]
      simp [h, Sem.run_bind, Result.andThen]
    · cases h
  case nilCheck x =>
    refine ⟨?_, by simp⟩
    split at h
    · rename_i a e
      cases h
      simp [execOp, e]
    · cases h

section
variable {F : Fence} {P : Program} {n : Nat} {Q : Post} {ρ : Nat → Value} {ds : List Deferred} {w : World} {ops : Array Oper}

/-! ### memory -/
def Loads (P : Program) (t : TypeId) (w : World) (a : Addr) (v : Value) : Prop := (loadVar t a).run P w = .ok v w
def Stores (P : Program) (t : TypeId) (w : World) (a : Addr) (v : Value) (w' : World) : Prop := (storeVar t a v).run P w = .ok () w'

/-- the type's own kind is one cell -/
def oneCellType (d : TypeDesc) : Bool := match d with
  | .struct _ | .array _ _ => false
  | _ => true
theorem loads_one {t : TypeId} {d : TypeDesc} {a : Addr} {v : Value} (hu : P.underlying t = some d) (hd : oneCellType d = true) (hc : w.cell? a = some v) : Loads P t w a v := by
  unfold Loads loadVar isAgg
  cases d <;> simp_all [oneCellType, underlying, program, load, Sem.run_bind, Sem.run, Result.andThen]

theorem XL_load (hF : Wide F) {dst : Option Tmp} {t ty : TypeId} {x : Operand} {pos : String} {af : Array Edge} {rest : List Oper} {a : Addr} {v : Value} (hx : xv n ρ x = .pointer (some a)) (hl : Loads P t w a v)
    (h : XL F P n Q ops rest (updO ρ dst v) ds w) : XL F P n Q ops (⟨dst, .load t x, ty, pos, af, none⟩ :: rest) ρ ds w :=
  XL_gives hF rfl (by simp) (.inl (by
    simp only [execOp, Instr.loadAt, hx, Instr.sureAddr]
    rw [Sem.run_bind, Sem.run_bind]
    simp only [Sem.run_pure, Result.andThen]
    rw [hl])) h
theorem XL_store (hF : Wide F) {dst : Option Tmp} {t ty : TypeId} {x y : Operand} {pos : String} {af : Array Edge} {rest : List Oper} {a : Addr} {w' : World} (hx : xv n ρ x = .pointer (some a)) (hl : Stores P t w a (xv n ρ y) w')
    (h : XL F P n Q ops rest (updO ρ dst undef) ds w') : XL F P n Q ops (⟨dst, .store t x y, ty, pos, af, none⟩ :: rest) ρ ds w :=
  XL_gives hF rfl (by simp) (.inr ⟨by
    simp only [execOp, Instr.storeAt, hx, Instr.sureAddr]
    rw [Sem.run_bind, Sem.run_bind]
    simp only [Sem.run_pure, Result.andThen]
    rw [hl], rfl⟩) h
theorem XL_box (hF : Wide F) {dst : Option Tmp} {t ty : TypeId} {x : Operand} {pos : String} {af : Array Edge} {rest : List Oper}
    (h : XL F P n Q ops rest (updO ρ dst (.pointer (some ⟨w.heap.size, 0, none⟩))) ds (w.alloc (.cells (xv n ρ x).cells t))) : XL F P n Q ops (⟨dst, .box t x, ty, pos, af, none⟩ :: rest) ρ ds w :=
  XL_gives hF rfl (by simp) (.inl (by simp [execOp, Instr.box, newVar, newRow, newObj, Sem.run_bind, Sem.run, Result.andThen])) h
theorem XL_alloc (hF : Wide F) {dst : Option Tmp} {t ty : TypeId} {pos : String} {af : Array Edge} {rest : List Oper} {z : Value} {i : TypeInfo} (hi : P.info? t = some i) (hz : i.zero = some z)
    (h : XL F P n Q ops rest (updO ρ dst (.pointer (some ⟨w.heap.size, 0, none⟩))) ds (w.alloc (.cells z.cells t))) : XL F P n Q ops (⟨dst, .alloc t, ty, pos, af, none⟩ :: rest) ρ ds w :=
  XL_gives hF rfl (by simp) (.inl (by simp [execOp, Instr.alloc, zeroValue, typeInfo, hi, hz, program, newVar, newRow, newObj, Sem.run_bind, Sem.run, Result.andThen])) h

/-! ### slices -/
theorem XL_len (hF : Wide F) {dst : Option Tmp} {t e ty : TypeId} {x : Operand} {pos : String} {af : Array Edge} {rest : List Oper} {a : Option Addr} {l c : Nat} (hu : P.underlying t = some (.slice e)) (hx : xv n ρ x = .slice a l c)
    (h : XL F P n Q ops rest (updO ρ dst (.int .i64 l)) ds w) : XL F P n Q ops (⟨dst, .call { callee := .builtin .len, args := #[x], argTypes := #[t] }, ty, pos, af, none⟩ :: rest) ρ ds w :=
  XL_gives hF rfl (by simp) (.inl (by simp [execOp, resolve, invoke, builtin, Builtin.len_, hx, underlying, program, hu, goInt, Sem.run_bind, Sem.run, Result.andThen])) h
theorem XL_index (hF : Wide F) {dst : Option Tmp} {t e ty : TypeId} {x y : Operand} {pos : String} {af : Array Edge} {rest : List Oper} {a : Addr} {l c : Nat} {k : IntKind} {i : Int} {inf : TypeInfo}
    (hu : P.underlying t = some (.slice e)) (hi : P.info? e = some inf) (hx : xv n ρ x = .slice (some a) l c) (hy : xv n ρ y = .int k i) (h0 : 0 ≤ i) (h1 : i < l)
    (h : XL F P n Q ops rest (updO ρ dst (.pointer (some (a.add (i.toNat * inf.size))))) ds w) : XL F P n Q ops (⟨dst, .indexAddr t x y, ty, pos, af, none⟩ :: rest) ρ ds w :=
  XL_gives hF rfl (by simp) (.inl (by
    have h01 : 0 ≤ i ∧ i < (l : Int) := ⟨h0, h1⟩
    simp [execOp, Instr.indexAt, hx, hy, asIntOf, underlying, program, hu, Go.sizeOf, typeInfo, hi, Sem.run_bind, Sem.run, Result.andThen, h0, h1])) h

/-! ### calls -/
/-- f has a Go body -/
def Enters (P : Program) (f : FuncId) : Prop := ∀ (args : Array Value) (w : World), (callFunc f args).run P w = .ok (.enter f args) w
theorem enters {f : FuncId} {fn : Func} {c : Code} (hf : P.funcs[f]? = some fn) (hn : (fn.name == "runtime.NumGoroutine") = false) (hb : fn.body = some c) : Enters P f := by
  intro args w
  have hn' : ¬ fn.name = "runtime.NumGoroutine" := by simpa using hn
  have hb' : fn.body.isNone = false := by rw [hb]; rfl
  have hb2 : ¬ fn.body = none := by rw [hb]; simp
  simp only [callFunc, program, Bind.bind]
  simp [Sem.bind, Sem.run, hf, hn', hb2]
theorem run_call_func {o : Oper} {c : Call} {f : FuncId} {ρ' : Operand → Value} (ho : o.op = .call c) (hc : c.callee = .value (.func f)) (hρ : ρ' (.func f) = .func (.func f) #[] #[]) (hE : Enters P f) :
    (execOp ρ' o).run P w = .ok (.enter f (c.args.map ρ')) w := by
  obtain ⟨dst, op, type, pos, after, guard⟩ := o
  simp only at ho
  subst ho
  simp only [execOp, resolve, hc, hρ]
  simp only [Deferred.ofValue, invoke, pure_bind, Sem.run_bind, Sem.run_pure, Result.andThen]
  first | exact hE _ _ | (simp only [Array.empty_append, Array.append_empty]; exact hE _ _)
/-- a function value that is called: first arguments, arguments, what it has captured -/
theorem run_call_value {o : Oper} {c : Call} {x : Operand} {f : FuncId} {first caps : Array Value} {ρ' : Operand → Value} (ho : o.op = .call c) (hc : c.callee = .value x) (hρ : ρ' x = .func (.func f) first caps) (hE : Enters P f) :
    (execOp ρ' o).run P w = .ok (.enter f (first ++ c.args.map ρ' ++ caps)) w := by
  obtain ⟨dst, op, type, pos, after, guard⟩ := o
  simp only at ho
  subst ho
  simp only [execOp, resolve, hc]
  simp only [hρ, Deferred.ofValue, invoke, pure_bind, Sem.run_bind, Sem.run_pure, Result.andThen]
  exact hE _ _

theorem XL_call (hF : Wide F) (ha : F.alive = false) {dst : Option Tmp} {f : FuncId} {args : Array Operand} {ats : Array TypeId} {ty : TypeId} {pos : String} {af : Array Edge} {rest : List Oper} (hE : Enters P f)
    {vs : Array Value} {R : Value → World → Prop} (hc : Rets P f vs w R) (hv : args.map (xv n ρ) = vs) (h : ∀ v w'', R v w'' → XL F P n Q ops rest (updO ρ dst v) ds w'') :
    XL F P n Q ops (⟨dst, .call { callee := .value (.func f), args := args, argTypes := ats }, ty, pos, af, none⟩ :: rest) ρ ds w :=
  XL_rets hF ha rfl (by simp) (run_call_func rfl rfl rfl hE) (by rw [hv]; exact hc) h
theorem XL_callv (hF : Wide F) (ha : F.alive = false) {dst : Option Tmp} {x : Operand} {f : FuncId} {first caps : Array Value} {args : Array Operand} {ats : Array TypeId} {ty : TypeId} {pos : String} {af : Array Edge} {rest : List Oper} (hE : Enters P f) (hx : xv n ρ x = .func (.func f) first caps)
    {vs : Array Value} {R : Value → World → Prop} (hc : Rets P f vs w R) (hv : first ++ args.map (xv n ρ) ++ caps = vs) (h : ∀ v w'', R v w'' → XL F P n Q ops rest (updO ρ dst v) ds w'') :
    XL F P n Q ops (⟨dst, .call { callee := .value x, args := args, argTypes := ats }, ty, pos, af, none⟩ :: rest) ρ ds w :=
  XL_rets hF ha rfl (by simp) (run_call_value rfl rfl hx hE) (by rw [hv]; exact hc) h
/-! ### the end of a body -/
theorem results0 {fn : Func} (h : fn.results = #[]) : (results fn (fr n ρ ds).tmps).run P w = .ok (.tuple #[]) w := results_none h ..
/-! ### whole numbers in range -/
theorem wrap64_in {x : Int} (h0 : -9223372036854775808 ≤ x) (h1 : x ≤ 9223372036854775807) : IntKind.i64.wrap x = x := by
  have e1 : (2 : Int) ^ 64 = 18446744073709551616 := by decide
  have e2 : (2 : Int) ^ (64 - 1) = 9223372036854775808 := by decide
  simp only [IntKind.wrap, IntKind.bits, IntKind.signed, Bool.true_and, decide_eq_true_eq, e1, e2]
  split <;> omega
end
end XW

/- Ranges over functions, over XW: the statement, a round, a call of yield. -/
namespace XW
open Go
set_option linter.unusedSimpArgs false
set_option linter.unusedVariables false

section
variable {F : Fence} {P : Program} {n : Nat} {Q : Post} {ρ : Nat → Value} {ds : List Deferred} {w : World} {ops : Array Oper}

/-- what a call of yield comes to: the round's answer -/
def YieldC (F : Fence) (P : Program) (l : Nat) (vs : Array Value) (W : World) (R : Bool → World → Prop) : Prop :=
  ∃ fn tmps assign body, (Instr.yield l vs).run P W = .ok (.round l fn tmps assign body) W ∧ RoundIn F 0 P l fn tmps assign body W fun e W' => ∃ b, e = .returned (.bool b) ∧ R b W'

theorem YieldC.mono {l : Nat} {vs : Array Value} {W : World} {R R' : Bool → World → Prop} (h : YieldC F P l vs W R) (hr : ∀ b W', R b W' → R' b W') : YieldC F P l vs W R' := by
  obtain ⟨fn, tmps, assign, body, h1, h2⟩ := h
  exact ⟨fn, tmps, assign, body, h1, h2.mono fun e W' ⟨b, he, hb⟩ => ⟨b, he, hr _ _ hb⟩⟩

theorem run_call_yield {o : Oper} {c : Call} {x : Operand} {l : Nat} {ρ' : Operand → Value} (ho : o.op = .call c) (hc : c.callee = .value x) (hρ : ρ' x = .func (.yield l) #[] #[]) :
    (execOp ρ' o).run P w = (Instr.yield l (c.args.map ρ')).run P w := by
  obtain ⟨dst, op, type, pos, after, guard⟩ := o
  simp only at ho
  subst ho
  simp only [execOp, resolve, hc]
  simp only [hρ, Deferred.ofValue, invoke, pure_bind, Sem.run_bind, Sem.run_pure, Result.andThen, Array.empty_append]

theorem wpIn_yield (hF : Wide F) (ha : F.alive = false) {o : Oper} {c : Call} {x : Operand} {l : Nat} {vs : Array Value} (ho : o.op = .call c) (hc : c.callee = .value x) (hx : xv n ρ x = .func (.yield l) #[] #[]) (hv : c.args.map (xv n ρ) = vs)
    {R : Bool → World → Prop} (hy : YieldC F P l vs w R) {K : Act → World → Prop} {Q' : Exit → Act → World → Prop} (h : ∀ b w', R b w' → K (fr n (updO ρ o.dst (.bool b)) ds) w') :
    o.wpIn F 0 P (fr n ρ ds) w K Q' := by
  obtain ⟨fn, tmps, assign, body, h1, h2⟩ := hy
  have hd : ∀ c', o.op ≠ .defer c' := fun c' h => by rw [ho] at h; cases h
  refine ⟨fun f _ => hF.fn f, ?_⟩
  rw [semAt_any _ _ _ hd, eval_fr, run_call_yield ho hc hx, hv, h1]
  refine ⟨fun hs => (by rw [hF.depth] at hs; cases hs), h2.mono fun e w' ⟨b, he, hb⟩ => ?_⟩
  subst he
  show K ((fr n ρ ds).put o.dst (.bool b)) w'
  rw [put_fr]; exact h b w' hb

theorem XL_yield (hF : Wide F) (ha : F.alive = false) {dst : Option Tmp} {x : Operand} {l : Nat} {vs : Array Value} {args : Array Operand} {ats : Array TypeId} {ty : TypeId} {pos : String} {af : Array Edge} {rest : List Oper}
    {R : Bool → World → Prop} (hy : YieldC F P l vs w R) (hx : xv n ρ x = .func (.yield l) #[] #[]) (hv : args.map (xv n ρ) = vs) (h : ∀ b w', R b w' → XL F P n Q ops rest (updO ρ dst (.bool b)) ds w') :
    XL F P n Q ops (⟨dst, .call { callee := .value x, args := args, argTypes := ats }, ty, pos, af, none⟩ :: rest) ρ ds w :=
  wpListIn_plain rfl fun _ hK => wpIn_yield hF ha rfl rfl hx hv hy fun b w' hb => hK _ _ (h b w' hb)

/-! ### a round -/
/-- how the body of a round may end -/
def EndR (l : Nat) (rec : Loop) (R : Bool → World → Prop) : Post
  | .normal, _, _, w' => w'.heap[l]? = some (.loop { rec with state := .busy }) ∧ R true (w'.putObj l (.loop { rec with state := .ready, pending := none }))
  | .ret, _, _, w' => w'.heap[l]? = some (.loop { rec with state := .busy }) ∧ R false (w'.putObj l (.loop { rec with state := .done, pending := some .ret }))
  | .exit id, _, _, w' => w'.heap[l]? = some (.loop { rec with state := .busy }) ∧ R false (w'.putObj l (.loop { rec with state := .done, pending := some (.exit id) }))
  | _, _, _, _ => False

def StartR (F : Fence) (P : Program) (n l : Nat) (rec : Loop) (R : Bool → World → Prop) : Post
  | .normal, ρ, ds, w' => w'.heap[l]? = some (.loop rec) ∧ X F P n (EndR l rec R) rec.body ρ ds (w'.putObj l (.loop { rec with state := .busy }))
  | _, _, _, _ => False

def updL (ρ : Nat → Value) : List (Nat × Value) → Nat → Value
  | [] => ρ
  | (t, v) :: l => updL (upd ρ t v) l

theorem foldl_fr (ρ : Nat → Value) (ds : List Deferred) (l : List (Nat × Value)) : l.foldl (fun tmps (p : Nat × Value) => tmps.setIfInBounds p.1 p.2) (fr n ρ ds).tmps = (fr n (updL ρ l) ds).tmps := by
  induction l generalizing ρ with
  | nil => rfl
  | cons p l ih =>
    obtain ⟨t, v⟩ := p
    simp only [List.foldl_cons, updL]
    have : (fr n ρ ds).tmps.setIfInBounds t v = (fr n (upd ρ t v) ds).tmps := by
      have := put_fr n ρ ds (some t) v
      exact congrArg Act.tmps this
    rw [this, ih]

theorem yieldC_of (hF : Wide F) {l : Nat} {rec : Loop} {vs : Array Value} {W : World} {R : Bool → World → Prop} (hl : W.heap[l]? = some (.loop rec)) (hst : rec.state = .ready) (hsz : vs.size = rec.params.size) (htm : rec.tmps = (fr n ρ []).tmps)
    (hb : X (F.inRound l) P n (StartR (F.inRound l) P n l rec R) rec.assign (updL ρ (rec.params.toList.zip vs.toList)) [] W) : YieldC F P l vs W R := by
  refine ⟨_, _, _, _, run_yield hl hsz, ?_⟩
  have e : (rec.params.zip vs).foldl (fun tmps (p : Tmp × Value) => tmps.setIfInBounds p.1 p.2) rec.tmps = (fr n (updL ρ (rec.params.toList.zip vs.toList)) []).tmps := by
    rw [← Array.foldl_toList, Array.toList_zip, htm]
    exact foldl_fr ..
  refine roundIn_of_wpIn (hF.fn _) ?_
  have e' : ({ tmps := (rec.params.zip vs).foldl (fun tmps (p : Tmp × Value) => tmps.setIfInBounds p.1 p.2) rec.tmps, defers := [] } : Act) = fr n (updL ρ (rec.params.toList.zip vs.toList)) [] := by
    rw [e]; rfl
  show rec.assign.wpIn (F.inRound l) 0 P _ { tmps := (rec.params.zip vs).foldl (fun tmps (p : Tmp × Value) => tmps.setIfInBounds p.1 p.2) rec.tmps, defers := [] } W
  rw [e']
  refine wpIn_mono hb ?_
  rintro ex a w' ⟨ρ', ds', rfl, hq⟩
  cases ex with
  | normal =>
    obtain ⟨hl', hx⟩ := hq
    refine ⟨_, run_beginRound hl' hst, wpIn_mono hx ?_⟩
    rintro ex a w'' ⟨ρ'', ds'', rfl, hq⟩
    cases ex with
    | normal =>
      obtain ⟨h1, h2⟩ := hq
      have := run_endRound (P := P) none h1
      exact ⟨_, _, this, true, rfl, h2⟩
    | ret =>
      obtain ⟨h1, h2⟩ := hq
      have := run_endRound (P := P) (some .ret) h1
      exact ⟨_, _, this, false, rfl, h2⟩
    | exit id =>
      obtain ⟨h1, h2⟩ := hq
      have := run_endRound (P := P) (some (.exit id)) h1
      exact ⟨_, _, this, false, rfl, h2⟩
    | goto t => exact hq.elim
    | panic ch => exact hq.elim
    | outgrown => exact hq.elim
  | _ => exact hq.elim

/-! ### the statement -/
/-- behind the function that is ranged over -/
def AfterR (F : Fence) (P : Program) (n : Nat) (Q : Post) (l : Nat) (ρ : Nat → Value) (ds : List Deferred) (w' : World) : Prop :=
  ∃ rec : Loop, w'.heap[l]? = some (.loop rec) ∧ rec.state ≠ .busy ∧ match rec.pending with
    | none => Q .normal ρ ds (w'.putObj l (.loop { rec with state := .exhausted }))
    | some c => X F P n Q c ρ ds (w'.putObj l (.loop { rec with state := .exhausted }))

theorem X_range (hF : Wide F) (ha : F.alive = false) (hro : F.round = none) {g : Operand} {ps : Array Tmp} {assign body : Code} {gf : FuncId} {caps : Array Value} (hg : xv n ρ g = .func (.func gf) #[] caps) (hE : Enters P gf)
    (h : ∀ fn : FuncId, CallsIn F 0 P gf (#[.func (.yield (w.heap.size + 1)) #[] #[]] ++ caps)
      ((w.alloc (.deferred (some []))).alloc (.loop { state := .ready, pending := none, fn := fn, tmps := (fr n ρ []).tmps, params := ps, assign := assign, body := body, defers := w.heap.size }))
      fun e w' => ∃ v, e = .returned v ∧ AfterR F P n Q (w.heap.size + 1) ρ ({ target := .collected w.heap.size, args := #[] } :: ds) w') :
    X F P n Q (.rangeFunc g ps assign body) ρ ds w := by
  refine wpIn_rangeFunc fun fn hfn => ?_
  rw [hro]
  have h := h fn
  refine ⟨w.heap.size + 1, [{ target := .collected w.heap.size, args := #[] }], ((w.alloc (.deferred (some []))).alloc (.loop { state := .ready, pending := none, fn := fn, tmps := (fr n ρ ds).tmps, params := ps, assign := assign, body := body, defers := w.heap.size })), { target := .fn (.func gf) caps, args := #[.func (.yield (w.heap.size + 1)) #[] #[]] }, ((w.alloc (.deferred (some []))).alloc (.loop { state := .ready, pending := none, fn := fn, tmps := (fr n ρ ds).tmps, params := ps, assign := assign, body := body, defers := w.heap.size })), gf,
    #[.func (.yield (w.heap.size + 1)) #[] #[]] ++ caps, ((w.alloc (.deferred (some []))).alloc (.loop { state := .ready, pending := none, fn := fn, tmps := (fr n ρ ds).tmps, params := ps, assign := assign, body := body, defers := w.heap.size })), run_enterLoop_outer fn _ ps assign body, ?_, fun f' _ => hF.fn f', ?_, fun hs => (by rw [hF.depth] at hs; cases hs), ?_⟩
  · simp only [resolve, eval_fr, hg, Deferred.ofValue]
    simp [Act.eval, xv]
  · simp only [invoke]; exact hE _ _
  · refine CallsIn.mono h ?_
    rintro e w' ⟨v, rfl, rec, hl, hb, hq⟩
    have hend := run_endLoop (P := P) hl hb
    refine ⟨_, _, hend, ?_⟩
    have hfr : ({ (fr n ρ ds) with defers := [{ target := .collected w.heap.size, args := #[] }] ++ (fr n ρ ds).defers } : Act) = fr n ρ ({ target := .collected w.heap.size, args := #[] } :: ds) := rfl
    rw [hfr]
    cases hp : rec.pending with
    | none => rw [hp] at hq; exact ⟨_, _, rfl, hq⟩
    | some c => rw [hp] at hq; exact hq

/-- a function's contract inside a fence -/
theorem callsIn_body (hF : Wide F) (hro : F.round = none) {f : FuncId} {fn : Func} {c : Code} {args : Array Value} {R : Ending → World → Prop} (hf : P.funcs[f]? = some fn) (hb : fn.body = some c) (hn : fn.ntmps = n) (ha : args.size ≤ n)
    (h : X F P n (Body F P n fn R) c (fun t => args.getD t undef) [] w) : CallsIn F 0 P f args w R := by
  subst hn
  refine callsIn_of_wp_marks hf hb (hF.fn f) ?_ hro
  rw [fr_init _ _ ha]
  refine wpIn_mono h fun e a w ⟨ρ, ds, hfr, hq⟩ => ?_
  subst hfr
  cases e <;> exact hq
/-- inside a round, a function's contract is as outside -/
theorem callsIn_round {l : Nat} {f : FuncId} {args : Array Value} {R : Ending → World → Prop} (h : CallsIn F 0 P f args w R) : CallsIn (F.inRound l) 0 P f args w R := h
end
end XW

/- Maps, over XW: a map as the list of what it holds, in the order in which it came in. -/
namespace XW
open Go
set_option linter.unusedSimpArgs false
set_option linter.unusedVariables false

section lists
variable {κ β : Type} [DecidableEq κ]
def fidx : List κ → List Value → κ → Nat → Option (Nat × Value)
  | k' :: ks, v :: vs, k, i => if k' = k then some (i, v) else fidx ks vs k (i + 1)
  | _, _, _, _ => none

end lists

/-- block b is a map that holds es -/
def MapL {κ β : Type} (ek : κ → Value) (eb : β → Value) (W : World) (b : Nat) (es : List (κ × β)) : Prop :=
  ∃ (en : Array MapEntry) (clock : Nat), W.heap[b]? = some (.map en clock) ∧ en.toList.map (fun e => (e.key, e.val)) = es.map (fun p => (ek p.1, eb p.2))

structure KeyOk {κ : Type} [DecidableEq κ] (P : Program) (kt : TypeId) (ek : κ → Value) : Prop where
  check : ∀ (W : World) (b : Bool) (k : κ), (Instr.checkKey b 10000 kt (ek k)).run P W = .ok () W
  find : ∀ (W : World) (k : κ) (es : List MapEntry) (ks : List κ), es.map (·.key) = ks.map ek → (Instr.findKey kt (ek k) es).run P W = .ok (fidx ks (es.map (·.val)) k 0) W
  stays : ∀ (k : κ), Instr.sameBits 10000 (ek k) (ek k) = true

section
variable {κ β : Type} [DecidableEq κ]
end

section
variable {F : Fence} {P : Program} {n : Nat} {Q : Post} {ρ : Nat → Value} {ds : List Deferred} {w : World} {ops : Array Oper} {κ β : Type} [DecidableEq κ] {ek : κ → Value} {eb : β → Value}

theorem MapL.eq {κ β : Type} {ek : κ → Value} {eb : β → Value} {W W' : World} {b : Nat} {es : List (κ × β)} (h : MapL ek eb W b es) (he : W'.heap[b]? = W.heap[b]?) : MapL ek eb W' b es := by
  obtain ⟨en, clock, hb, hm⟩ := h
  exact ⟨en, clock, he.trans hb, hm⟩

end
end XW

/- Memory, over XW: every change of memory is a new block, or a block put anew. -/
namespace XW
open Go Go.RowKit
set_option linter.unusedSimpArgs false
set_option linter.unusedVariables false

/-- a value that one cell holds -/
def _root_.Go.Value.one1 : Value → Bool
  | .agg _ | .tuple _ => false
  | _ => true

/-- w' is w but for the blocks of S, and what is new -/
structure Chg (S : Nat → Prop) (w w' : World) : Prop where
  os : w'.os = w.os
  tape : w'.tape = w.tape
  output : w'.output = w.output
  size : w.heap.size ≤ w'.heap.size
  block : ∀ k, k < w.heap.size → ¬ S k → w'.heap[k]? = w.heap[k]?
section
variable {S S' : Nat → Prop} {w w' w'' : World}
theorem Chg.refl (S : Nat → Prop) (w : World) : Chg S w w := ⟨rfl, rfl, rfl, Nat.le_refl _, fun _ _ _ => rfl⟩
theorem Chg.trans (h : Chg S w w') (k : Chg S w' w'') : Chg S w w'' :=
  ⟨k.os.trans h.os, k.tape.trans h.tape, k.output.trans h.output, Nat.le_trans h.size k.size, fun i hi hs => (k.block i (Nat.lt_of_lt_of_le hi h.size) hs).trans (h.block i hi hs)⟩
theorem Chg.mono (h : Chg S w w') (hs : ∀ k, k < w.heap.size → S k → S' k) : Chg S' w w' := ⟨h.os, h.tape, h.output, h.size, fun k hk hn => h.block k hk fun h => hn (hs k hk h)⟩
theorem Chg.alloc (h : Chg S w w') (o : Obj) : Chg S w (w'.alloc o) :=
  h.trans ⟨rfl, rfl, rfl, by simp, fun k hk _ => Below.heap_alloc _ _ _ hk⟩
theorem Chg.put (h : Chg S w w') {b : Nat} (hb : S b ∨ w.heap.size ≤ b) (o : Obj) : Chg S w (w'.putObj b o) :=
  ⟨h.os, h.tape, h.output, by simp only [World.putObj, Array.size_setIfInBounds]; exact h.size, fun k hk hs => by
    rw [World.putObj_heap_other (fun e => by subst e; rcases hb with hb | hb; exact hs hb; omega)]
    exact h.block k hk hs⟩
theorem Chg.drewN (h : Chg S w w') (n : Nat) : Chg S w (w'.drewN n) := ⟨h.os, h.tape, h.output, h.size, h.block⟩
theorem Chg.get (h : Chg S w w') {k : Nat} {o : Obj} (hk : w.heap[k]? = some o) (hs : ¬ S k) : w'.heap[k]? = some o := (h.block k (Array.getElem?_eq_some_iff.1 hk).1 hs).trans hk
theorem Chg.below (h : Chg S w w') {B : Nat} (hB : B ≤ w.heap.size) (hS : ∀ k, S k → B ≤ k) : Below B w w' :=
  ⟨h.os, h.tape, h.output, h.size, fun k hk => h.block k (by omega) fun hs => by have := hS k hs; omega⟩
end

section
variable {w : World}
theorem get_lt {k : Nat} {o : Obj} (h : w.heap[k]? = some o) : k < w.heap.size := (Array.getElem?_eq_some_iff.1 h).1
theorem get_new (w : World) (o : Obj) : (w.alloc o).heap[w.heap.size]? = some o := World.alloc_heap_new w o
theorem get_put_same {k : Nat} {o : Obj} (h : w.heap[k]? = some o) (o' : Obj) : (w.putObj k o').heap[k]? = some o' := World.putObj_heap_same (get_lt h)
theorem size_alloc (w : World) (o : Obj) : (w.alloc o).heap.size = w.heap.size + 1 := by simp
theorem size_put (w : World) (b : Nat) (o : Obj) : (w.putObj b o).heap.size = w.heap.size := by simp [World.putObj]
theorem cell_of {b off : Nat} {cs : Array Value} {t : TypeId} {fz : Nat × Nat} {v : Value} (h : w.heap[b]? = some (.cells cs t fz)) (hv : cs[off]? = some v) : w.cell? ⟨b, off, none⟩ = some v := by simp [World.cell?, h, hv]
theorem add_plain (b off j : Nat) : (⟨b, off, none⟩ : Addr).add j = ⟨b, off + j, none⟩ := by
  unfold Addr.add; split
  · subst_vars; rfl
  · rfl
theorem setCell_put {b off : Nat} {cs : Array Value} {t : TypeId} {fz : Nat × Nat} (h : w.heap[b]? = some (.cells cs t fz)) (v : Value) : w.setCell ⟨b, off, none⟩ v = w.putObj b (.cells (cs.setIfInBounds off v) t fz) := by
  have hlt := get_lt h
  simp only [World.setCell, World.putObj]
  congr 1
  apply Array.ext
  · simp
  · intro i h1 h2
    simp only [Array.size_modify] at h1
    rw [Array.getElem_modify, Array.getElem_setIfInBounds (by simpa using h1)]
    by_cases e : b = i
    · subst e
      rw [if_pos rfl, if_pos rfl]
      have : w.heap[b] = .cells cs t fz := by simpa [Array.getElem?_eq_getElem hlt] using h
      rw [this]; simp
    · rw [if_neg e, if_neg e]
end

section
variable {F : Fence} {P : Program} {n : Nat} {Q : Post} {ρ : Nat → Value} {ds : List Deferred} {w : World} {ops : Array Oper}

theorem loadCells_run : ∀ (cs : List Value) (a : Addr) (i : Nat) (acc : Array Value), (∀ j u, cs[j]? = some u → w.cell? (a.add (i + j)) = some u) →
    (loadCellsFrom a i cs.length acc).run P w = .ok (acc ++ cs.toArray) w
  | [], a, i, acc, _ => by simp [loadCellsFrom]
  | v :: cs, a, i, acc, h => by
    have h0 := h 0 v rfl
    have ih := loadCells_run cs a (i + 1) (acc.push v) (fun j u hj => by have := h (j + 1) u hj; rwa [show i + 1 + j = i + (j + 1) by omega])
    simp only [List.length_cons, loadCellsFrom]
    rw [Sem.run_bind]
    simp only [load, Sem.run, Nat.add_zero] at h0 ⊢
    rw [h0]
    simp only [Sem.run, Result.andThen]
    rw [ih]
    simp
def aggType (d : TypeDesc) : Bool := match d with
  | .struct _ | .array _ _ => true
  | _ => false
theorem loads_agg {t : TypeId} {d : TypeDesc} {i : TypeInfo} {a : Addr} {cs : List Value} (hu : P.underlying t = some d) (hd : aggType d = true) (hi : P.info? t = some i) (hl : cs.length = i.size) (hc : ∀ j u, cs[j]? = some u → w.cell? (a.add j) = some u) : Loads P t w a (.agg cs.toArray) := by
  have hrun := loadCells_run (P := P) (w := w) cs a 0 #[] (fun j u hj => by rw [Nat.zero_add]; exact hc j u hj)
  unfold Loads loadVar isAgg
  cases d <;> simp_all [aggType, underlying, program, Go.sizeOf, typeInfo, loadCells, Sem.run_bind, Sem.run, Result.andThen]
/-- a whole block -/
theorem loads_block {t : TypeId} {d : TypeDesc} {i : TypeInfo} {b : Nat} {cs : Array Value} {fz : Nat × Nat} {t' : TypeId} (hu : P.underlying t = some d) (hd : aggType d = true) (hi : P.info? t = some i) (hb : w.heap[b]? = some (.cells cs t' fz)) (hl : cs.size = i.size) : Loads P t w ⟨b, 0, none⟩ (.agg cs) := by
  have := loads_agg (P := P) (w := w) (a := ⟨b, 0, none⟩) (cs := cs.toList) hu hd hi (by simpa using hl) (fun j u hj => by rw [add_plain, Nat.zero_add]; exact cell_of hb (by simpa using hj))
  simpa using this
theorem loads_cell {t : TypeId} {d : TypeDesc} {b off : Nat} {cs : Array Value} {v : Value} {fz : Nat × Nat} {t' : TypeId} (hu : P.underlying t = some d) (hd : oneCellType d = true) (hb : w.heap[b]? = some (.cells cs t' fz)) (hv : cs[off]? = some v) : Loads P t w ⟨b, off, none⟩ v := loads_one hu hd (cell_of hb hv)

theorem run_store_cell {a : Addr} {v : Value} {b : Nat} {cs : Array Value} {t : TypeId} (ha : a = ⟨b, a.off, none⟩) (h1 : v.one1 = true) (hb : w.heap[b]? = some (.cells cs t (0, 0))) (hoff : a.off < cs.size) :
    (store a v).run P w = .ok () (w.putObj b (.cells (cs.setIfInBounds a.off v) t (0, 0))) := by
  obtain ⟨ab, ao, asp⟩ := a
  simp only [Addr.mk.injEq, true_and] at ha
  obtain ⟨rfl, rfl⟩ := ha
  simp only at hoff
  have hc : w.cell? ⟨ab, ao, none⟩ = some cs[ao] := cell_of hb (Array.getElem?_eq_getElem hoff)
  have hf : w.frozen? ⟨ab, ao, none⟩ = false := by simp [World.frozen?, hb]
  have hs : w.setCell ⟨ab, ao, none⟩ v = w.putObj ab (.cells (cs.setIfInBounds ao v) t (0, 0)) := setCell_put hb v
  cases v <;> first | (cases h1; done) | (simp [store, Sem.run, hc, hf, hs])

theorem putObj_putObj {b : Nat} {o o' : Obj} : (w.putObj b o).putObj b o' = w.putObj b o' := by
  simp only [World.putObj]
  congr 1
  apply Array.ext
  · simp
  · intro i h1 h2
    simp only [Array.size_setIfInBounds] at h1
    rw [Array.getElem_setIfInBounds (by simpa using h1)]
    by_cases e : b = i
    · rw [if_pos e]; subst e; simp
    · rw [if_neg e, Array.getElem_setIfInBounds (by simpa using h1), if_neg e, Array.getElem_setIfInBounds (by simpa using h1), if_neg e]

/-- cells written over one another from a place on -/
def over (cs : Array Value) : List Value → Nat → Array Value
  | [], _ => cs
  | v :: vs, i => over (cs.setIfInBounds i v) vs (i + 1)
theorem over_size : ∀ (vs : List Value) (cs : Array Value) (i : Nat), (over cs vs i).size = cs.size
  | [], _, _ => rfl
  | v :: vs, cs, i => by simp [over, over_size vs]
theorem storeCells_run {b off : Nat} {t : TypeId} : ∀ (vs : List Value) (i : Nat) (cs : Array Value) (w : World), (∀ v ∈ vs, v.one1 = true) → w.heap[b]? = some (.cells cs t (0, 0)) → off + i + vs.length ≤ cs.size →
    (storeCells ⟨b, off, none⟩ vs i).run P w = .ok () (if vs = [] then w else w.putObj b (.cells (over cs vs (off + i)) t (0, 0)))
  | [], i, cs, w, _, _, _ => by simp [storeCells]
  | v :: vs, i, cs, w, h1, hb, hl => by
    simp only [List.length_cons] at hl
    simp only [storeCells]
    rw [Sem.run_bind, add_plain, run_store_cell rfl (h1 v (by simp)) hb (by simp; omega)]
    simp only [Result.andThen]
    rw [storeCells_run vs (i + 1) _ _ (fun u hu => h1 u (by simp [hu])) (get_put_same hb _) (by simp; omega)]
    by_cases e : vs = []
    · subst e; simp [over]
    · rw [if_neg e, if_neg (by simp), putObj_putObj]
      simp only [over]
      rw [show off + (i + 1) = off + i + 1 by omega]

theorem stores_at {t : TypeId} {i : TypeInfo} {b off : Nat} {cs : Array Value} {t' : TypeId} {v : Value} (hi : P.info? t = some i) (hl : v.cells.size = i.size) (hb : w.heap[b]? = some (.cells cs t' (0, 0))) (hoff : off + v.cells.size ≤ cs.size) (h1 : ∀ u ∈ v.cells.toList, u.one1 = true) (hne : v.cells.toList ≠ []) :
    Stores P t w ⟨b, off, none⟩ v (w.putObj b (.cells (over cs v.cells.toList off) t' (0, 0))) := by
  have := storeCells_run (P := P) (b := b) (off := off) (t := t') v.cells.toList 0 cs w h1 hb (by simpa using hoff)
  rw [if_neg hne, Nat.add_zero] at this
  unfold Stores storeVar
  simp only [Go.sizeOf, typeInfo, program, Sem.run_bind, Sem.run, hi, Result.andThen, Sem.run_pure, pure_bind, hl, ne_eq, not_true_eq_false, if_false]
  exact this
/-- one cell -/
theorem stores_cell {t : TypeId} {i : TypeInfo} {b off : Nat} {cs : Array Value} {t' : TypeId} {v : Value} (hi : P.info? t = some i) (hs : i.size = 1) (hv : v.cells = #[v]) (h1 : v.one1 = true) (hb : w.heap[b]? = some (.cells cs t' (0, 0))) (hoff : off < cs.size) :
    Stores P t w ⟨b, off, none⟩ v (w.putObj b (.cells (cs.setIfInBounds off v) t' (0, 0))) := by
  have := stores_at (P := P) (w := w) (t := t) (i := i) (b := b) (off := off) (cs := cs) (t' := t') (v := v) hi (by rw [hv, hs]; rfl) hb (by rw [hv]; exact hoff) (by rw [hv]; simpa using h1) (by rw [hv]; simp)
  simpa [hv, over] using this
/-- a block as a whole -/
theorem over_all (cs : Array Value) (vs : List Value) (h : vs.length = cs.size) : over cs vs 0 = vs.toArray := by
  have key : ∀ (vs : List Value) (cs : Array Value) (i : Nat), i + vs.length = cs.size → over cs vs i = (cs.toList.take i ++ vs).toArray := by
    intro vs
    induction vs with
    | nil => intro cs i h; simp only [List.length_nil, Nat.add_zero] at h; simp [over, h, ← Array.length_toList]
    | cons v vs ih =>
      intro cs i h
      simp only [over]
      rw [ih _ _ (by simp at h ⊢; omega)]
      congr 1
      simp only [List.length_cons] at h
      rw [Array.toList_setIfInBounds, List.take_succ_eq_append_getElem (by simp; omega)]
      simp [List.take_set_of_le]
  have := key vs cs 0 (by omega)
  simpa using this
theorem stores_block {t : TypeId} {i : TypeInfo} {b : Nat} {cs : Array Value} {t' : TypeId} {v : Value} (hi : P.info? t = some i) (hl : v.cells.size = i.size) (hcs : cs.size = i.size) (hb : w.heap[b]? = some (.cells cs t' (0, 0))) (h1 : ∀ u ∈ v.cells.toList, u.one1 = true) (h0 : i.size ≠ 0) :
    Stores P t w ⟨b, 0, none⟩ v (w.putObj b (.cells v.cells t' (0, 0))) := by
  have := stores_at (P := P) (w := w) (t := t) (i := i) (b := b) (off := 0) (cs := cs) (t' := t') (v := v) hi hl hb (by omega) h1 (by intro e; have := congrArg List.length e; simp at this; rw [this] at hl; simp at hl; omega)
  rwa [over_all _ _ (by simp; omega), Array.toArray_toList] at this

/-- &x.f -/
theorem XL_field (hF : Wide F) {dst : Option Tmp} {t ty : TypeId} {x : Operand} {j : Nat} {pos : String} {af : Array Edge} {rest : List Oper} {fs : Array Field} {f : Field} {i : TypeInfo} {b off : Nat}
    (hu : P.underlying t = some (.struct fs)) (hf : fs[j]? = some f) (hi : P.info? f.type = some i) (hs : i.size ≠ 0) (hx : xv n ρ x = .pointer (some ⟨b, off, none⟩))
    (h : XL F P n Q ops rest (updO ρ dst (.pointer (some ⟨b, off + f.offset, none⟩))) ds w) : XL F P n Q ops (⟨dst, .fieldAddr t x j, ty, pos, af, none⟩ :: rest) ρ ds w :=
  XL_gives hF rfl (by simp) (.inl (by
    simp [execOp, Instr.fieldAt, hx, Instr.sureAddr, underlying, program, hu, hf, fieldPlace, Go.sizeOf, typeInfo, hi, hs, add_plain, Sem.run_bind, Sem.run, Result.andThen])) h
theorem XL_fieldAdd (hF : Wide F) {dst : Option Tmp} {t ty : TypeId} {x : Operand} {j : Nat} {pos : String} {af : Array Edge} {rest : List Oper} {fs : Array Field} {f : Field} {i : TypeInfo} {a : Addr}
    (hu : P.underlying t = some (.struct fs)) (hf : fs[j]? = some f) (hi : P.info? f.type = some i) (hs : i.size ≠ 0) (hx : xv n ρ x = .pointer (some a))
    (h : XL F P n Q ops rest (updO ρ dst (.pointer (some (a.add f.offset)))) ds w) : XL F P n Q ops (⟨dst, .fieldAddr t x j, ty, pos, af, none⟩ :: rest) ρ ds w :=
  XL_gives hF rfl (by simp) (.inl (by
    simp [execOp, Instr.fieldAt, hx, Instr.sureAddr, underlying, program, hu, hf, fieldPlace, Go.sizeOf, typeInfo, hi, hs, Sem.run_bind, Sem.run, Result.andThen])) h
/-- x.f of a value -/
theorem XL_buildSlice (hF : Wide F) {dst : Option Tmp} {t e ty : TypeId} {m : Nat} {parts : Array (Nat × Operand)} {pos : String} {af : Array Edge} {rest : List Oper} {v : Value} {w' : World}
    (hr : (Instr.buildSlice t m (parts.map fun (i, x) => (i, xv n ρ x))).run P w = .ok v w') (h : XL F P n Q ops rest (updO ρ dst v) ds w') : XL F P n Q ops (⟨dst, .buildSlice t m parts, ty, pos, af, none⟩ :: rest) ρ ds w :=
  XL_gives hF rfl (by simp) (.inl (by simp only [execOp]; rw [Sem.run_bind, hr]; rfl)) h
end
end XW

/- A region that draws its order of evaluation, by an invariant over what has been done: for the calculus in a fence. -/
namespace RegInv
open Go

def upb (b : Nat → Bool) (i : Nat) : Nat → Bool := fun j => if j = i then true else b j
theorem upb_self (b : Nat → Bool) (i : Nat) : upb b i i = true := by simp [upb]
theorem upb_ne {b : Nat → Bool} {i j : Nat} (h : j ≠ i) : upb b i j = b j := by simp [upb, h]
theorem upb_or {b : Nat → Bool} {i j : Nat} (h : upb b i j = true) : j = i ∨ (j ≠ i ∧ b j = true) := by
  by_cases e : j = i
  · exact .inl e
  · exact .inr ⟨e, by rwa [upb_ne e] at h⟩

/-- what operation i waits for -/
def deps (ops : Array Oper) (i : Nat) : List Nat := match ops[i]? with
  | none => []
  | some o => (o.after.toList.filter (fun e => Region.binds .any e)).map (fun e => e.on)
def ordered (ops : Array Oper) : Bool := (List.range ops.size).all fun i => (deps ops i).all fun j => decide (j < i)

section
variable {F : Fence} {n : Nat} {P : Program} {ops : Array Oper} {Q : Exit → Act → World → Prop}

theorem ready_spec {listed : Array Bool} {i : Nat} (h : i ∈ Region.ready .any ops listed) : i < ops.size ∧ listed.getD i true = false ∧ ∀ j ∈ deps ops i, listed.getD j false = true := by
  simp only [Region.ready, List.mem_filter, List.mem_range, Bool.and_eq_true, Bool.not_eq_true'] at h
  obtain ⟨hi, hl, hd⟩ := h
  refine ⟨hi, hl, ?_⟩
  intro j hj
  simp only [deps] at hj
  rw [Array.getElem?_eq_getElem hi] at hj hd
  simp only [Option.map_some, Option.getD_some, Array.all_eq_true_iff_forall_mem, Bool.or_eq_true, Bool.not_eq_true'] at hd
  simp only [List.mem_map, List.mem_filter] at hj
  obtain ⟨e, ⟨he, hb⟩, rfl⟩ := hj
  rcases hd e (Array.mem_toList_iff.1 he) with h | h
  · rw [h] at hb; cases hb
  · exact h

theorem ready_nil {listed : Array Bool} (ho : ordered ops = true) (hs : listed.size = ops.size) (h : Region.ready .any ops listed = []) : ∀ i, i < ops.size → listed.getD i true = true := by
  intro i
  induction i using Nat.strongRecOn with
  | _ i ih =>
    intro hi
    cases hl : listed.getD i true with
    | true => rfl
    | false =>
      exfalso
      have : i ∈ Region.ready .any ops listed := by
        simp only [Region.ready, List.mem_filter, List.mem_range, Bool.and_eq_true, Bool.not_eq_true']
        refine ⟨hi, hl, ?_⟩
        rw [Array.getElem?_eq_getElem hi]
        simp only [Option.map_some, Option.getD_some, Array.all_eq_true_iff_forall_mem, Bool.or_eq_true, Bool.not_eq_true']
        intro e he
        cases hb : Region.binds .any e with
        | false => exact .inl rfl
        | true =>
          right
          have hlt : e.on < i := by
            have := List.all_eq_true.1 ho i (List.mem_range.2 hi)
            have := List.all_eq_true.1 this e.on (by
              simp only [deps, Array.getElem?_eq_getElem hi, List.mem_map, List.mem_filter]
              exact ⟨e, ⟨Array.mem_toList_iff.2 he, hb⟩, rfl⟩)
            simpa using this
          have h2 := ih e.on hlt (by omega)
          have h3 : e.on < listed.size := by omega
          rw [Array.getD_eq_getD_getElem?, Array.getElem?_eq_getElem h3] at h2 ⊢
          exact h2
      rw [h] at this
      cases this

theorem anyIn_inv (ho : ordered ops = true) (I : (Nat → Bool) → Act → World → Prop)
    (hstep : ∀ i, i < ops.size → ∀ b a w, I b a w → b i = false → (∀ j ∈ deps ops i, b j = true) → wpOpIn F n P ops Q i (fun a' w' => I (upb b i) a' w') a w)
    (hend : ∀ b a w, (∀ i, i < ops.size → b i = true) → I b a w → Q .normal a w) :
    ∀ (fuel : Nat) (listed : Array Bool) (b : Nat → Bool) (a : Act) (w : World), listed.size = ops.size → (∀ i, i < ops.size → listed.getD i true = b i) →
      ((List.range ops.size).filter fun i => !b i).length ≤ fuel → I b a w → wpAnyIn F n P .any ops Q fuel listed a w := by
  intro fuel
  induction fuel with
  | zero =>
    intro listed b a w hs hb hf hI
    have hall : ∀ i, i < ops.size → b i = true := by
      intro i hi
      cases hbi : b i with
      | true => rfl
      | false =>
        have : i ∈ (List.range ops.size).filter fun i => !b i := by simp [hi, hbi]
        rw [List.length_eq_zero_iff.1 (Nat.le_zero.1 hf)] at this
        cases this
    refine ⟨?_, hend b a w hall hI⟩
    apply List.eq_nil_iff_forall_not_mem.2
    intro i hi
    obtain ⟨h1, h2, _⟩ := ready_spec hi
    rw [hb i h1, hall i h1] at h2
    cases h2
  | succ fuel ih =>
    intro listed b a w hs hb hf hI
    refine ⟨fun h => hend b a w (fun i hi => by rw [← hb i hi]; exact ready_nil ho hs h i hi) hI, ?_⟩
    intro i hi
    obtain ⟨h1, h2, h3⟩ := ready_spec hi
    have hbi : b i = false := by rw [← hb i h1]; exact h2
    refine wpOpIn_mono ?_ (hstep i h1 b a w hI hbi (fun j hj => ?_))
    · intro a' w' hI'
      refine ih (listed.setIfInBounds i true) (upb b i) a' w' (by simpa using hs) ?_ ?_ hI'
      · intro j hj
        by_cases e : j = i
        · subst e
          rw [upb_self, Array.getD_eq_getD_getElem?, Array.getElem?_setIfInBounds_self_of_lt (by omega)]; rfl
        · rw [upb_ne e, ← hb j hj, Array.getD_eq_getD_getElem?, Array.getD_eq_getD_getElem?, Array.getElem?_setIfInBounds_ne (fun h => e h.symm)]
      · have key : ∀ (l : List Nat), l.Nodup → i ∈ l → (l.filter fun j => !upb b i j).length + 1 = (l.filter fun j => !b j).length := by
          intro l
          induction l with
          | nil => intro _ h; cases h
          | cons x l ihl =>
            intro hn hm
            have hn' := List.nodup_cons.1 hn
            by_cases e : x = i
            · subst e
              have : (l.filter fun j => !upb b x j) = l.filter fun j => !b j := by
                apply List.filter_congr
                intro j hj
                rw [upb_ne (fun h : j = x => hn'.1 (h ▸ hj))]
              simp [upb_self, hbi, this]
            · have hm' : i ∈ l := by rcases List.mem_cons.1 hm with h | h
                                     · exact absurd h.symm e
                                     · exact h
              have := ihl hn'.2 hm'
              simp only [List.filter_cons, upb_ne e]
              split
              · simp only [List.length_cons]; omega
              · exact this
        have := key (List.range ops.size) List.nodup_range (List.mem_range.2 h1)
        omega
    · have hlt : j < i := by
        have := List.all_eq_true.1 ho i (List.mem_range.2 h1)
        simpa using List.all_eq_true.1 this j hj
      rw [← hb j (by omega)]
      have h4 := h3 j hj
      have h5 : j < listed.size := by omega
      rw [Array.getD_eq_getD_getElem?, Array.getElem?_eq_getElem h5] at h4 ⊢
      exact h4

/-- THE RULE. -/
theorem region_inv {id : Nat} {a : Act} {w : World} (hm : P.follows .mixedOrders = true) (ho : ordered ops = true) (I : (Nat → Bool) → Act → World → Prop)
    (h0 : I (fun _ => false) a { w with drawn := w.drawn + 1 })
    (hstep : ∀ i, i < ops.size → ∀ b a w, I b a w → b i = false → (∀ j ∈ deps ops i, b j = true) → wpOpIn F n P ops Q i (fun a' w' => I (upb b i) a' w') a w)
    (hend : ∀ b a w, (∀ i, i < ops.size → b i = true) → I b a w → Q .normal a w) : (Code.region id ops true).wpIn F n P Q a w := by
  refine wpIn_region_any hm (anyIn_inv ho I hstep hend ops.size _ (fun _ => false) a _ (by simp) ?_ ?_ h0)
  · intro i hi
    rw [Array.getD_eq_getD_getElem?, Array.getElem?_replicate, if_pos hi]; rfl
  · have := List.length_filter_le (fun i : Nat => !(fun _ => false) i) (List.range ops.size)
    simpa using this
end
end RegInv

/- Regions that draw their order, over XW; marks at a function's end. -/
namespace XW
open Go Go.RowKit RegInv
set_option linter.unusedSimpArgs false
set_option linter.unusedVariables false

section
variable {F : Fence} {P : Program} {n : Nat} {Q : Post} {ρ : Nat → Value} {ds : List Deferred} {w : World} {ops : Array Oper}

/-- only chance was drawn -/
def Drew (w w' : World) : Prop := ∃ n, w' = w.drewN n
theorem Drew.refl (w : World) : Drew w w := ⟨0, rfl⟩
theorem Drew.trans {a b c : World} : Drew a b → Drew b c → Drew a c := by
  rintro ⟨n, rfl⟩ ⟨m, rfl⟩
  exact ⟨n + m, by simp [World.drewN, Nat.add_assoc]⟩
theorem Drew.heap {w w' : World} (h : Drew w w') : w'.heap = w.heap := by obtain ⟨n, rfl⟩ := h; rfl
/-- a region whose operations only compute: operation i writes val i to the slot dst i -/
structure PR (ρ0 : Nat → Value) (ds0 : List Deferred) (w0 : World) (m : Nat) (dst : Nat → Nat) (val : Nat → Value) (b : Nat → Bool) (ρ : Nat → Value) (ds : List Deferred) (w : World) : Prop where
  dse : ds = ds0
  drawn : Drew w0 w
  val : ∀ i, i < m → b i = true → ρ (dst i) = val i
  keep : ∀ t, (∀ i, i < m → dst i ≠ t) → ρ t = ρ0 t
theorem PR.start (ρ0 : Nat → Value) (ds0 : List Deferred) {w0 w : World} (m : Nat) (dst : Nat → Nat) (val : Nat → Value) (h : Drew w0 w) : PR ρ0 ds0 w0 m dst val (fun _ => false) ρ0 ds0 w := ⟨rfl, h, fun _ _ h => (by cases h), fun _ _ => rfl⟩
theorem PR.step {ρ0 : Nat → Value} {ds0 : List Deferred} {w0 w w' : World} {m : Nat} {dst : Nat → Nat} {val : Nat → Value} {b : Nat → Bool} (h : PR ρ0 ds0 w0 m dst val b ρ ds w) (hinj : ∀ i, i < m → ∀ j, j < m → dst i = dst j → i = j) {i : Nat} (hi : i < m) (hd : Drew w w') :
    PR ρ0 ds0 w0 m dst val (upb b i) (upd ρ (dst i) (val i)) ds w' := by
  refine ⟨h.dse, h.drawn.trans hd, ?_, ?_⟩
  · intro j hj hb
    by_cases e : j = i
    · subst e; simp [upd]
    · rw [upb_ne e] at hb
      have : dst j ≠ dst i := fun e' => e (hinj j hj i hi e')
      simp only [upd]; rw [if_neg this]; exact h.val j hj hb
  · intro t ht
    have : t ≠ dst i := fun e => ht i hi e.symm
    simp only [upd]; rw [if_neg this]; exact h.keep t ht

/-- the mark of a range over a function -/
def mk (D : Nat) : Deferred := { target := .collected D, args := #[] }
end
end XW

/- Own rows, over XW: append to a slice of one's own. -/
namespace XW
open Go Go.RowKit
set_option linter.unusedSimpArgs false
set_option linter.unusedVariables false

section
variable {F : Fence} {P : Program} {n : Nat} {Q : Post} {ρ : Nat → Value} {ds : List Deferred} {w : World} {ops : Array Oper}

theorem one_cell {u : Value} (h : u.one1 = true) : u.oneCell' = true := by cases u <;> first | rfl | cases h

/-- append, with where the row lies behind it -/
theorem run_app (base : Nat) (t ty e : TypeId) (i : TypeInfo) (z : Value) (ht : P.underlying t = some (.slice e)) (hi : P.info? e = some i) (hz : i.zero = some z) (hzs : z.cells.size = i.size) (hsz : 0 < i.size)
    (v : Value) (k : Nat) (xs : List Value) (hown : w.ownsRow base e i.size v k xs) (a : Addr) (m c : Nat) (news : List Value) (hl : news.length = m * i.size) (hnews : ∀ j u, news[j]? = some u → w.cell? (a.add j) = some u) (h1 : ∀ u ∈ news, u.oneCell' = true)
    (h63 : k + m ≤ maxLen) (hbytes : (k + m) * i.bytes ≤ 140737488355328) (hbase : base ≤ w.heap.size) :
    ∃ v' w', (Builtin.append_ #[t, t] ty #[v, .slice (some a) m c]).run P w = .ok v' w' ∧ w'.ownsRow base e i.size v' (k + m) (xs ++ news) ∧ w.grownBy w' v.ownBlock ∧ (v'.ownBlock = v.ownBlock ∨ v'.ownBlock = some w.heap.size) := by
  obtain ⟨v', w', hr, h2, h3, h4⟩ := run_append_own (P := P) w base t ty e i z i.size i.bytes ht hi hz rfl rfl hzs hsz v k xs hown a m c news hl hnews h1 h63 hbytes hbase
  refine ⟨v', w', hr, h2, h3, ?_⟩
  have hmx : maxLen ≤ 9223372036854775807 := by decide
  have hinj : ∀ {v1 : Value} {w1 : World}, (Builtin.append_ #[t, t] ty #[v, .slice (some a) m c]).run P w = .ok v1 w1 → v' = v1 := by
    intro v1 w1 h'
    have := hr.symm.trans h'
    cases this; rfl
  have hown2 := hown.2
  rcases hown2 with ⟨rfl, rfl⟩ | ⟨g, cap, cur, rfl, hbg, hg, hnc, hcm, hcs, htake⟩
  · by_cases hm : m = 0
    · have := h4.2 ⟨rfl, hm⟩
      exact .inl (by rw [this])
    · have hr' := run_append_nil (P := P) w t ty e i z ht hi hz a m c news hl hnews (by omega) (by omega) (by have hb := hbytes; simp only [Nat.zero_add] at hb; omega)
      rw [hinj hr']; exact .inr rfl
  · by_cases hroom : k + m ≤ cap
    · have hfit : k * i.size + news.length ≤ cur.size := by rw [hl, hcs, ← Nat.add_mul]; exact Nat.mul_le_mul_right _ hroom
      have hr' := run_append_room (P := P) w t ty e i ht hi g k cap cur hg a m c news hl hnews h1 hroom hfit
      rw [hinj hr']; exact .inl rfl
    · have holds : ∀ j u, xs[j]? = some u → w.cell? ((⟨g, 0, none⟩ : Addr).add j) = some u := hown.cells (g := g) rfl
      have hr' := run_append_grow (P := P) w t ty e i z ht hi hz ⟨g, 0, none⟩ k cap xs hown.1 holds a m c news hl hnews (by omega) (by omega) (growslice_fits (by omega) hbytes)
      rw [hinj hr']; exact .inr rfl

/-- what an append leaves: the row, and all other blocks as they were -/
structure App (base : Nat) (e : TypeId) (size : Nat) (v : Value) (w : World) (v' : Value) (w' : World) (k : Nat) (xs : List Value) : Prop where
  row : w'.ownsRow base e size v' k xs
  chg : Chg (fun b => v.ownBlock = some b) w w'
  place : v'.ownBlock = v.ownBlock ∨ v'.ownBlock = some w.heap.size

theorem XL_append (hF : Wide F) {dst : Option Tmp} {t e ty : TypeId} {s x : Operand} {pos : String} {af : Array Edge} {rest : List Oper} {i : TypeInfo} {z : Value} {base : Nat} {v : Value} {k : Nat} {xs news : List Value} {a : Addr} {m c : Nat}
    (hu : P.underlying t = some (.slice e)) (hi : P.info? e = some i) (hz : i.zero = some z) (hzs : z.cells.size = i.size) (hsz : 0 < i.size)
    (hown : w.ownsRow base e i.size v k xs) (hb : base ≤ w.heap.size) (hs : xv n ρ s = v) (hx : xv n ρ x = .slice (some a) m c) (hl : news.length = m * i.size) (hnews : ∀ j u, news[j]? = some u → w.cell? (a.add j) = some u) (h1 : ∀ u ∈ news, u.oneCell' = true)
    (h63 : k + m ≤ maxLen) (hbytes : (k + m) * i.bytes ≤ 140737488355328)
    (h : ∀ v' w', App base e i.size v w v' w' (k + m) (xs ++ news) → XL F P n Q ops rest (updO ρ dst v') ds w') :
    XL F P n Q ops (⟨dst, .call { callee := .builtin .append, args := #[s, x], argTypes := #[t, t] }, ty, pos, af, none⟩ :: rest) ρ ds w := by
  obtain ⟨v', w', hr, h2, h3, h4⟩ := run_app (P := P) (w := w) base t ty e i z hu hi hz hzs hsz v k xs hown a m c news hl hnews h1 h63 hbytes hb
  refine XL_gives hF rfl (by simp) (.inl ?_) (h v' w' ⟨h2, ⟨h3.os, h3.tape, h3.output, h3.size, fun k hk hn => h3.block k hk (fun e => hn e.symm)⟩, h4⟩)
  simp [execOp, resolve, invoke, builtin, hs, hx, hr, Sem.run_bind, Sem.run_pure, Result.andThen]

theorem ownsRow_lt {w : World} {base : Nat} {e : TypeId} {size : Nat} {v : Value} {k : Nat} {xs : List Value} (h : w.ownsRow base e size v k xs) {b : Nat} (hb : v.ownBlock = some b) : base ≤ b ∧ b < w.heap.size := h.lt b hb
theorem XL_max (hF : Wide F) {dst : Option Tmp} {ty : TypeId} {x y : Operand} {ats : Array TypeId} {pos : String} {af : Array Edge} {rest : List Oper} {k : IntKind} {a b : Int} (hx : xv n ρ x = .int k a) (hy : xv n ρ y = .int k b)
    (h : XL F P n Q ops rest (updO ρ dst (.int k (if a < b then b else a))) ds w) : XL F P n Q ops (⟨dst, .call { callee := .builtin .max, args := #[x, y], argTypes := ats }, ty, pos, af, none⟩ :: rest) ρ ds w :=
  XL_gives hF rfl (by simp) (.inl (by simp [execOp, resolve, invoke, builtin, Builtin.max_, Builtin.max2, hx, hy, Sem.run_bind, Sem.run, Result.andThen])) h
theorem XL_min (hF : Wide F) {dst : Option Tmp} {ty : TypeId} {x y : Operand} {ats : Array TypeId} {pos : String} {af : Array Edge} {rest : List Oper} {k : IntKind} {a b : Int} (hx : xv n ρ x = .int k a) (hy : xv n ρ y = .int k b)
    (h : XL F P n Q ops rest (updO ρ dst (.int k (if b < a then b else a))) ds w) : XL F P n Q ops (⟨dst, .call { callee := .builtin .min, args := #[x, y], argTypes := ats }, ty, pos, af, none⟩ :: rest) ρ ds w :=
  XL_gives hF rfl (by simp) (.inl (by simp [execOp, resolve, invoke, builtin, Builtin.min_, Builtin.min2, hx, hy, Sem.run_bind, Sem.run, Result.andThen])) h
end
end XW

/- Pairs of ints as keys, over XMap. -/
namespace XW
open Go
set_option linter.unusedSimpArgs false
set_option linter.unusedVariables false

def epair (k : Int × Int) : Value := .agg #[.int .i64 k.1, .int .i64 k.2]
section
variable {P : Program} {W : World}
theorem run_part_pair {e : TypeId} {i : TypeInfo} (hu : P.underlying e = some (.int .i64)) (hi : P.info? e = some i) (hs : i.size = 1) (a b : Int) : (part e #[.int .i64 a, .int .i64 b] 0).run P W = .ok (.int .i64 a) W ∧ (part e #[.int .i64 a, .int .i64 b] 1).run P W = .ok (.int .i64 b) W := by
  constructor <;> simp [part, isAgg, underlying, program, hu, Go.sizeOf, typeInfo, hi, hs, Sem.run_bind, Sem.run, Result.andThen]
theorem run_eqInt {e : TypeId} (hu : P.underlying e = some (.int .i64)) (a b : Int) (d : Nat) : (Op.equalIn (d + 1) e (.int .i64 a) (.int .i64 b)).run P W = .ok (a == b) W := by
  unfold Op.equalIn
  simp [underlying, program, hu, Sem.run_bind, Sem.run, Result.andThen]
theorem run_eqPair {t e : TypeId} {i : TypeInfo} (ht : P.underlying t = some (.array 2 e)) (hu : P.underlying e = some (.int .i64)) (hi : P.info? e = some i) (hs : i.size = 1) (k k' : Int × Int) : (Op.equal t (epair k) (epair k')).run P W = .ok (k == k') W := by
  obtain ⟨a, b⟩ := k
  obtain ⟨c, d⟩ := k'
  have h1 := fun (a b : Int) => run_part_pair (P := P) (W := W) hu hi hs a b
  have h2 := fun (a b : Int) (d : Nat) => run_eqInt (P := P) (W := W) hu a b d
  have hm : Op.maxDepth = 9998 + 1 + 1 := rfl
  unfold Op.equal
  rw [hm]
  unfold Op.equalIn
  simp only [epair]
  simp [underlying, program, ht, Go.sizeOf, typeInfo, hi, hs, Sem.run_bind, Sem.run, Result.andThen, Std.Legacy.Range.forIn_eq_forIn_range', Std.Legacy.Range.size, List.range', h1, h2]
  by_cases e1 : a = c <;> by_cases e2 : b = d <;> simp [e1, e2, h1, h2, Sem.run_bind, Sem.run, Result.andThen]

end
section
variable {F : Fence} {P : Program} {n : Nat} {Q : Post} {ρ : Nat → Value} {ds : List Deferred} {w : World} {ops : Array Oper}
theorem run_buildPair {t e : TypeId} {i j : TypeInfo} (ht : P.underlying t = some (.array 2 e)) (hj : P.info? t = some j) (hz : j.zero = some (.agg #[.int .i64 0, .int .i64 0])) (hi : P.info? e = some i) (hs : i.size = 1) (a b : Int) :
    (Instr.build t #[(0, .int .i64 a), (1, .int .i64 b)]).run P w = .ok (epair (a, b)) w := by
  simp [Instr.build, underlying, program, ht, Go.sizeOf, typeInfo, hi, hs, hj, hz, zeroValue, Value.cells, Instr.fill, epair, Sem.run_bind, Sem.run, Result.andThen]
theorem XL_buildPair (hF : Wide F) {dst : Option Tmp} {t e ty : TypeId} {i j : TypeInfo} {x y : Operand} {pos : String} {af : Array Edge} {rest : List Oper} (ht : P.underlying t = some (.array 2 e)) (hj : P.info? t = some j) (hz : j.zero = some (.agg #[.int .i64 0, .int .i64 0])) (hi : P.info? e = some i) (hs : i.size = 1) {a b : Int}
    (hx : xv n ρ x = .int .i64 a) (hy : xv n ρ y = .int .i64 b) (h : XL F P n Q ops rest (updO ρ dst (epair (a, b))) ds w) : XL F P n Q ops (⟨dst, .build t #[(0, x), (1, y)], ty, pos, af, none⟩ :: rest) ρ ds w :=
  XL_gives hF rfl (by simp) (.inl (by
    have := run_buildPair (P := P) (w := w) ht hj hz hi hs a b
    simp only [execOp, List.map_toArray, List.map_cons, List.map_nil, hx, hy]
    rw [Sem.run_bind, this]; rfl)) h
theorem XL_indexArr (hF : Wide F) {dst : Option Tmp} {t e ty : TypeId} {m : Nat} {x y : Operand} {pos : String} {af : Array Edge} {rest : List Oper} {a : Addr} {k : IntKind} {i : Nat} {inf : TypeInfo}
    (hu : P.underlying t = some (.array m e)) (hi : P.info? e = some inf) (hs : inf.size ≠ 0) (hx : xv n ρ x = .pointer (some a)) (hy : xv n ρ y = .int k i) (h1 : i < m)
    (h : XL F P n Q ops rest (updO ρ dst (.pointer (some (a.add (i * inf.size))))) ds w) : XL F P n Q ops (⟨dst, .indexAddr t x y, ty, pos, af, none⟩ :: rest) ρ ds w :=
  XL_gives hF rfl (by simp) (.inl (by
    simp [execOp, Instr.indexAt, Instr.sureAddr, hx, hy, asIntOf, underlying, program, hu, Go.sizeOf, typeInfo, hi, hs, h1, Sem.run_bind, Sem.run, Result.andThen])) h
end
end XW

/- Ranges over maps, over XMap: an order that nobody knows. -/
namespace XW
open Go
set_option linter.unusedSimpArgs false
set_option linter.unusedVariables false

section
variable {F : Fence} {P : Program} {n : Nat} {Q : Post} {ρ : Nat → Value} {ds : List Deferred} {w : World} {ops : Array Oper} {κ β : Type} {ek : κ → Value} {eb : β → Value}

/-- what is told of entries' births -/
def Births (en : Array MapEntry) (clock : Nat) : Prop := (en.toList.map (·.born)).Nodup ∧ ∀ e ∈ en.toList, e.born < clock
/-- block b is a map that holds es, each entry with its own birth -/
def MapB (ek : κ → Value) (eb : β → Value) (W : World) (b : Nat) (es : List (κ × β)) : Prop :=
  ∃ (en : Array MapEntry) (clock : Nat), W.heap[b]? = some (.map en clock) ∧ en.toList.map (fun e => (e.key, e.val)) = es.map (fun p => (ek p.1, eb p.2)) ∧ Births en clock
theorem MapB.eq {W W' : World} {b : Nat} {es : List (κ × β)} (h : MapB ek eb W b es) (he : W'.heap[b]? = W.heap[b]?) : MapB ek eb W' b es := by
  obtain ⟨en, clock, hb, hm⟩ := h
  exact ⟨en, clock, he.trans hb, hm⟩
theorem MapB.lt {W : World} {b : Nat} {es : List (κ × β)} (h : MapB ek eb W b es) : b < W.heap.size := by
  obtain ⟨en, clock, hb, _⟩ := h
  exact get_lt hb
theorem MapB.chg {W W' : World} {b : Nat} {es : List (κ × β)} {S : Nat → Prop} (h : MapB ek eb W b es) (hc : Chg S W W') (hs : ¬ S b) : MapB ek eb W' b es := h.eq (hc.block b h.lt hs)
/-! ### the range -/
/-- what is left of a range over the map b, by the iterator r -/
def MapIt (ek : κ → Value) (eb : β → Value) (W : World) (b r : Nat) (left : List (κ × β)) : Prop :=
  ∃ (en : Array MapEntry) (clock since : Nat) (seen : Array Nat) (c0 : Nat), W.heap[b]? = some (.map en clock) ∧ W.heap[r]? = some (.mapIter (some b) since seen c0) ∧ (en.toList.map (·.born)).Nodup ∧ (∀ e ∈ en.toList, e.born < since) ∧ since ≤ c0 ∧ since ≤ clock ∧
    (leftOf en seen).toList.map (fun e => (e.key, e.val)) = left.map (fun p => (ek p.1, eb p.2))
/-- the entry that is at hand -/
def MapAt (ek : κ → Value) (eb : β → Value) (W : World) (b r : Nat) (k : κ) (v : β) : Prop :=
  ∃ (en : Array MapEntry) (clock since : Nat) (seen : Array Nat) (e : MapEntry), W.heap[b]? = some (.map en clock) ∧ W.heap[r]? = some (.mapIter (some b) since (seen.push e.born) clock) ∧ (en.toList.map (·.born)).Nodup ∧ e ∈ en.toList ∧ e.key = ek k ∧ e.val = eb v
theorem MapIt.lt {W : World} {b r : Nat} {left : List (κ × β)} (h : MapIt ek eb W b r left) : b < W.heap.size ∧ r < W.heap.size ∧ b ≠ r := by
  obtain ⟨en, clock, since, seen, c0, h1, h2, _⟩ := h
  exact ⟨get_lt h1, get_lt h2, fun e => by subst e; rw [h1] at h2; cases h2⟩
theorem MapIt.chg {W W' : World} {b r : Nat} {left : List (κ × β)} {S : Nat → Prop} (h : MapIt ek eb W b r left) (hc : Chg S W W') (hb : ¬ S b) (hr : ¬ S r) : MapIt ek eb W' b r left := by
  obtain ⟨hb', hr', _⟩ := h.lt
  obtain ⟨en, clock, since, seen, c0, h1, h2, h3⟩ := h
  exact ⟨en, clock, since, seen, c0, (hc.block b hb' hb).trans h1, (hc.block r hr' hr).trans h2, h3⟩
theorem MapAt.chg {W W' : World} {b r : Nat} {k : κ} {v : β} {S : Nat → Prop} (h : MapAt ek eb W b r k v) (hc : Chg S W W') (hb : ¬ S b) (hr : ¬ S r) : MapAt ek eb W' b r k v := by
  obtain ⟨en, clock, since, seen, e, h1, h2, h3⟩ := h
  exact ⟨en, clock, since, seen, e, hc.get h1 hb, hc.get h2 hr, h3⟩

end
end XW

/- What memory of a call's own holds, as a list of holdings apart from one another: over XW. -/
namespace XW
open Go Go.RowKit
set_option linter.unusedSimpArgs false
set_option linter.unusedVariables false
set_option linter.unusedSectionVars false

/-- a row's cells, and what lies behind them -/
def buf {α : Type} (enc : α → List Value) (l : List α) (junk : List Value) : Array Value := (l.flatMap enc ++ junk).toArray
/-- a row of the call's own as a value -/
def rowV (A : Option Nat) (k c : Nat) : Value := .slice (A.map fun b => ⟨b, 0, none⟩) k c

inductive Res : Type 1 where
  | obj (b : Nat) (o : Obj)
  | row {α : Type} (e sz : Nat) (enc : α → List Value) (A : Option Nat) (c : Nat) (l : List α)
  | gen (fp : Nat → Prop) (ok : Nat → World → Prop) (loc : ∀ B w w', ok B w → (∀ k, fp k → w'.heap[k]? = w.heap[k]?) → ok B w') (low : ∀ B B' w, B' ≤ B → ok B w → ok B' w)

def Res.fp : Res → Nat → Prop
  | .obj b _ => fun k => k = b
  | .row _ _ _ A _ _ => fun k => A = some k
  | .gen fp _ _ _ => fp
def RowOk {α : Type} (e sz : Nat) (enc : α → List Value) (A : Option Nat) (c : Nat) (l : List α) (w : World) : Prop :=
  (∀ x, (enc x).length = sz) ∧ l.length ≤ c ∧ c ≤ maxLen ∧ match A with
    | none => l = [] ∧ c = 0
    | some b => ∃ junk, w.heap[b]? = some (.cells (buf enc l junk) e (0, 0)) ∧ l.length * sz + junk.length = c * sz
def Res.ok (B : Nat) : Res → World → Prop
  | .obj b o => fun w => w.heap[b]? = some o
  | .row e sz enc A c l => RowOk e sz enc A c l
  | .gen _ ok _ _ => ok B
theorem Res.loc {B : Nat} {r : Res} {w w' : World} (h : r.ok B w) (hk : ∀ k, r.fp k → w'.heap[k]? = w.heap[k]?) : r.ok B w' := by
  cases r with
  | obj b o => exact (hk b rfl).trans h
  | row e sz enc A c l =>
    obtain ⟨h1, h2, h3, h4⟩ := h
    refine ⟨h1, h2, h3, ?_⟩
    cases A with
    | none => exact h4
    | some b =>
      obtain ⟨junk, hb, hl⟩ := h4
      exact ⟨junk, (hk b rfl).trans hb, hl⟩
  | gen fp ok loc low => exact loc B w w' h hk

theorem Res.low {B B' : Nat} {r : Res} {w : World} (h : r.ok B w) (hB : B' ≤ B) : r.ok B' w := by
  cases r with
  | obj b o => exact h
  | row e sz enc A c l => exact h
  | gen fp ok loc low => exact low B B' w hB h

/-- w: nothing that lay in base has turned; the call's own memory is as R tells -/
structure Mem (base w : World) (R : List Res) : Prop where
  below : Below base.heap.size base w
  ok : ∀ r ∈ R, r.ok base.heap.size w
  bd : ∀ r ∈ R, ∀ k, r.fp k → base.heap.size ≤ k ∧ k < w.heap.size
  sep : R.Pairwise (fun r r' => ∀ k, r.fp k → ¬ r'.fp k)

section
variable {base w w' : World} {R R' : List Res}
theorem Mem.start (w : World) : Mem w w [] := ⟨Below.refl _ _, fun _ h => (by cases h), fun _ h => (by cases h), List.Pairwise.nil⟩
theorem Mem.size (h : Mem base w R) : base.heap.size ≤ w.heap.size := h.below.size
theorem Mem.sub (h : Mem base w R) (hs : R'.Sublist R) : Mem base w R' := ⟨h.below, fun r hr => h.ok r (hs.subset hr), fun r hr => h.bd r (hs.subset hr), h.sep.sublist hs⟩
theorem Mem.perm (h : Mem base w R) (hs : R'.Perm R) : Mem base w R' := ⟨h.below, fun r hr => h.ok r (hs.subset hr), fun r hr => h.bd r (hs.subset hr), (hs.pairwise_iff (fun h k h1 h2 => h k h2 h1)).2 h.sep⟩
theorem Mem.keep (h : Mem base w R) (hb : Below w.heap.size w w') : Mem base w' R :=
  ⟨h.below.trans (hb.mono h.size), fun r hr => Res.loc (h.ok r hr) (fun k hk => hb.block k (h.bd r hr k hk).2), fun r hr k hk => ⟨(h.bd r hr k hk).1, Nat.lt_of_lt_of_le (h.bd r hr k hk).2 hb.size⟩, h.sep⟩
theorem Mem.drewN (h : Mem base w R) (n : Nat) : Mem base (w.drewN n) R := h.keep ⟨rfl, rfl, rfl, Nat.le_refl _, fun _ _ => rfl⟩
theorem Mem.new (h : Mem base w R) {r : Res} (hb : Below w.heap.size w w') (hok : r.ok base.heap.size w') (hfp : ∀ k, r.fp k → w.heap.size ≤ k ∧ k < w'.heap.size) : Mem base w' (r :: R) := by
  have hk := h.keep hb
  refine ⟨hk.below, fun r' hr' => ?_, fun r' hr' k hk' => ?_, List.Pairwise.cons (fun r' hr' k h1 h2 => ?_) h.sep⟩
  · rcases List.mem_cons.1 hr' with rfl | hr'
    · exact hok
    · exact hk.ok r' hr'
  · rcases List.mem_cons.1 hr' with rfl | hr'
    · exact ⟨Nat.le_trans h.size (hfp k hk').1, (hfp k hk').2⟩
    · exact hk.bd r' hr' k hk'
  · have := (hfp k h1).1
    have := (h.bd r' hr' k h2).2
    omega
theorem Mem.alloc (h : Mem base w R) (o : Obj) : Mem base (w.alloc o) (.obj w.heap.size o :: R) :=
  h.new ((Below.refl _ _).alloc (Nat.le_refl _) o) (get_new w o) (fun k hk => by
    have : k = w.heap.size := hk
    subst this; simp)
theorem Mem.at_ (h : Mem base w R) (i : Nat) {b : Nat} {o : Obj} (hi : R[i]? = some (.obj b o)) : w.heap[b]? = some o := h.ok _ (List.mem_of_getElem? hi)
/-- one holding has turned -/
theorem Mem.step (h : Mem base w R) (i : Nat) {r r' : Res} (hi : R[i]? = some r) (hc : Chg r.fp w w') (hok : r'.ok base.heap.size w') (hfp : ∀ k, r'.fp k → (r.fp k ∨ w.heap.size ≤ k) ∧ k < w'.heap.size) : Mem base w' (R.set i r') := by
  have hmem := List.mem_of_getElem? hi
  have hlt := (List.getElem?_eq_some_iff.1 hi).1
  have hidx : ∀ p ∈ R.set i r', p = r' ∨ ∃ j, j ≠ i ∧ R[j]? = some p := by
    intro p hp
    obtain ⟨j, hj⟩ := List.getElem?_of_mem hp
    rw [List.getElem?_set] at hj
    split at hj
    · left; rename_i e; subst e; simpa [hlt] using hj.symm
    · rename_i e; exact .inr ⟨j, fun e' => e e'.symm, hj⟩
  have hsep : ∀ j p, j ≠ i → R[j]? = some p → ∀ k, p.fp k → ¬ r.fp k := by
    intro j p hne hj k hp hr
    have hjl := (List.getElem?_eq_some_iff.1 hj).1
    have hjj : R[j] = p := (List.getElem?_eq_some_iff.1 hj).2
    have hii : R[i] = r := (List.getElem?_eq_some_iff.1 hi).2
    rcases Nat.lt_or_gt_of_ne hne with hlt' | hlt'
    · have := List.pairwise_iff_getElem.1 h.sep j i hjl hlt hlt'
      rw [hjj, hii] at this; exact this k hp hr
    · have := List.pairwise_iff_getElem.1 h.sep i j hlt hjl hlt'
      rw [hjj, hii] at this; exact this k hr hp
  refine ⟨h.below.trans (hc.below (B := base.heap.size) h.size (fun k hk => (h.bd r hmem k hk).1)), fun p hp => ?_, fun p hp k hk => ?_, ?_⟩
  · rcases hidx p hp with rfl | ⟨j, hne, hj⟩
    · exact hok
    · have hpm := List.mem_of_getElem? hj
      exact Res.loc (h.ok p hpm) (fun k hk => hc.block k (h.bd p hpm k hk).2 (hsep j p hne hj k hk))
  · rcases hidx p hp with rfl | ⟨j, hne, hj⟩
    · refine ⟨?_, (hfp k hk).2⟩
      rcases (hfp k hk).1 with h1 | h1
      · exact (h.bd r hmem k h1).1
      · exact Nat.le_trans h.size h1
    · have hpm := List.mem_of_getElem? hj
      exact ⟨(h.bd p hpm k hk).1, Nat.lt_of_lt_of_le (h.bd p hpm k hk).2 hc.size⟩
  · rw [List.pairwise_iff_getElem]
    intro a b ha hb hab k h1 h2
    rw [List.length_set] at ha hb
    rw [List.getElem_set] at h1 h2
    have hnew : ∀ j, (hj : j < R.length) → j ≠ i → R[j].fp k → r'.fp k → False := by
      intro j hj hne h3 h4
      rcases (hfp k h4).1 with h5 | h5
      · exact hsep j _ hne (List.getElem?_eq_getElem hj) k h3 h5
      · have := (h.bd _ (List.getElem_mem hj) k h3).2; omega
    by_cases ea : i = a
    · subst ea
      rw [if_pos rfl] at h1
      rw [if_neg (by omega)] at h2
      exact hnew b hb (by omega) h2 h1
    · rw [if_neg ea] at h1
      by_cases eb : i = b
      · subst eb
        rw [if_pos rfl] at h2
        exact hnew a ha (by omega) h1 h2
      · rw [if_neg eb] at h2
        exact List.pairwise_iff_getElem.1 h.sep a b ha hb hab k h1 h2
theorem Mem.put (h : Mem base w R) (i : Nat) {b : Nat} {o : Obj} (hi : R[i]? = some (.obj b o)) (o' : Obj) : Mem base (w.putObj b o') (R.set i (.obj b o')) :=
  have hb := h.at_ i hi
  h.step i hi ((Chg.refl _ w).put (.inl (show Res.fp (.obj b o) b from rfl)) o') (get_put_same hb o') (fun k hk => by
    have : k = b := hk
    subst this
    exact ⟨.inl rfl, by rw [size_put]; exact get_lt hb⟩)
/-- a callee's own memory, behind the call -/
theorem Mem.call (h : Mem base w R) (hc : Mem w w' R') : Mem base w' (R' ++ R) := by
  have hk := h.keep hc.below
  refine ⟨hk.below, fun r hr => ?_, fun r hr k hfp => ?_, ?_⟩
  · rcases List.mem_append.1 hr with hr | hr
    · exact Res.low (hc.ok r hr) h.size
    · exact hk.ok r hr
  · rcases List.mem_append.1 hr with hr | hr
    · exact ⟨Nat.le_trans h.size (hc.bd r hr k hfp).1, (hc.bd r hr k hfp).2⟩
    · exact hk.bd r hr k hfp
  · rw [List.pairwise_append]
    refine ⟨hc.sep, h.sep, fun r hr r' hr' k h1 h2 => ?_⟩
    have := (hc.bd r hr k h1).1
    have := (h.bd r' hr' k h2).2
    omega
end
end XW

/- One rule an operation, over holdings: no world is named. -/
namespace XW
open Go Go.RowKit
set_option linter.unusedSimpArgs false
set_option linter.unusedVariables false
set_option linter.unusedSectionVars false

def At (base : World) (R : List Res) (Φ : World → Prop) : Prop := ∀ w, Mem base w R → Φ w

/-- the rest of a region: kept whole -/
structure AL (F : Fence) (P : Program) (n : Nat) (Q : Post) (ops : Array Oper) (l : List Oper) (ρ : Nat → Value) (ds : List Deferred) (base : World) (R : List Res) : Prop where
  use : ∀ w, Mem base w R → XL F P n Q ops l ρ ds w

/-! ### what is told of types -/
class T1 (P : Program) (t : TypeId) : Prop where
  u : ∃ d, P.underlying t = some d ∧ oneCellType d = true
  i : ∃ i, P.info? t = some i ∧ i.size = 1
class TAgg (P : Program) (t : TypeId) where
  size : Nat
  pos : size ≠ 0
  h : ∃ d i, P.underlying t = some d ∧ aggType d = true ∧ P.info? t = some i ∧ i.size = size
class TZ (P : Program) (t : TypeId) where
  z : Value
  h : ∃ i, P.info? t = some i ∧ i.zero = some z
class TF (P : Program) (t : TypeId) (j : Nat) where
  off : Nat
  h : ∃ fs f i, P.underlying t = some (.struct fs) ∧ fs[j]? = some f ∧ f.offset = off ∧ P.info? f.type = some i ∧ i.size ≠ 0
class TS (P : Program) (t : TypeId) where
  e : TypeId
  sz : Nat
  z : Value
  bytes : Nat
  u : P.underlying t = some (.slice e)
  h : ∃ i, P.info? e = some i ∧ i.size = sz ∧ i.zero = some z ∧ i.bytes = bytes
class TArr (P : Program) (t : TypeId) where
  m : Nat
  e : TypeId
  sz : Nat
  u : P.underlying t = some (.array m e)
  pos : sz ≠ 0
  h : ∃ i, P.info? e = some i ∧ i.size = sz

class TM (P : Program) (t : TypeId) where
  kt : TypeId
  vt : TypeId
  z : Value
  u : P.underlying t = some (.map kt vt)
  h : ∃ i, P.info? vt = some i ∧ i.zero = some z

section
variable {F : Fence} {P : Program} {n : Nat} {Q : Post} {ρ : Nat → Value} {ds : List Deferred} {w base : World} {R R' : List Res} {ops : Array Oper} {Φ Ψ : World → Prop}

theorem At.sub (hs : R'.Sublist R) (h : At base R' Φ) : At base R Φ := fun w hw => h w (hw.sub hs)
theorem At.perm (hs : R'.Perm R) (h : At base R' Φ) : At base R Φ := fun w hw => h w (hw.perm hs)
theorem At.use (h : At base R Φ) (hw : Mem base w R) : Φ w := h w hw

/-! ### structure -/
theorem At_seq {a b : Code} (h : ∀ K : (Nat → Value) → List Deferred → World → Prop, (∀ ρ ds w, X F P n Q b ρ ds w → K ρ ds w) → At base R (X F P n (Then K Q) a ρ ds)) : At base R (X F P n Q (.seq a b) ρ ds) := fun w hw => X_seq_k fun K hK => h K hK w hw
theorem At_go {A B : (Nat → Value) → List Deferred → World → Prop} (h : ∀ ρ ds w, A ρ ds w → B ρ ds w) (x : At base R (A ρ ds)) : At base R (B ρ ds) := fun w hw => h _ _ _ (x w hw)
theorem At_block {id : Nat} {c : Code} (h : At base R (X F P n (InB id Q) c ρ ds)) : At base R (X F P n Q (.block id c) ρ ds) := fun w hw => X_block (h w hw)
theorem At_region {id : Nat} {l : List Oper} (h : AL F P n Q l.toArray l ρ ds base R) : At base R (X F P n Q (.region id l.toArray false) ρ ds) := fun w hw => X_region (h.use w hw)
theorem At_skip (h : At base R (Q .normal ρ ds)) : At base R (X F P n Q .skip ρ ds) := fun w hw => X_skip (h w hw)
theorem At_ret (h : At base R (Q .ret ρ ds)) : At base R (X F P n Q .ret ρ ds) := fun w hw => X_ret (h w hw)
theorem At_exit {id : Nat} (h : At base R (Q (.exit id) ρ ds)) : At base R (X F P n Q (.exit id) ρ ds) := fun w hw => X_exit (h w hw)
theorem At_nil (h : At base R (Q .normal ρ ds)) : AL F P n Q ops [] ρ ds base R := ⟨fun w hw => XL_nil (h w hw)⟩
theorem At_then_n {K : (Nat → Value) → List Deferred → World → Prop} (h : At base R (K ρ ds)) : At base R (Then K Q .normal ρ ds) := h
theorem At_then_e {K : (Nat → Value) → List Deferred → World → Prop} {id : Nat} (h : At base R (Q (.exit id) ρ ds)) : At base R (Then K Q (.exit id) ρ ds) := h
theorem At_then_r {K : (Nat → Value) → List Deferred → World → Prop} (h : At base R (Q .ret ρ ds)) : At base R (Then K Q .ret ρ ds) := h
theorem At_inb_n {id : Nat} (h : At base R (Q .normal ρ ds)) : At base R (InB id Q .normal ρ ds) := h
theorem At_inb_r {id : Nat} (h : At base R (Q .ret ρ ds)) : At base R (InB id Q .ret ρ ds) := h
theorem At_inb_e {id id' : Nat} (e : (id' == id) = true) (h : At base R (Q .normal ρ ds)) : At base R (InB id Q (.exit id') ρ ds) := fun w hw => inb_e e (h w hw)
theorem At_cond {c : Operand} {x y : Code} {t : Bool} (hc : xv n ρ c = .bool t) (h1 : t = true → At base R (X F P n Q x ρ ds)) (h2 : t = false → At base R (X F P n Q y ρ ds)) : At base R (X F P n Q (.cond c x y) ρ ds) := fun w hw => by
  cases t with
  | true => exact X_cond_true hc (h1 rfl w hw)
  | false => exact X_cond_false hc (h2 rfl w hw)
theorem At_cond_t {c : Operand} {x y : Code} (hc : xv n ρ c = .bool true) (h : At base R (X F P n Q x ρ ds)) : At base R (X F P n Q (.cond c x y) ρ ds) := fun w hw => X_cond_true hc (h w hw)
theorem At_cond_f {c : Operand} {x y : Code} (hc : xv n ρ c = .bool false) (h : At base R (X F P n Q y ρ ds)) : At base R (X F P n Q (.cond c x y) ρ ds) := fun w hw => X_cond_false hc (h w hw)
/-! ### frames -/
def AllAt (ρ : Nat → Value) : List (Nat × Value) → Prop
  | [] => True
  | p :: l => ρ p.1 = p.2 ∧ AllAt ρ l
def ovr (ρ : Nat → Value) : List (Nat × Value) → Nat → Value
  | [], t => ρ t
  | p :: l, t => if t = p.1 then p.2 else ovr ρ l t
theorem ovr_eq (ρ : Nat → Value) : ∀ (l : List (Nat × Value)), AllAt ρ l → ovr ρ l = ρ
  | [], _ => rfl
  | p :: l, h => by
    funext t
    simp only [ovr]
    by_cases e : t = p.1
    · rw [if_pos e, e]; exact h.1.symm
    · rw [if_neg e, ovr_eq ρ l h.2]
theorem At_loop {c : Code} {α : Type} (L : α → List (Nat × Value)) (RR : α → List Res) (φ : α → Prop) (m : α → Nat) (x : α) (hs : (RR x).Sublist R) (hL : AllAt ρ (L x)) (h0 : φ x)
    (hr : ∀ x, φ x → ∀ K : (Nat → Value) → List Deferred → World → Prop, (∀ y ρ', φ y → m y < m x → AllAt ρ' (L y) → At base (RR y) (K ρ' ds)) → ∀ ρ0, At base (RR x) (X F P n (Then K Q) c (ovr ρ0 (L x)) ds)) : At base R (X F P n Q (.loop c) ρ ds) := fun w hw => by
  refine X_loop (fun x ρ ds' w' => φ x ∧ AllAt ρ (L x) ∧ ds' = ds ∧ Mem base w' (RR x)) m x ⟨h0, hL, rfl, hw.sub hs⟩ ?_
  rintro x ρ ds' w' ⟨h1, h2, rfl, h3⟩ K hK
  have := hr x h1 K (fun y ρ' hy hm hl w'' hw'' => hK ρ' ds' w'' ⟨y, ⟨hy, hl, rfl, hw''⟩, hm⟩) ρ
  rw [ovr_eq ρ _ h2] at this
  exact this w' h3
/-! ### guards -/
theorem At_guard_t {dst : Option Tmp} {op : Op} {ty : TypeId} {pos : String} {af : Array Edge} {rest : List Oper} {g t : Nat} {want : Bool} (ho : (ops[g]?).bind (·.dst) = some t) (ht : t < n) (hv : ρ t = .bool want)
    (h1 : AL F P n Q ops (⟨dst, op, ty, pos, af, none⟩ :: rest) ρ ds base R) : AL F P n Q ops (⟨dst, op, ty, pos, af, some (g, want)⟩ :: rest) ρ ds base R := ⟨fun w hw => by
  obtain ⟨og, hog, hd⟩ := Option.bind_eq_some_iff.1 ho
  exact XL_unguard rfl hog hd ht hv (by simp) (h1.use w hw)⟩
theorem At_guard_f (hF : Wide F) {dst : Option Tmp} {op : Op} {ty : TypeId} {pos : String} {af : Array Edge} {rest : List Oper} {g t : Nat} {want b : Bool} (ho : (ops[g]?).bind (·.dst) = some t) (ht : t < n) (hv : ρ t = .bool b) (hb : (b == want) = false)
    (h1 : AL F P n Q ops rest (updO ρ dst undef) ds base R) : AL F P n Q ops (⟨dst, op, ty, pos, af, some (g, want)⟩ :: rest) ρ ds base R := ⟨fun w hw => by
  obtain ⟨og, hog, hd⟩ := Option.bind_eq_some_iff.1 ho
  exact XL_skip hF rfl hog hd ht hv hb (h1.use w hw)⟩
/-! ### operations that only compute -/
theorem At_plain (hF : Wide F) {dst : Option Tmp} {op : Op} {ty : TypeId} {pos : String} {af : Array Edge} {rest : List Oper} {v : Value} (hv : plain n ρ op = some v) (h : AL F P n Q ops rest (updO ρ dst v) ds base R) :
    AL F P n Q ops (⟨dst, op, ty, pos, af, none⟩ :: rest) ρ ds base R := ⟨fun w hw => by
  obtain ⟨h1, h2⟩ := plain_gives (P := P) (w := w) (o := ⟨dst, op, ty, pos, af, none⟩) hv
  exact XL_gives hF rfl h2 (.inl h1) (h.use w hw)⟩
section
variable (hF : Wide F) {dst : Option Tmp} {t ty t' : TypeId} {x y : Operand} {pos : String} {af : Array Edge} {rest : List Oper} {a b : Int}
include hF
theorem At_add (hx : xv n ρ x = .int .i64 a) (hy : xv n ρ y = .int .i64 b) (hr : -9223372036854775808 ≤ a + b ∧ a + b ≤ 9223372036854775807) (h : AL F P n Q ops rest (updO ρ dst (.int .i64 (a + b))) ds base R) :
    AL F P n Q ops (⟨dst, .binOp .add t x y t', ty, pos, af, none⟩ :: rest) ρ ds base R :=
  At_plain hF (v := .int .i64 (a + b)) (by simp only [plain, hx, hy, bin, intBin, if_true]; rw [wrap64_in hr.1 hr.2]) h
theorem At_sub (hx : xv n ρ x = .int .i64 a) (hy : xv n ρ y = .int .i64 b) (hr : -9223372036854775808 ≤ a - b ∧ a - b ≤ 9223372036854775807) (h : AL F P n Q ops rest (updO ρ dst (.int .i64 (a - b))) ds base R) :
    AL F P n Q ops (⟨dst, .binOp .sub t x y t', ty, pos, af, none⟩ :: rest) ρ ds base R :=
  At_plain hF (v := .int .i64 (a - b)) (by simp only [plain, hx, hy, bin, intBin, if_true]; rw [wrap64_in hr.1 hr.2]) h
theorem At_rem (hx : xv n ρ x = .int .i64 a) (hy : xv n ρ y = .int .i64 b) (hr : 0 ≤ a ∧ 0 < b) (h : AL F P n Q ops rest (updO ρ dst (.int .i64 (a % b))) ds base R) :
    AL F P n Q ops (⟨dst, .binOp .rem t x y t', ty, pos, af, none⟩ :: rest) ρ ds base R :=
  At_plain hF (v := .int .i64 (a % b)) (by simp only [plain, hx, hy, bin, intBin, if_true]; rw [if_neg (by omega), Int.tmod_eq_emod_of_nonneg hr.1]) h
theorem At_max {k : IntKind} {ats : Array TypeId} (hx : xv n ρ x = .int k a) (hy : xv n ρ y = .int k b) (h : AL F P n Q ops rest (updO ρ dst (.int k (max a b))) ds base R) :
    AL F P n Q ops (⟨dst, .call { callee := .builtin .max, args := #[x, y], argTypes := ats }, ty, pos, af, none⟩ :: rest) ρ ds base R := ⟨fun w hw =>
  XL_max hF hx hy (by
    have e : (if a < b then b else a) = max a b := by omega
    rw [e]; exact h.use w hw)⟩
theorem At_min {k : IntKind} {ats : Array TypeId} (hx : xv n ρ x = .int k a) (hy : xv n ρ y = .int k b) (h : AL F P n Q ops rest (updO ρ dst (.int k (min a b))) ds base R) :
    AL F P n Q ops (⟨dst, .call { callee := .builtin .min, args := #[x, y], argTypes := ats }, ty, pos, af, none⟩ :: rest) ρ ds base R := ⟨fun w hw =>
  XL_min hF hx hy (by
    have e : (if b < a then b else a) = min a b := by omega
    rw [e]; exact h.use w hw)⟩
/-! ### memory -/
theorem At_load {b off : Nat} {cs : Array Value} {t1 : TypeId} {fz : Nat × Nat} {v : Value} [T : T1 P t] (i : Nat) (hx : xv n ρ x = .pointer (some ⟨b, off, none⟩)) (hi : R[i]? = some (.obj b (.cells cs t1 fz))) (hv : cs[off]? = some v) (h : AL F P n Q ops rest (updO ρ dst v) ds base R) :
    AL F P n Q ops (⟨dst, .load t x, ty, pos, af, none⟩ :: rest) ρ ds base R := ⟨fun w hw => by
  obtain ⟨d, hu, hd⟩ := T.u
  exact XL_load hF hx (loads_cell hu hd (hw.at_ i hi) hv) (h.use w hw)⟩
theorem At_loadB {b : Nat} {cs : Array Value} {t1 : TypeId} {fz : Nat × Nat} [T : TAgg P t] (i : Nat) (hx : xv n ρ x = .pointer (some ⟨b, 0, none⟩)) (hi : R[i]? = some (.obj b (.cells cs t1 fz))) (hs : cs.size = T.size) (h : AL F P n Q ops rest (updO ρ dst (.agg cs)) ds base R) :
    AL F P n Q ops (⟨dst, .load t x, ty, pos, af, none⟩ :: rest) ρ ds base R := ⟨fun w hw => by
  obtain ⟨d, i', hu, hd, hi', hsz⟩ := T.h
  exact XL_load hF hx (loads_block hu hd hi' (hw.at_ i hi) (by omega)) (h.use w hw)⟩
theorem At_store {b off : Nat} {cs cs' : Array Value} {t1 : TypeId} {v : Value} [T : T1 P t] (i : Nat) (hx : xv n ρ x = .pointer (some ⟨b, off, none⟩)) (hy : xv n ρ y = v) (hi : R[i]? = some (.obj b (.cells cs t1 (0, 0)))) (hoff : off < cs.size) (hv : v.cells = #[v]) (h1 : v.one1 = true) (hcs : cs.setIfInBounds off v = cs')
    (h : AL F P n Q ops rest (updO ρ dst undef) ds base (R.set i (.obj b (.cells cs' t1 (0, 0))))) : AL F P n Q ops (⟨dst, .store t x y, ty, pos, af, none⟩ :: rest) ρ ds base R := ⟨fun w hw => by
  obtain ⟨i', hi', hsz⟩ := T.i
  subst hcs
  exact XL_store hF hx (by rw [hy]; exact stores_cell hi' hsz hv h1 (hw.at_ i hi) hoff) (h.use _ (hw.put i hi _))⟩
theorem At_storeB {b : Nat} {cs vs : Array Value} {t1 : TypeId} [T : TAgg P t] (i : Nat) (hx : xv n ρ x = .pointer (some ⟨b, 0, none⟩)) (hy : xv n ρ y = .agg vs) (hi : R[i]? = some (.obj b (.cells cs t1 (0, 0)))) (hs : vs.size = T.size) (hcs : cs.size = T.size) (h1 : ∀ u ∈ vs.toList, u.one1 = true)
    (h : AL F P n Q ops rest (updO ρ dst undef) ds base (R.set i (.obj b (.cells vs t1 (0, 0))))) : AL F P n Q ops (⟨dst, .store t x y, ty, pos, af, none⟩ :: rest) ρ ds base R := ⟨fun w hw => by
  obtain ⟨d, i', hu, hd, hi', hsz⟩ := T.h
  have hne := T.pos
  have hc : (Value.agg vs).cells = vs := by simp [Value.cells]
  exact XL_store hF hx (by
    rw [hy]
    have := stores_block (P := P) (w := w) (t := t) (b := b) (cs := cs) (t' := t1) (v := .agg vs) hi' (by rw [hc]; omega) (by omega) (hw.at_ i hi) (by rw [hc]; exact h1) (by omega)
    rwa [hc] at this) (h.use _ (hw.put i hi _))⟩
theorem At_alloc {cs : Array Value} [T : TZ P t] (hz : T.z.cells = cs) (h : ∀ b, AL F P n Q ops rest (updO ρ dst (.pointer (some ⟨b, 0, none⟩))) ds base (.obj b (.cells cs t (0, 0)) :: R)) :
    AL F P n Q ops (⟨dst, .alloc t, ty, pos, af, none⟩ :: rest) ρ ds base R := ⟨fun w hw => by
  obtain ⟨i', hi', hz'⟩ := T.h
  exact XL_alloc hF hi' hz' (by rw [hz]; exact (h _).use _ (hw.alloc _))⟩
theorem At_box {cs : Array Value} (hz : (xv n ρ x).cells = cs) (h : ∀ b, AL F P n Q ops rest (updO ρ dst (.pointer (some ⟨b, 0, none⟩))) ds base (.obj b (.cells cs t (0, 0)) :: R)) :
    AL F P n Q ops (⟨dst, .box t x, ty, pos, af, none⟩ :: rest) ρ ds base R := ⟨fun w hw => XL_box hF (by rw [hz]; exact (h _).use _ (hw.alloc _))⟩
theorem At_box1 {v : Value} (hx : xv n ρ x = v) (hv : v.cells = #[v]) (h : ∀ b, AL F P n Q ops rest (updO ρ dst (.pointer (some ⟨b, 0, none⟩))) ds base (.obj b (.cells #[v] t (0, 0)) :: R)) :
    AL F P n Q ops (⟨dst, .box t x, ty, pos, af, none⟩ :: rest) ρ ds base R := At_box hF (by rw [hx, hv]) h
theorem At_boxA {cs : Array Value} (hx : xv n ρ x = .agg cs) (h : ∀ b, AL F P n Q ops rest (updO ρ dst (.pointer (some ⟨b, 0, none⟩))) ds base (.obj b (.cells cs t (0, 0)) :: R)) :
    AL F P n Q ops (⟨dst, .box t x, ty, pos, af, none⟩ :: rest) ρ ds base R := At_box hF (by rw [hx]; simp [Value.cells]) h
theorem At_field {b off j : Nat} [T : TF P t j] (hx : xv n ρ x = .pointer (some ⟨b, off, none⟩)) (h : AL F P n Q ops rest (updO ρ dst (.pointer (some ⟨b, off + T.off, none⟩))) ds base R) :
    AL F P n Q ops (⟨dst, .fieldAddr t x j, ty, pos, af, none⟩ :: rest) ρ ds base R := ⟨fun w hw => by
  obtain ⟨fs, f, i', hu, hf, ho, hi', hs⟩ := T.h
  exact XL_field hF hu hf hi' hs hx (by rw [ho]; exact h.use w hw)⟩
theorem At_len {a : Option Addr} {l c : Nat} [T : TS P t] (hx : xv n ρ x = .slice a l c) (h : AL F P n Q ops rest (updO ρ dst (.int .i64 l)) ds base R) :
    AL F P n Q ops (⟨dst, .call { callee := .builtin .len, args := #[x], argTypes := #[t] }, ty, pos, af, none⟩ :: rest) ρ ds base R := ⟨fun w hw => XL_len hF T.u hx (h.use w hw)⟩
/-- an array of the call's own -/
theorem At_indexA {b off k m : Nat} {kk : IntKind} [T : TArr P t] (hx : xv n ρ x = .pointer (some ⟨b, off, none⟩)) (hy : xv n ρ y = .int kk (k : Nat)) (hm : T.m = m) (h1 : k < m) (h : AL F P n Q ops rest (updO ρ dst (.pointer (some ⟨b, off + k * T.sz, none⟩))) ds base R) :
    AL F P n Q ops (⟨dst, .indexAddr t x y, ty, pos, af, none⟩ :: rest) ρ ds base R := ⟨fun w hw => by
  obtain ⟨i', hi', hs⟩ := T.h
  have hne := T.pos
  exact XL_indexArr hF T.u hi' (by omega) hx hy (by omega) (by rw [hs, add_plain]; exact h.use w hw)⟩
/-- a slice of the call's own that begins its block -/
theorem At_indexS {b len c k : Nat} {kk : IntKind} [T : TS P t] (hx : xv n ρ x = .slice (some ⟨b, 0, none⟩) len c) (hy : xv n ρ y = .int kk (k : Nat)) (h1 : k < len) (h : AL F P n Q ops rest (updO ρ dst (.pointer (some ⟨b, k * T.sz, none⟩))) ds base R) :
    AL F P n Q ops (⟨dst, .indexAddr t x y, ty, pos, af, none⟩ :: rest) ρ ds base R := ⟨fun w hw => by
  obtain ⟨i', hi', hs, _⟩ := T.h
  refine XL_index hF (a := ⟨b, 0, none⟩) (l := len) (c := c) (k := kk) (i := k) T.u hi' hx hy (by omega) (by omega) ?_
  rw [hs, add_plain, Int.toNat_natCast, Nat.zero_add]; exact h.use w hw⟩
/-- a slice whose address is told by an equation -/
theorem At_indexC {A : Option Addr} {ad : Addr} {len c k : Nat} {kk : IntKind} [T : TS P t] (hx : xv n ρ x = .slice A len c) (hA : A = some ad) (hy : xv n ρ y = .int kk (k : Nat)) (h1 : k < len) (h : AL F P n Q ops rest (updO ρ dst (.pointer (some (ad.add (k * T.sz))))) ds base R) :
    AL F P n Q ops (⟨dst, .indexAddr t x y, ty, pos, af, none⟩ :: rest) ρ ds base R := ⟨fun w hw => by
  obtain ⟨i', hi', hs, _⟩ := T.h
  subst hA
  refine XL_index hF (a := ad) (l := len) (c := c) (k := kk) (i := k) T.u hi' hx hy (by omega) (by omega) ?_
  rw [hs, Int.toNat_natCast]; exact h.use w hw⟩
omit hF in
theorem addr_add_add (a : Addr) (i j : Nat) : (a.add i).add j = a.add (i + j) := by
  unfold Addr.add
  by_cases hj : j = 0
  · subst hj; simp
  · by_cases hi : i = 0
    · subst hi; simp [hj]
    · rw [if_neg hj, if_neg hi, if_neg (by omega)]; simp [Nat.add_assoc]
theorem At_fieldC {ad : Addr} {off j : Nat} [T : TF P t j] (hx : xv n ρ x = .pointer (some (ad.add off))) (h : AL F P n Q ops rest (updO ρ dst (.pointer (some (ad.add (off + T.off))))) ds base R) :
    AL F P n Q ops (⟨dst, .fieldAddr t x j, ty, pos, af, none⟩ :: rest) ρ ds base R := ⟨fun w hw => by
  obtain ⟨fs, f, i', hu, hf, ho, hi', hs⟩ := T.h
  exact XL_fieldAdd hF hu hf hi' hs hx (by rw [ho, addr_add_add]; exact h.use w hw)⟩
omit hF in
theorem below_cell {a : Addr} {v : Value} (hw : Mem base w R) (h : base.cell? a = some v) : w.cell? a = some v := by
  rw [hw.below.cell (block_lt_of_cell h)]; exact h
theorem At_loadC {a : Addr} {v : Value} [T : T1 P t] (hx : xv n ρ x = .pointer (some a)) (hc : base.cell? a = some v) (h : AL F P n Q ops rest (updO ρ dst v) ds base R) :
    AL F P n Q ops (⟨dst, .load t x, ty, pos, af, none⟩ :: rest) ρ ds base R := ⟨fun w hw => by
  obtain ⟨d, hu, hd⟩ := T.u
  exact XL_load hF hx (loads_one hu hd (below_cell hw hc)) (h.use w hw)⟩
theorem At_loadCS {a : Addr} {vs : List Value} [T : TAgg P t] (hx : xv n ρ x = .pointer (some a)) (hs : vs.length = T.size) (hc : ∀ j u, vs[j]? = some u → base.cell? (a.add j) = some u) (h : AL F P n Q ops rest (updO ρ dst (.agg vs.toArray)) ds base R) :
    AL F P n Q ops (⟨dst, .load t x, ty, pos, af, none⟩ :: rest) ρ ds base R := ⟨fun w hw => by
  obtain ⟨d, i', hu, hd, hi', hsz⟩ := T.h
  exact XL_load hF hx (loads_agg (cs := vs) hu hd hi' (by omega) (fun j u hj => below_cell hw (hc j u hj))) (h.use w hw)⟩
/-! ### calls -/
theorem At_call {f : FuncId} {args : Array Operand} {ats : Array TypeId} (hE : Enters P f) (ha : F.alive = false) {vs : Array Value} {Post : Value → World → World → Prop} (hv : args.map (xv n ρ) = vs) (hc : ∀ w, Mem base w R → Rets P f vs w (Post · w)) (h : ∀ u w w', Mem base w R → Post u w w' → XL F P n Q ops rest (updO ρ dst u) ds w') :
    AL F P n Q ops (⟨dst, .call { callee := .value (.func f), args := args, argTypes := ats }, ty, pos, af, none⟩ :: rest) ρ ds base R := ⟨fun w hw =>
  XL_call hF ha hE (hc w hw) hv fun u w' hp => h u w w' hw hp⟩
theorem At_callv {f : FuncId} {first caps : Array Value} {args : Array Operand} {ats : Array TypeId} (hE : Enters P f) (ha : F.alive = false) (hx : xv n ρ x = .func (.func f) first caps) {vs : Array Value} {Post : Value → World → World → Prop} (hv : first ++ args.map (xv n ρ) ++ caps = vs) (hc : ∀ w, Mem base w R → Rets P f vs w (Post · w)) (h : ∀ u w w', Mem base w R → Post u w w' → XL F P n Q ops rest (updO ρ dst u) ds w') :
    AL F P n Q ops (⟨dst, .call { callee := .value x, args := args, argTypes := ats }, ty, pos, af, none⟩ :: rest) ρ ds base R := ⟨fun w hw =>
  XL_callv hF ha hE hx (hc w hw) hv fun u w' hp => h u w w' hw hp⟩
/-- a callee that tells its result, and leaves alone what lay -/
theorem At_callB {f : FuncId} {args : Array Operand} {ats : Array TypeId} (hE : Enters P f) (ha : F.alive = false) {vs : Array Value} {u : Value} (hv : args.map (xv n ρ) = vs) (hc : ∀ w, Mem base w R → Rets P f vs w fun v w' => v = u ∧ Below w.heap.size w w') (h : AL F P n Q ops rest (updO ρ dst u) ds base R) :
    AL F P n Q ops (⟨dst, .call { callee := .value (.func f), args := args, argTypes := ats }, ty, pos, af, none⟩ :: rest) ρ ds base R :=
  At_call hF hE ha hv hc fun v w w' hw ⟨hv, hb⟩ => by subst hv; exact h.use w' (hw.keep hb)
/-- a callee that makes memory of its own -/
theorem At_callM {f : FuncId} {args : Array Operand} {ats : Array TypeId} (hE : Enters P f) (ha : F.alive = false) {vs : Array Value} {Post : Value → List Res → Prop} (hv : args.map (xv n ρ) = vs) (hc : ∀ w, Mem base w R → Rets P f vs w fun v w' => ∃ Rs, Post v Rs ∧ Mem w w' Rs) (h : ∀ u Rs, Post u Rs → AL F P n Q ops rest (updO ρ dst u) ds base (Rs ++ R)) :
    AL F P n Q ops (⟨dst, .call { callee := .value (.func f), args := args, argTypes := ats }, ty, pos, af, none⟩ :: rest) ρ ds base R :=
  At_call hF hE ha hv hc fun v w w' hw ⟨Rs, hp, hm⟩ => (h v Rs hp).use w' (hw.call hm)
end
/-- a function's body, from its own beginning -/
theorem rets_at {f : FuncId} {fn : Func} {c : Code} {args : Array Value} {Rp : Value → World → Prop} (hf : P.funcs[f]? = some fn) (hb : fn.body = some c) (hn : fn.ntmps = n) (ha : args.size ≤ n)
    (h : At w [] (X Fence.wide P n (Body Fence.wide P n fn fun e w' => ∃ v, e = .returned v ∧ Rp v w') c (fun t => args.getD t undef) [])) : Rets P f args w Rp := calls_of hf hb hn ha (h w (Mem.start w))
end
end XW

/- Rows of the call's own, over holdings. -/
namespace XW
open Go Go.RowKit
set_option linter.unusedSimpArgs false
set_option linter.unusedVariables false
set_option linter.unusedSectionVars false

section lists
variable {α : Type} {enc : α → List Value} {sz : Nat} {l : List α} {junk : List Value}
theorem len_flat (he : ∀ x, (enc x).length = sz) : ∀ l : List α, (l.flatMap enc).length = l.length * sz
  | [] => by simp
  | x :: l => by rw [List.flatMap_cons, List.length_append, he, len_flat he l, List.length_cons, Nat.succ_mul, Nat.add_comm]
theorem get_flat (he : ∀ x, (enc x).length = sz) (d : α) {j : Nat} {v : Value} : ∀ (l : List α) (k : Nat), k < l.length → (enc (l.getD k d))[j]? = some v → (l.flatMap enc)[k * sz + j]? = some v
  | [], k, h, _ => by simp at h
  | x :: l, 0, _, hv => by
    simp only [List.getD_cons_zero] at hv
    rw [List.flatMap_cons, Nat.zero_mul, Nat.zero_add, List.getElem?_append_left (List.getElem?_eq_some_iff.1 hv).1]
    exact hv
  | x :: l, k + 1, h, hv => by
    simp only [List.getD_cons_succ] at hv
    have := get_flat he d l k (by simpa using h) hv
    rw [List.flatMap_cons, List.getElem?_append_right (by rw [he, Nat.succ_mul]; omega), he]
    rw [show (k + 1) * sz + j - sz = k * sz + j by rw [Nat.succ_mul]; omega]
    exact this
theorem buf_size (he : ∀ x, (enc x).length = sz) : (buf enc l junk).size = l.length * sz + junk.length := by simp [buf, len_flat he]
theorem buf_get (he : ∀ x, (enc x).length = sz) (d : α) {j k : Nat} {v : Value} (hk : k < l.length) (hv : (enc (l.getD k d))[j]? = some v) : (buf enc l junk)[k * sz + j]? = some v := by
  have h := get_flat he d l k hk hv
  simp only [buf, List.getElem?_toArray]
  rw [List.getElem?_append_left (List.getElem?_eq_some_iff.1 h).1]; exact h
end lists

/-! ### a row as the kit has it -/
theorem ownsRow_of {α : Type} {e sz : Nat} {enc : α → List Value} {A : Option Nat} {c : Nat} {l : List α} {w : World} {B : Nat} (h : RowOk e sz enc A c l w) (hB : ∀ k, A = some k → B ≤ k) : w.ownsRow B e sz (rowV A l.length c) l.length (l.flatMap enc) := by
  obtain ⟨h1, h2, h3, h4⟩ := h
  refine ⟨len_flat h1 l, ?_⟩
  cases A with
  | none => obtain ⟨rfl, rfl⟩ := h4; exact .inl ⟨rfl, rfl⟩
  | some b =>
    obtain ⟨junk, hb, hl⟩ := h4
    refine .inr ⟨b, c, _, rfl, hB b rfl, hb, h2, h3, ?_, ?_⟩
    · rw [buf_size h1, hl]
    · simp [buf, ← len_flat h1 l]
theorem rowOk_of {α : Type} {e sz : Nat} {enc : α → List Value} {v : Value} {l : List α} {w : World} {B : Nat} (he : ∀ x, (enc x).length = sz) (h : w.ownsRow B e sz v l.length (l.flatMap enc)) :
    ∃ A c, v = rowV A l.length c ∧ RowOk e sz enc A c l w ∧ (∀ k, A = some k ↔ v.ownBlock = some k) := by
  rcases h.2 with ⟨rfl, hn⟩ | ⟨g, cap, cur, rfl, hB, hb, hn, hm, hs, ht⟩
  · have : l = [] := List.eq_nil_of_length_eq_zero hn
    subst this
    exact ⟨none, 0, rfl, ⟨he, by simp, by decide, rfl, rfl⟩, fun k => by simp [Value.ownBlock]⟩
  · refine ⟨some g, cap, rfl, ⟨he, hn, hm, cur.toList.drop (l.length * sz), ?_, ?_⟩, fun k => by simp [Value.ownBlock]⟩
    · rw [hb]
      congr 2
      rw [buf, ← ht, List.take_append_drop]
    · have := Nat.mul_le_mul_right sz hn
      simp only [List.length_drop, Array.length_toList, hs]
      omega

section
variable {F : Fence} {P : Program} {n : Nat} {Q : Post} {ρ : Nat → Value} {ds : List Deferred} {w base : World} {R R' : List Res} {ops : Array Oper} {Φ Ψ : World → Prop}

theorem At.newNil {α : Type} (e sz : Nat) (enc : α → List Value) (he : ∀ x, (enc x).length = sz) (h : At base (.row e sz enc none 0 [] :: R) Φ) : At base R Φ := fun w hw =>
  h w (hw.new (Below.refl _ _) ⟨he, by simp, by decide, rfl, rfl⟩ (fun k hk => by cases hk))
/-- a row's block, laid open -/
theorem Mem.open {α : Type} {e sz : Nat} {enc : α → List Value} {A : Option Nat} {c : Nat} {l : List α} (hw : Mem base w R) (i : Nat) (hi : R[i]? = some (.row e sz enc A c l)) (h0 : 0 < l.length) :
    ∃ b junk, A = some b ∧ l.length * sz + junk.length = c * sz ∧ l.length ≤ c ∧ c ≤ maxLen ∧ (∀ x, (enc x).length = sz) ∧ Mem base w (R.set i (.obj b (.cells (buf enc l junk) e (0, 0)))) := by
  have hmem := List.mem_of_getElem? hi
  obtain ⟨h1, h2, h3, h4⟩ := hw.ok _ hmem
  cases A with
  | none => obtain ⟨rfl, _⟩ := h4; simp at h0
  | some b =>
    obtain ⟨junk, hb, hl⟩ := h4
    refine ⟨b, junk, rfl, hl, h2, h3, h1, hw.step i hi (Chg.refl _ _) hb (fun k hk => ?_)⟩
    have : k = b := hk
    subst this
    exact ⟨.inl rfl, (hw.bd _ hmem k rfl).2⟩
theorem AL.sub {l : List Oper} (hs : R'.Sublist R) (h : AL F P n Q ops l ρ ds base R') : AL F P n Q ops l ρ ds base R := ⟨fun w hw => h.use w (hw.sub hs)⟩

section
variable (hF : Wide F) {dst : Option Tmp} {t ty : TypeId} {x y s : Operand} {pos : String} {af : Array Edge} {rest : List Oper}
include hF
/-- append(s, v), v's row made for it -/
theorem At_append {α : Type} {e sz g c c1 k : Nat} {enc : α → List Value} {A : Option Nat} {l : List α} {cs : Array Value} {fz : Nat × Nat} {x0 : α} [T : TS P t] (i j : Nat) (hi : R[i]? = some (.row e sz enc A c l)) (hj : R[j]? = some (.obj g (.cells cs e fz))) (hs : xv n ρ s = .slice (A.map fun b => ⟨b, 0, none⟩) k c) (hk : k = l.length) (hx : xv n ρ x = .slice (some ⟨g, 0, none⟩) 1 c1) (hcs : enc x0 = cs.toList)
    (hT : T.e = e ∧ T.sz = sz ∧ sz ≠ 0 ∧ T.z.cells.size = sz) (h1 : ∀ u ∈ cs.toList, u.one1 = true) (hb : (l.length + 1) * T.bytes ≤ 140737488355328) (hm : l.length ≤ 1000000000)
    (h : ∀ A' c', AL F P n Q ops rest (updO ρ dst (.slice (A'.map fun b => ⟨b, 0, none⟩) (l.length + 1) c')) ds base (R.set i (.row e sz enc A' c' (l ++ [x0])))) :
    AL F P n Q ops (⟨dst, .call { callee := .builtin .append, args := #[s, x], argTypes := #[t, t] }, ty, pos, af, none⟩ :: rest) ρ ds base R := ⟨fun w hw => by
  obtain ⟨i', hi', hsz, hz', hby⟩ := T.h
  obtain ⟨hTe, hTs, hne, hTz⟩ := hT
  subst hTe hTs hk
  have hmem := List.mem_of_getElem? hi
  have hrow := hw.ok _ hmem
  have he : ∀ x, (enc x).length = T.sz := hrow.1
  have hown := ownsRow_of (B := base.heap.size) hrow (fun k hk => (hw.bd _ hmem k hk).1)
  have hg := hw.at_ j hj
  rw [← hsz] at hown
  refine XL_append hF T.u hi' hz' (by rw [hsz]; exact hTz) (by omega) hown hw.size hs hx (news := enc x0) (by rw [he, hsz]; omega) (fun q u hq => by rw [XW.add_plain]; exact cell_of hg (by rw [Nat.zero_add]; rw [hcs] at hq; simpa using hq)) (fun u hu => one_cell (h1 u (by rw [← hcs]; exact hu))) (by
      have : (1000000001 : Nat) ≤ maxLen := by decide
      omega) (by rw [hby]; exact hb) ?_
  intro v' w' hap
  have hr := hap.row
  have hl : l.length + 1 = (l ++ [x0]).length := by simp
  have hf : l.flatMap enc ++ enc x0 = (l ++ [x0]).flatMap enc := by simp
  rw [hl, hf, hsz] at hr
  obtain ⟨A', c', rfl, hok, hA⟩ := rowOk_of he hr
  have hA0 : ∀ k, (rowV A l.length c).ownBlock = some k ↔ A = some k := fun k => by cases A <;> simp [rowV, Value.ownBlock]
  have := (h A' c').use w' (hw.step i hi (hap.chg.mono (fun k _ hk => (hA0 k).1 hk)) hok (fun k hk => by
    have hk' := (hA k).1 hk
    refine ⟨?_, (ownsRow_lt hr hk').2⟩
    rcases hap.place with hp | hp
    · left; exact (hA0 k).1 (hp.symm.trans hk')
    · right; rw [hp] at hk'; cases hk'; exact Nat.le_refl _))
  simpa [rowV] using this⟩
theorem At_indexA1 {b k m : Nat} {kk : IntKind} [T : TArr P t] (hx : xv n ρ x = .pointer (some ⟨b, 0, none⟩)) (hy : xv n ρ y = .int kk (k : Nat)) (hs : T.sz = 1) (hm : T.m = m) (h1 : k < m) (h : AL F P n Q ops rest (updO ρ dst (.pointer (some ⟨b, k, none⟩))) ds base R) :
    AL F P n Q ops (⟨dst, .indexAddr t x y, ty, pos, af, none⟩ :: rest) ρ ds base R := At_indexA hF hx hy hm h1 (by rw [hs, Nat.zero_add, Nat.mul_one]; exact h)
theorem At_indexC1 {A : Option Addr} {ad : Addr} {len c k : Nat} {kk : IntKind} [T : TS P t] (hx : xv n ρ x = .slice A len c) (hA : A = some ad) (hy : xv n ρ y = .int kk (k : Nat)) (hs : T.sz = 1) (h1 : k < len) (h : AL F P n Q ops rest (updO ρ dst (.pointer (some (ad.add k)))) ds base R) :
    AL F P n Q ops (⟨dst, .indexAddr t x y, ty, pos, af, none⟩ :: rest) ρ ds base R := At_indexC hF hx hA hy h1 (by rw [hs, Nat.mul_one]; exact h)
end
end
end XW

