/- A small calculus over the fenced one: frames as functions, one rule an operation. -/
import Derived.RangeFuncLeaves
import Derived.RangeFuncRecord
import Derived.TacticsIn
import Derived.OrdersIn
import Derived.Below
import Derived.WalkKit
namespace XW
open Go

structure Wide (F : Fence) : Prop where
  fn : ∀ f, F.fn f
  depth : F.depth = none
theorem wide_wide : Wide Fence.wide := ⟨fun _ => trivial, rfl⟩
theorem Wide.inRound {F : Fence} (h : Wide F) (l : Nat) : Wide (F.inRound l) := ⟨h.fn, h.depth⟩
theorem Wide.room {F : Fence} (h : Wide F) (k : Nat) : F.room k := fun d hd => by rw [h.depth] at hd; cases hd
theorem fenced_of {F : Fence} (h : Wide F) (ha : F.alive = false) (P : Program) (m : Machine) : m.fenced P F := fun _ _ => ⟨fun h => (by rw [ha] at h; cases h), .inl (h.fn _), fun _ _ => h.fn _, h.room _⟩

/-- a contract, inside whatever wide fence -/
theorem callsIn_of {F : Fence} (h : Wide F) (ha : F.alive = false) {n : Nat} {P : Program} {f : FuncId} {args : Array Value} {w : World} {R : Ending → World → Prop} (hc : Calls P f args w R) : CallsIn F n P f args w R :=
  ⟨h.fn f, fun cs _ => by
    obtain ⟨e, w', fr, r, s, x⟩ := hc cs
    refine ⟨e, w', fr, r, ?_, x⟩
    cases e with
    | returned v => exact (StepsIn.of_steps s).mono fun m _ => fenced_of h ha P m
    | panicked ch => exact (StepsIn.of_steps s).mono fun m _ => fenced_of h ha P m
    | outgrown => exact s⟩

/-! ### frames -/
def upd (ρ : Nat → Value) (d : Nat) (v : Value) : Nat → Value := fun t => if t = d then v else ρ t
theorem upd_apply (ρ : Nat → Value) (d : Nat) (v : Value) (t : Nat) : upd ρ d v t = if t = d then v else ρ t := rfl
theorem upd_same (ρ : Nat → Value) (d : Nat) (v : Value) : upd ρ d v d = v := by simp [upd]
theorem upd_ne {ρ : Nat → Value} {d : Nat} {v : Value} {t : Nat} (h : t ≠ d) : upd ρ d v t = ρ t := by simp [upd, h]
def updO (ρ : Nat → Value) (d : Option Nat) (v : Value) : Nat → Value := match d with
  | some d => upd ρ d v
  | none => ρ
def fr (n : Nat) (ρ : Nat → Value) (ds : List Deferred) : Act := { tmps := ((List.range n).map ρ).toArray, defers := ds }
def xv (n : Nat) (ρ : Nat → Value) : Operand → Value
  | .tmp t => if t < n then ρ t else undef
  | .const v => v
  | .global g => .pointer (some ⟨g, 0, none⟩)
  | .func f => .func (.func f) #[] #[]
theorem fr_size (n : Nat) (ρ : Nat → Value) (ds : List Deferred) : (fr n ρ ds).tmps.size = n := by simp [fr]
theorem fr_get {n : Nat} {ρ : Nat → Value} {ds : List Deferred} {t : Nat} (h : t < n) : (fr n ρ ds).tmps[t]? = some (ρ t) := by
  simp [fr, h]
theorem eval_fr (n : Nat) (ρ : Nat → Value) (ds : List Deferred) : (fr n ρ ds).eval = xv n ρ := by
  funext x
  cases x with
  | tmp t =>
    show (fr n ρ ds).tmps.getD t undef = if t < n then ρ t else undef
    rw [Array.getD_eq_getD_getElem?]
    by_cases h : t < n
    · rw [fr_get h, if_pos h]; rfl
    · have h' : (fr n ρ ds).tmps.size ≤ t := by rw [fr_size]; exact Nat.le_of_not_lt h
      rw [if_neg h, Array.getElem?_eq_none h']; rfl
  | _ => rfl
theorem put_fr (n : Nat) (ρ : Nat → Value) (ds : List Deferred) (d : Option Nat) (v : Value) : (fr n ρ ds).put d v = fr n (updO ρ d v) ds := by
  cases d with
  | none => rfl
  | some d =>
    simp only [Act.put, updO, fr]
    congr 1
    apply Array.ext
    · simp
    · intro i h1 h2
      simp only [List.setIfInBounds_toArray, List.getElem_toArray, List.getElem_set, List.getElem_map, List.getElem_range, upd]
      by_cases e : d = i
      · subst e; simp
      · rw [if_neg e, if_neg (fun h => e h.symm)]
theorem xv_tmp {n : Nat} {ρ : Nat → Value} {t : Nat} (h : t < n) : xv n ρ (.tmp t) = ρ t := by simp [xv, h]
theorem xv_const (n : Nat) (ρ : Nat → Value) (v : Value) : xv n ρ (.const v) = v := rfl
theorem xv_func (n : Nat) (ρ : Nat → Value) (f : FuncId) : xv n ρ (.func f) = .func (.func f) #[] #[] := rfl
theorem fr_init (n : Nat) (args : Array Value) (h : args.size ≤ n) :
    ({ tmps := args ++ Array.replicate (n - args.size) undef, defers := [] } : Act) = fr n (fun t => args.getD t undef) [] := by
  simp only [fr]
  congr 1
  apply Array.ext
  · simp; omega
  · intro i h1 h2
    simp only [List.getElem_toArray, List.getElem_map, List.getElem_range, Array.getElem_append, Array.getElem_replicate, Array.getD_eq_getD_getElem?]
    split
    · rename_i h; rw [Array.getElem?_eq_getElem h]; rfl
    · rename_i h; rw [Array.getElem?_eq_none (by omega)]; rfl

abbrev Post := Exit → (Nat → Value) → List Deferred → World → Prop
def lift (n : Nat) (Q : Post) : Exit → Act → World → Prop := fun e a w => ∃ ρ ds, a = fr n ρ ds ∧ Q e ρ ds w

/-- the code, from a frame -/
def X (F : Fence) (P : Program) (n : Nat) (Q : Post) (c : Code) (ρ : Nat → Value) (ds : List Deferred) (w : World) : Prop := c.wpIn F 0 P (lift n Q) (fr n ρ ds) w
/-- the rest of a region -/
def XL (F : Fence) (P : Program) (n : Nat) (Q : Post) (ops : Array Oper) (l : List Oper) (ρ : Nat → Value) (ds : List Deferred) (w : World) : Prop := wpListIn F 0 P ops (lift n Q) l (fr n ρ ds) w

def Then (K : (Nat → Value) → List Deferred → World → Prop) (Q : Post) : Post
  | .normal, ρ, ds, w => K ρ ds w
  | e, ρ, ds, w => Q e ρ ds w
def InB (id : Nat) (Q : Post) : Post
  | .exit id', ρ, ds, w => if id' = id then Q .normal ρ ds w else Q (.exit id') ρ ds w
  | e, ρ, ds, w => Q e ρ ds w

section
variable {F : Fence} {P : Program} {n : Nat} {Q : Post} {ρ : Nat → Value} {ds : List Deferred} {w : World} {ops : Array Oper}

theorem X_mono {Q' : Post} {c : Code} (h : X F P n Q c ρ ds w) (hq : ∀ e ρ ds w, Q e ρ ds w → Q' e ρ ds w) : X F P n Q' c ρ ds w :=
  wpIn_mono h fun _ _ _ ⟨ρ, ds, ha, hq'⟩ => ⟨ρ, ds, ha, hq _ _ _ _ hq'⟩
theorem X_skip (h : Q .normal ρ ds w) : X F P n Q .skip ρ ds w := wpIn_skip ⟨_, _, rfl, h⟩
theorem X_label {l : Nat} (h : Q .normal ρ ds w) : X F P n Q (.label l) ρ ds w := wpIn_label ⟨_, _, rfl, h⟩
theorem X_ret (h : Q .ret ρ ds w) : X F P n Q .ret ρ ds w := wpIn_ret ⟨_, _, rfl, h⟩
theorem X_exit {id : Nat} (h : Q (.exit id) ρ ds w) : X F P n Q (.exit id) ρ ds w := wpIn_exit ⟨_, _, rfl, h⟩
theorem X_seq {a b : Code} (h : X F P n (Then (fun ρ ds w => X F P n Q b ρ ds w) Q) a ρ ds w) : X F P n Q (.seq a b) ρ ds w :=
  wpIn_seq (wpIn_mono h fun e a w ⟨ρ, ds, ha, hq⟩ => by
    subst ha
    cases e <;> first | exact hq | exact ⟨_, _, rfl, hq⟩)
theorem X_seq_k {a b : Code} (h : ∀ K : (Nat → Value) → List Deferred → World → Prop, (∀ ρ ds w, X F P n Q b ρ ds w → K ρ ds w) → X F P n (Then K Q) a ρ ds w) : X F P n Q (.seq a b) ρ ds w := X_seq (h _ fun _ _ _ h => h)
theorem go_k {A B : (Nat → Value) → List Deferred → World → Prop} (h : ∀ ρ ds w, A ρ ds w → B ρ ds w) (x : A ρ ds w) : B ρ ds w := h _ _ _ x
theorem then_n {K : (Nat → Value) → List Deferred → World → Prop} (h : K ρ ds w) : Then K Q .normal ρ ds w := h
theorem then_e {K : (Nat → Value) → List Deferred → World → Prop} {id : Nat} (h : Q (.exit id) ρ ds w) : Then K Q (.exit id) ρ ds w := h
theorem then_r {K : (Nat → Value) → List Deferred → World → Prop} (h : Q .ret ρ ds w) : Then K Q .ret ρ ds w := h
theorem inb_n {id : Nat} (h : Q .normal ρ ds w) : InB id Q .normal ρ ds w := h
theorem inb_r {id : Nat} (h : Q .ret ρ ds w) : InB id Q .ret ρ ds w := h
theorem inb_e {id id' : Nat} (e : (id' == id) = true) (h : Q .normal ρ ds w) : InB id Q (.exit id') ρ ds w := by
  simp only [InB]; rw [if_pos (by simpa using e)]; exact h
theorem inb_x {id id' : Nat} (e : (id' == id) = false) (h : Q (.exit id') ρ ds w) : InB id Q (.exit id') ρ ds w := by
  simp only [InB]; rw [if_neg (by simpa using e)]; exact h
/-- what stands between two pieces of code, named -/
theorem X_cut {a b : Code} (K : (Nat → Value) → List Deferred → World → Prop) (h : X F P n (Then K Q) a ρ ds w) (hb : ∀ ρ ds w, K ρ ds w → X F P n Q b ρ ds w) : X F P n Q (.seq a b) ρ ds w :=
  X_seq (X_mono h fun e ρ ds w hq => by cases e <;> first | exact hb _ _ _ hq | exact hq)
theorem X_cond {c : Operand} {x y : Code} {t : Bool} (hc : xv n ρ c = .bool t) (h : X F P n Q (if t then x else y) ρ ds w) : X F P n Q (.cond c x y) ρ ds w :=
  wpIn_cond (by rw [eval_fr]; exact hc) h
theorem X_cond_true {c : Operand} {x y : Code} (hc : xv n ρ c = .bool true) (h : X F P n Q x ρ ds w) : X F P n Q (.cond c x y) ρ ds w := X_cond hc h
theorem X_cond_false {c : Operand} {x y : Code} (hc : xv n ρ c = .bool false) (h : X F P n Q y ρ ds w) : X F P n Q (.cond c x y) ρ ds w := X_cond hc h
theorem X_cond_dec {c : Operand} {x y : Code} {p : Prop} [Decidable p] (hc : xv n ρ c = .bool (decide p)) (ht : p → X F P n Q x ρ ds w) (hf : ¬ p → X F P n Q y ρ ds w) : X F P n Q (.cond c x y) ρ ds w := by
  by_cases h : p
  · exact X_cond hc (by rw [decide_eq_true h]; exact ht h)
  · exact X_cond hc (by rw [decide_eq_false h]; exact hf h)
theorem X_block {id : Nat} {c : Code} (h : X F P n (InB id Q) c ρ ds w) : X F P n Q (.block id c) ρ ds w :=
  wpIn_block (wpIn_mono h fun e a w ⟨ρ, ds, ha, hq⟩ => by
    subst ha
    cases e with
    | exit id' =>
      simp only [Exit.inBlock, InB] at hq ⊢
      split
      · rename_i e; rw [if_pos e] at hq; exact ⟨_, _, rfl, hq⟩
      · rename_i e; rw [if_neg e] at hq; exact ⟨_, _, rfl, hq⟩
    | _ => exact ⟨_, _, rfl, hq⟩)
theorem stepR_scope {b : Frame} {a : Act} {k : List Item} {cs : List Frame} {c : Code} : step P (lone (b.atR a (.code (.scope c) :: k)) cs w) = .next (lone (b.atR a (.code c :: .inScope c :: k)) cs w) :=
  step_lone_go (by simp [stepG, stepG.exec, Frame.atR])
theorem stepR_inScope {b : Frame} {a : Act} {k : List Item} {cs : List Frame} {c : Code} : step P (lone (b.atR a (.inScope c :: k)) cs w) = .next (lone (b.atR a k) cs w) :=
  step_lone_go (by simp [stepG, stepG.exec, Frame.atR])
def NoGo (Q : Post) : Post
  | .goto _, _, _, _ => False
  | e, ρ, ds, w => Q e ρ ds w
theorem nogo_n (h : Q .normal ρ ds w) : NoGo Q .normal ρ ds w := h
theorem nogo_e {id : Nat} (h : Q (.exit id) ρ ds w) : NoGo Q (.exit id) ρ ds w := h
theorem nogo_r (h : Q .ret ρ ds w) : NoGo Q .ret ρ ds w := h
/-- labels, and no goto that comes to them -/
theorem X_scope {c : Code} (h : X F P n (NoGo Q) c ρ ds w) : X F P n Q (.scope c) ρ ds w := by
  intro b k cs hro hb hr
  obtain ⟨e, a₁, w₁, ⟨ρ₁, ds₁, rfl, hq⟩, harr⟩ := h b (.inScope c :: k) cs hro hb hr
  have h0 : (lone (b.atR (fr n ρ ds) (.code (.scope c) :: k)) cs w).fenced P F := fenced_calm (fr := b.atR (fr n ρ ds) (.code (.scope c) :: k)) hb hr rfl
  have hx : ∀ id, exitTo id (.inScope c :: k) = exitTo id k := fun id => by simp [exitTo]
  cases e with
  | normal => exact ⟨.normal, _, w₁, ⟨_, _, rfl, hq⟩, .head h0 stepR_scope (StepsIn.trans harr (.one (fenced_calm (fr := b.atR (fr n ρ₁ ds₁) (.inScope c :: k)) hb hr rfl) stepR_inScope))⟩
  | exit id => exact ⟨.exit id, _, w₁, ⟨_, _, rfl, hq⟩, fun k' hk => .head h0 stepR_scope (harr.1 k' (by rw [hx]; exact hk)),
        fun hr' hk => let ⟨k₁, h1, h2⟩ := harr.2 hr' (by rw [hx]; exact hk); ⟨k₁, h1, .head h0 stepR_scope h2⟩⟩
  | goto l => exact hq.elim
  | ret => exact ⟨.ret, _, w₁, ⟨_, _, rfl, hq⟩, .of_steps (.one h0 stepR_scope) harr⟩
  | panic ch => exact ⟨.panic ch, _, w₁, ⟨_, _, rfl, hq⟩, .of_steps (e := .panic ch) (.one h0 stepR_scope) harr⟩
  | outgrown => exact ⟨.outgrown, _, w₁, ⟨_, _, rfl, hq⟩, .of_steps (b := b) (k := k) (cs := cs) (e := .outgrown) (.one h0 stepR_scope) harr⟩
/-- a loop: what holds at each round's head, what goes down -/
theorem X_loop {c : Code} {α : Type} (I : α → (Nat → Value) → List Deferred → World → Prop) (m : α → Nat) (x : α) (h0 : I x ρ ds w)
    (hr : ∀ x ρ ds w, I x ρ ds w → ∀ K : (Nat → Value) → List Deferred → World → Prop, (∀ ρ' ds' w', (∃ y, I y ρ' ds' w' ∧ m y < m x) → K ρ' ds' w') → X F P n (Then K Q) c ρ ds w) : X F P n Q (.loop c) ρ ds w := by
  intro b k cs hro hb hrm
  have key : ∀ (N : Nat) (x : α) (ρ : Nat → Value) (ds : List Deferred) (w : World), m x = N → I x ρ ds w →
      ∃ e a' w', lift n Q e a' w' ∧ ArrivesIn (Machine.fenced P F) P (lone (b.atR (fr n ρ ds) (.code c :: .inLoop c :: k)) cs w) b k cs e a' w' := by
    intro N
    induction N using Nat.strongRecOn with
    | _ N ih =>
      intro x ρ ds w hn hI
      obtain ⟨e, a₁, w₁, ⟨ρ₁, ds₁, rfl, hq⟩, harr⟩ := hr x ρ ds w hI _ (fun _ _ _ h => h) b (.inLoop c :: k) cs hro hb hrm
      cases e with
      | normal =>
        obtain ⟨y, hy, hlt⟩ := hq
        obtain ⟨e₂, a₂, w₂, hq₂, harr₂⟩ := ih (m y) (hn ▸ hlt) y ρ₁ ds₁ w₁ rfl hy
        exact ⟨e₂, a₂, w₂, hq₂, .of_steps (StepsIn.trans harr (.one (fenced_calm hb hrm rfl) stepR_inLoop)) harr₂⟩
      | exit id => exact ⟨_, _, w₁, ⟨_, _, rfl, hq⟩, .pass (x := .inLoop c) rfl (fun _ _ => .inl (by simp)) harr⟩
      | goto l => exact ⟨_, _, w₁, ⟨_, _, rfl, hq⟩, .pass (x := .inLoop c) rfl (fun _ _ => .inl (by simp)) harr⟩
      | ret => exact ⟨_, _, w₁, ⟨_, _, rfl, hq⟩, .pass (x := .inLoop c) rfl (fun _ _ => .inl (by simp)) harr⟩
      | panic ch => exact ⟨_, _, w₁, ⟨_, _, rfl, hq⟩, .pass (x := .inLoop c) rfl (fun _ _ => .inl (by simp)) harr⟩
      | outgrown => exact ⟨_, _, w₁, ⟨_, _, rfl, hq⟩, .pass (x := .inLoop c) rfl (fun _ _ => .inl (by simp)) harr⟩
  obtain ⟨e, a', w', hq, harr⟩ := key _ x ρ ds w rfl h0
  exact ⟨e, a', w', hq, .of_steps (.one (fenced_calm hb hrm rfl) stepR_loop) harr⟩

/-! ### regions -/
theorem X_region {id : Nat} {l : List Oper} (h : XL F P n Q l.toArray l ρ ds w) : X F P n Q (.region id l.toArray false) ρ ds w := wpIn_region_lit h
theorem XL_nil (h : Q .normal ρ ds w) : XL F P n Q ops [] ρ ds w := wpListIn_nil ⟨_, _, rfl, h⟩

/-- what an operation that is no call comes to -/
def Gives (P : Program) (n : Nat) (o : Oper) (ρ : Nat → Value) (w : World) (v : Value) (w' : World) : Prop :=
  (execOp (xv n ρ) o).run P w = .ok (.value v) w' ∨ ((execOp (xv n ρ) o).run P w = .ok .skip w' ∧ v = undef)

theorem about_noCall {o : Oper} (h : ∀ c, o.op ≠ .call c) (P : Program) (w : World) (e : Operand → Value) : o.about P w e = none := by
  unfold Oper.about
  cases ho : o.op <;> first | rfl | exact absurd ho (h _)

theorem semAt_any (rd : Option Nat) (e : Operand → Value) (o : Oper) (h : ∀ c, o.op ≠ .defer c) : Oper.semAt rd e o = execOp e o := by
  cases rd with
  | none => exact Oper.semAt_none ..
  | some l => exact Oper.semAt_some l e o h

theorem wpIn_gives (hF : Wide F) {o : Oper} (hd : ∀ c, o.op ≠ .defer c) {v : Value} {w' : World} (hg : Gives P n o ρ w v w') {K : Act → World → Prop} {Q' : Exit → Act → World → Prop} (h : K (fr n (updO ρ o.dst v) ds) w') :
    o.wpIn F 0 P (fr n ρ ds) w K Q' := by
  refine ⟨fun f _ => hF.fn f, ?_⟩
  rw [semAt_any _ _ _ hd, eval_fr]
  rcases hg with hg | ⟨hg, rfl⟩ <;> rw [hg]
  · show K ((fr n ρ ds).put o.dst v) w'
    rw [put_fr]; exact h
  · show K ((fr n ρ ds).put o.dst undef) w'
    rw [put_fr]; exact h

theorem XL_gives (hF : Wide F) {o : Oper} {rest : List Oper} (hg : o.guard = none) (hd : ∀ c, o.op ≠ .defer c) {v : Value} {w' : World} (hr : Gives P n o ρ w v w') (h : XL F P n Q ops rest (updO ρ o.dst v) ds w') :
    XL F P n Q ops (o :: rest) ρ ds w :=
  wpListIn_plain hg fun _ hK => wpIn_gives hF hd hr (hK _ _ h)

/-- a call of a Go function -/
theorem wpIn_calls (hF : Wide F) (ha : F.alive = false) {o : Oper} (hd : ∀ c, o.op ≠ .defer c) {f : FuncId} {args : Array Value} {w' : World} (hr : (execOp (xv n ρ) o).run P w = .ok (.enter f args) w')
    {R : Ending → World → Prop} (hc : Calls P f args w' R) {K : Act → World → Prop} {Q' : Exit → Act → World → Prop}
    (h : ∀ e w'', R e w'' → match e with | .returned v => K (fr n (updO ρ o.dst v) ds) w'' | .panicked ch => Q' (.panic ch) (fr n ρ ds) w'' | .outgrown => LetsOut Q') :
    o.wpIn F 0 P (fr n ρ ds) w K Q' := by
  refine ⟨fun f _ => hF.fn f, ?_⟩
  rw [semAt_any _ _ _ hd, eval_fr, hr]
  refine ⟨fun hs => (by rw [hF.depth] at hs; cases hs), callsIn_of hF ha (hc.mono fun e w'' hR => ?_)⟩
  have := h e w'' hR
  cases e with
  | returned v => show K ((fr n ρ ds).put o.dst v) w''; rw [put_fr]; exact this
  | panicked ch => exact this
  | outgrown => exact this

/-- a call that returns -/
def Rets (P : Program) (f : FuncId) (args : Array Value) (w : World) (R : Value → World → Prop) : Prop :=
  Calls P f args w fun e w' => ∃ v, e = .returned v ∧ R v w'

theorem wpIn_rets (hF : Wide F) (ha : F.alive = false) {o : Oper} (hd : ∀ c, o.op ≠ .defer c) {f : FuncId} {args : Array Value} {w' : World} (hr : (execOp (xv n ρ) o).run P w = .ok (.enter f args) w')
    {R : Value → World → Prop} (hc : Rets P f args w' R) {K : Act → World → Prop} {Q' : Exit → Act → World → Prop}
    (h : ∀ v w'', R v w'' → K (fr n (updO ρ o.dst v) ds) w'') : o.wpIn F 0 P (fr n ρ ds) w K Q' :=
  wpIn_calls hF ha hd hr hc fun e w'' ⟨v, he, hR⟩ => by subst he; exact h v w'' hR

theorem XL_rets (hF : Wide F) (ha : F.alive = false) {o : Oper} {rest : List Oper} (hg : o.guard = none) (hd : ∀ c, o.op ≠ .defer c) {f : FuncId} {args : Array Value} {w' : World} (hr : (execOp (xv n ρ) o).run P w = .ok (.enter f args) w')
    {R : Value → World → Prop} (hc : Rets P f args w' R) (h : ∀ v w'', R v w'' → XL F P n Q ops rest (updO ρ o.dst v) ds w'') : XL F P n Q ops (o :: rest) ρ ds w :=
  wpListIn_plain hg fun _ hK => wpIn_rets hF ha hd hr hc fun v w'' hR => hK _ _ (h v w'' hR)

/-- a guarded operation -/
theorem wanted_fr {o : Oper} {g : Nat} {want b : Bool} {og : Oper} {t : Nat} (hg : o.guard = some (g, want)) (ho : ops[g]? = some og) (hd : og.dst = some t) (ht : t < n) (hv : ρ t = .bool b) :
    Region.wanted o (yielded ops (fr n ρ ds).tmps) = (b == want) := by
  simp only [Region.wanted, hg, yielded, ho, Option.bind_some, hd, fr_get ht, hv]
  cases b <;> cases want <;> rfl
theorem XL_skip (hF : Wide F) {o : Oper} {rest : List Oper} {g : Nat} {want b : Bool} {og : Oper} {t : Nat} (hg : o.guard = some (g, want)) (ho : ops[g]? = some og) (hd : og.dst = some t) (ht : t < n) (hv : ρ t = .bool b) (hb : (b == want) = false)
    (h : XL F P n Q ops rest (updO ρ o.dst undef) ds w) : XL F P n Q ops (o :: rest) ρ ds w := by
  show wpListIn ..
  unfold wpListIn
  rw [wanted_fr hg ho hd ht hv, hb, if_neg (by simp), put_fr]
  exact ⟨fun f _ => hF.fn f, h⟩
theorem XL_unguard {o : Oper} {rest : List Oper} {g : Nat} {want b : Bool} {og : Oper} {t : Nat} (hg : o.guard = some (g, want)) (ho : ops[g]? = some og) (hd : og.dst = some t) (ht : t < n) (hv : ρ t = .bool b) (hb : (b == want) = true)
    (h : XL F P n Q ops ({ o with guard := none } :: rest) ρ ds w) : XL F P n Q ops (o :: rest) ρ ds w := by
  have h' : wpListIn F 0 P ops (lift n Q) ({ o with guard := none } :: rest) (fr n ρ ds) w := h
  show wpListIn ..
  unfold wpListIn at h' ⊢
  rw [if_pos (by simp [Region.wanted])] at h'
  rw [wanted_fr hg ho hd ht hv, hb, if_pos rfl]
  exact h'

/-! ### functions -/
/-- what a body must come to, marks of ranges over functions among its deferred calls -/
def Body (F : Fence) (P : Program) (n : Nat) (fn : Func) (R : Ending → World → Prop) : Post
  | .normal, ρ, ds, w | .ret, ρ, ds, w => LeavesInM F 0 P fn (fr n ρ ds).tmps R ds .returning w
  | .panic ch, ρ, ds, w => LeavesInM F 0 P fn (fr n ρ ds).tmps R ds (.panicking ch) w
  | .outgrown, _, _, w => R .outgrown w
  | _, _, _, _ => False

theorem calls_of {f : FuncId} {fn : Func} {c : Code} {args : Array Value} {R : Ending → World → Prop} (hf : P.funcs[f]? = some fn) (hb : fn.body = some c) (hn : fn.ntmps = n) (ha : args.size ≤ n)
    (h : X Fence.wide P n (Body Fence.wide P n fn R) c (fun t => args.getD t undef) [] w) : Calls P f args w R := by
  subst hn
  refine (callsIn_wide (n := 0)).1 (callsIn_of_wp_marks hf hb trivial ?_)
  rw [fr_init _ _ ha]
  refine wpIn_mono h fun e a w ⟨ρ, ds, hfr, hq⟩ => ?_
  subst hfr
  cases e <;> exact hq

/-- the marks that ranges over functions have left -/
def Marks (w : World) (B : Nat) (ds : List Deferred) : Prop := ∀ d ∈ ds, ∃ D, B ≤ D ∧ d.target = .collected D ∧ w.heap[D]? = some (.deferred (some []))

theorem leaves_nil {fn : Func} {tmps : Array Value} {R : Ending → World → Prop} {v : Value} (hr : (results fn tmps).run P w = .ok v w) (hR : R (.returned v) w) : LeavesInM F 0 P fn tmps R [] .returning w := ⟨v, hr, hR⟩

end
end XW
