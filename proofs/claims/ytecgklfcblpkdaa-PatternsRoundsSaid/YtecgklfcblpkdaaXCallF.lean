import Derived.Test.YtecgklfcblpkdaaXB
/- Bits of unsigned numbers of 32 bits. -/
namespace XW
open Go Go.RowKit RegInv
set_option linter.unusedSimpArgs false
set_option linter.unusedVariables false
set_option linter.unusedSectionVars false

theorem wrap_u32 {x : Nat} (h : x < 4294967296) : IntKind.u32.wrap (x : Int) = x := by
  have h1 : ((x : Int) % (2 ^ IntKind.u32.bits : Int)) = x := Int.emod_eq_of_lt (by omega) (by show (x : Int) < 4294967296; omega)
  simp only [IntKind.wrap, h1]
  rfl
section
variable {F : Fence} {P : Program} {n : Nat} {Q : Post} {ρ : Nat → Value} {ds : List Deferred} {w base : World} {R : List Res} {ops : Array Oper}
theorem At_shl (hF : Wide F) {dst : Option Tmp} {t t' ty : TypeId} {x y : Operand} {pos : String} {af : Array Edge} {rest : List Oper} {a b : Nat} {yk : IntKind} (hx : xv n ρ x = .int .u32 (a : Int)) (hy : xv n ρ y = .int yk (b : Int)) (hb : b < 32) (hr : a * 2 ^ b < 4294967296) (h : AL F P n Q ops rest (updO ρ dst (.int .u32 ((a * 2 ^ b : Nat) : Int))) ds base R) :
    AL F P n Q ops (⟨dst, .binOp .shl t x y t', ty, pos, af, none⟩ :: rest) ρ ds base R := ⟨fun w hw => by
  refine XL_gives hF rfl (by simp) (.inl ?_) (h.use w hw)
  have e : IntKind.u32.wrap ((a : Int) * 2 ^ b) = ((a * 2 ^ b : Nat) : Int) := by
    rw [show (a : Int) * 2 ^ b = ((a * 2 ^ b : Nat) : Int) by push_cast; rfl]; exact wrap_u32 hr
  have hm : min b 32 = b := by omega
  simp [execOp, hx, hy, eqGuard, binOp, Op.shift, Sem.run_bind, Result.andThen, Sem.run_pure, IntKind.bits, hm, e]⟩
theorem At_or (hF : Wide F) {dst : Option Tmp} {t t' ty : TypeId} {x y : Operand} {pos : String} {af : Array Edge} {rest : List Oper} {a b : Nat} (hx : xv n ρ x = .int .u32 (a : Int)) (hy : xv n ρ y = .int .u32 (b : Int)) (ha : a < 4294967296) (hb : b < 4294967296) (h : AL F P n Q ops rest (updO ρ dst (.int .u32 ((a ||| b : Nat) : Int))) ds base R) :
    AL F P n Q ops (⟨dst, .binOp .or t x y t', ty, pos, af, none⟩ :: rest) ρ ds base R := ⟨fun w hw => by
  refine XL_gives hF rfl (by simp) (.inl ?_) (h.use w hw)
  have e : IntKind.u32.wrap ((BitVec.ofInt 32 (a : Int) ||| BitVec.ofInt 32 (b : Int)).toNat : Int) = ((a ||| b : Nat) : Int) := by
    have h1 : (BitVec.ofInt 32 (a : Int) ||| BitVec.ofInt 32 (b : Int)).toNat = a ||| b := by
      rw [BitVec.toNat_or, BitVec.ofInt_natCast, BitVec.ofInt_natCast, BitVec.toNat_ofNat, BitVec.toNat_ofNat, Nat.mod_eq_of_lt ha, Nat.mod_eq_of_lt hb]
    rw [h1]; exact wrap_u32 (Nat.or_lt_two_pow (n := 32) ha hb)
  simp [execOp, hx, hy, eqGuard, binOp, Op.intBits, Sem.run_bind, Result.andThen, Sem.run_pure, IntKind.bits]
  exact e⟩
theorem At_and (hF : Wide F) {dst : Option Tmp} {t t' ty : TypeId} {x y : Operand} {pos : String} {af : Array Edge} {rest : List Oper} {a b : Nat} (hx : xv n ρ x = .int .u32 (a : Int)) (hy : xv n ρ y = .int .u32 (b : Int)) (ha : a < 4294967296) (hb : b < 4294967296) (h : AL F P n Q ops rest (updO ρ dst (.int .u32 ((a &&& b : Nat) : Int))) ds base R) :
    AL F P n Q ops (⟨dst, .binOp .and t x y t', ty, pos, af, none⟩ :: rest) ρ ds base R := ⟨fun w hw => by
  refine XL_gives hF rfl (by simp) (.inl ?_) (h.use w hw)
  have e : IntKind.u32.wrap ((BitVec.ofInt 32 (a : Int) &&& BitVec.ofInt 32 (b : Int)).toNat : Int) = ((a &&& b : Nat) : Int) := by
    have h1 : (BitVec.ofInt 32 (a : Int) &&& BitVec.ofInt 32 (b : Int)).toNat = a &&& b := by
      rw [BitVec.toNat_and, BitVec.ofInt_natCast, BitVec.ofInt_natCast, BitVec.toNat_ofNat, BitVec.toNat_ofNat, Nat.mod_eq_of_lt ha, Nat.mod_eq_of_lt hb]
    rw [h1]; exact wrap_u32 (Nat.lt_of_le_of_lt Nat.and_le_left ha)
  simp [execOp, hx, hy, eqGuard, binOp, Op.intBits, Sem.run_bind, Result.andThen, Sem.run_pure, IntKind.bits]
  exact e⟩
theorem At_shr (hF : Wide F) {dst : Option Tmp} {t t' ty : TypeId} {x y : Operand} {pos : String} {af : Array Edge} {rest : List Oper} {a b : Nat} {yk : IntKind} (hx : xv n ρ x = .int .u32 (a : Int)) (hy : xv n ρ y = .int yk (b : Int)) (hb : b < 32) (h : AL F P n Q ops rest (updO ρ dst (.int .u32 ((a / 2 ^ b : Nat) : Int))) ds base R) :
    AL F P n Q ops (⟨dst, .binOp .shr t x y t', ty, pos, af, none⟩ :: rest) ρ ds base R := ⟨fun w hw => by
  refine XL_gives hF rfl (by simp) (.inl ?_) (h.use w hw)
  have e : (a : Int).fdiv (2 ^ b) = ((a / 2 ^ b : Nat) : Int) := by
    rw [show (2 : Int) ^ b = ((2 ^ b : Nat) : Int) by push_cast; rfl, Int.fdiv_eq_ediv_of_nonneg _ (Int.natCast_nonneg _)]; rfl
  have hm : min b 32 = b := by omega
  simp [execOp, hx, hy, eqGuard, binOp, Op.shift, Sem.run_bind, Result.andThen, Sem.run_pure, IntKind.bits, hm, e]⟩
end
end XW

/- Calls within a fence: a callee that calls yield itself (an iterator's closure that calls itself). -/
namespace XW
open Go Go.RowKit RegInv
set_option linter.unusedSimpArgs false
set_option linter.unusedVariables false
set_option linter.unusedSectionVars false

section
variable {F : Fence} {P : Program} {n : Nat} {Q : Post} {ρ : Nat → Value} {ds : List Deferred} {w base : World} {R : List Res} {ops : Array Oper}
theorem wpIn_callF (hF : Wide F) {o : Oper} (hd : ∀ c, o.op ≠ .defer c) {f : FuncId} {args : Array Value} {w' : World} (hr : (execOp (xv n ρ) o).run P w = .ok (.enter f args) w')
    {S : Value → World → Prop} (hc : CallsIn F 0 P f args w' fun e w'' => ∃ v, e = .returned v ∧ S v w'') {K : Act → World → Prop} {Q' : Exit → Act → World → Prop} (h : ∀ v w'', S v w'' → K (fr n (updO ρ o.dst v) ds) w'') :
    o.wpIn F 0 P (fr n ρ ds) w K Q' := by
  refine ⟨fun f _ => hF.fn f, ?_⟩
  rw [semAt_any _ _ _ hd, eval_fr, hr]
  refine ⟨fun hs => (by rw [hF.depth] at hs; cases hs), hc.mono fun e w'' ⟨v, he, hv⟩ => ?_⟩
  subst he
  show K ((fr n ρ ds).put o.dst v) w''
  rw [put_fr]; exact h v w'' hv
/-- a function value is called: the callee may call what the fence lets it call -/
theorem At_callvF (hF : Wide F) {dst : Option Tmp} {ty : TypeId} {x : Operand} {pos : String} {af : Array Edge} {rest : List Oper} {f : FuncId} {first caps as : Array Value} {args : Array Operand} {ats : Array TypeId} (hE : Enters P f) (hx : xv n ρ x = .func (.func f) first caps) {vs : Array Value} {Post : Value → List Res → Prop} (hv : args.map (xv n ρ) = vs) (has : first ++ vs ++ caps = as)
    (hc : ∀ w, Mem base w R → CallsIn F 0 P f as w fun e w' => ∃ v, e = .returned v ∧ ∃ R', Post v R' ∧ Mem base w' R') (h : ∀ u R', Post u R' → AL F P n Q ops rest (updO ρ dst u) ds base R') :
    AL F P n Q ops (⟨dst, .call { callee := .value x, args := args, argTypes := ats }, ty, pos, af, none⟩ :: rest) ρ ds base R := ⟨fun w hw => by
  have hc' := hc w hw
  have key : ∀ {K : Act → World → Prop} {Q' : Exit → Act → World → Prop}, (∀ v w'', (∃ R', Post v R' ∧ Mem base w'' R') → K (fr n (updO ρ dst v) ds) w'') → Oper.wpIn F 0 P ⟨dst, .call { callee := .value x, args := args, argTypes := ats }, ty, pos, af, none⟩ (fr n ρ ds) w K Q' := fun h =>
    wpIn_callF hF (o := ⟨dst, .call { callee := .value x, args := args, argTypes := ats }, ty, pos, af, none⟩) (by simp) (run_call_value rfl rfl hx hE) (by rw [hv, has]; exact hc') h
  refine wpListIn_plain rfl fun K hK => key fun v w'' ⟨R', h1, h2⟩ => hK _ _ ((h v R' h1).use w'' h2)⟩
end
theorem At_rowSome {base : World} {R : List Res} {Φ : World → Prop} {α : Type} {e sz : Nat} {enc : α → List Value} {A : Option Nat} {c : Nat} {l : List α} (i : Nat) (hi : R[i]? = some (.row e sz enc A c l)) (h0 : 0 < l.length) (h : ∀ b, A = some b → At base R Φ) : At base R Φ := fun w hw => by
  obtain ⟨b, junk, h1, _⟩ := hw.open i hi h0
  exact h b h1 w hw
end XW
