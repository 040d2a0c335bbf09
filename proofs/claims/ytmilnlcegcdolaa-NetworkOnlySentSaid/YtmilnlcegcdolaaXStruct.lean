/- Struct literals; calls after which one goes on from the new memory. -/
import Derived.Test.YtmilnlcegcdolaaXB
namespace XW
open Go Go.RowKit
set_option linter.unusedSimpArgs false
set_option linter.unusedVariables false
set_option linter.unusedSectionVars false

/-- a struct's fields: their places and sizes -/
class TB (P : Program) (t : TypeId) where
  pl : List (Nat × Nat)
  h : ∃ fs, P.underlying t = some (.struct fs) ∧ ∀ W, (fs.mapM fun f => do pure (f.offset, ← Go.sizeOf f.type) : Sem (Array (Nat × Nat))).run P W = .ok pl.toArray W

section
variable {F : Fence} {P : Program} {n : Nat} {Q : Post} {ρ : Nat → Value} {ds : List Deferred} {w base : World} {R R' : List Res} {ops : Array Oper} {Φ : World → Prop}
variable (hF : Wide F) {dst : Option Tmp} {t ty : TypeId} {x y z u : Operand} {pos : String} {af : Array Edge} {rest : List Oper}
include hF
theorem At_buildS {parts : Array (Nat × Operand)} {ps : List (Nat × Value)} {cs : Array Value} [Z : TZ P t] [B : TB P t] (hp : parts.toList.map (fun x => (x.fst, xv n ρ x.snd)) = ps) (hf : Instr.fill (fun i => B.pl[i]?) Z.z.cells ps = some cs)
    (h : AL F P n Q ops rest (updO ρ dst (.agg cs)) ds base R) : AL F P n Q ops (⟨dst, .build t parts, ty, pos, af, none⟩ :: rest) ρ ds base R := ⟨fun w hw => XL_gives hF rfl (by simp) (.inl (by
    obtain ⟨fs, hu, hm⟩ := B.h
    obtain ⟨i', hi', hz'⟩ := Z.h
    have hm' := hm w
    have hpl : ∀ i : Nat, B.pl.toArray[i]? = B.pl[i]? := fun i => by simp
    have e : (Instr.build t (parts.map fun x => (x.fst, xv n ρ x.snd))).run P w = .ok (.agg cs) w := by
      unfold Instr.build
      have hps : (parts.map fun x => (x.fst, xv n ρ x.snd)).toList = ps := by rw [Array.toList_map]; exact hp
      have h0 : (zeroValue t).run P w = .ok Z.z w := by simp [zeroValue, typeInfo, program, hi', hz', Sem.run_bind, Sem.run, Result.andThen]
      have h1 : (underlying t).run P w = .ok (.struct fs) w := by simp [underlying, program, hu, Sem.run_bind, Sem.run, Result.andThen]
      rw [Sem.run_bind, h0]
      simp only [Result.andThen]
      rw [Sem.run_bind, h1]
      simp only [Result.andThen]
      rw [Sem.run_bind, hm']
      simp only [Result.andThen]
      have hf2 : Instr.fill (fun x => B.pl.toArray[x]?) Z.z.cells (parts.map fun x => (x.fst, xv n ρ x.snd)).toList = some cs := by
        rw [hps]; rw [← hf]; congr 1; funext i; exact hpl i
      rw [hf2]; rfl
    simp only [execOp]
    rw [Sem.run_bind, e]; rfl)) (h.use w hw)⟩
/-- a call of which facts about the new memory are told -/
theorem At_callR {f : FuncId} {args : Array Operand} {ats : Array TypeId} (hE : Enters P f) (ha : F.alive = false) {vs : Array Value} {Post : Value → World → World → Prop} (hv : args.map (xv n ρ) = vs) (hc : ∀ w, Mem base w R → Rets P f vs w (Post · w)) (h : ∀ u w w', Mem base w R → Post u w w' → AL F P n Q ops rest (updO ρ dst u) ds w' []) :
    AL F P n Q ops (⟨dst, .call { callee := .value (.func f), args := args, argTypes := ats }, ty, pos, af, none⟩ :: rest) ρ ds base R := At_call hF hE ha hv hc fun u w w' hw hp => (h u w w' hw hp).use w' (Mem.start w')
/-- a call of which facts about the new memory are told; what lay below has not turned -/
theorem At_callK {f : FuncId} {args : Array Operand} {ats : Array TypeId} (hE : Enters P f) (ha : F.alive = false) {vs : Array Value} {Post : Value → World → Prop} (hv : args.map (xv n ρ) = vs) (hc : ∀ w, Mem base w R → Rets P f vs w fun u w' => Post u w' ∧ Below w.heap.size w w') (h : ∀ u w', Below base.heap.size base w' → Post u w' → AL F P n Q ops rest (updO ρ dst u) ds w' []) :
    AL F P n Q ops (⟨dst, .call { callee := .value (.func f), args := args, argTypes := ats }, ty, pos, af, none⟩ :: rest) ρ ds base R := At_callR hF hE ha hv hc fun u w w' hw hp => h u w' (hw.below.trans (hp.2.mono hw.size)) hp.1
end
end XW
