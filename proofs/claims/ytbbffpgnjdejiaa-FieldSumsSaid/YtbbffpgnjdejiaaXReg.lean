/- Regions that draw their order, over XW; marks at a function's end. -/
import Derived.Test.YtbbffpgnjdejiaaXMem
import Derived.Test.YtbbffpgnjdejiaaRegInv
namespace XW
open Go Go.RowKit RegInv
set_option linter.unusedSimpArgs false
set_option linter.unusedVariables false

section
variable {F : Fence} {P : Program} {n : Nat} {Q : Post} {ρ : Nat → Value} {ds : List Deferred} {w : World} {ops : Array Oper}

theorem X_region_inv (hF : Wide F) {id : Nat} (hm : P.follows .mixedOrders = true) (ho : ordered ops = true) (I : (Nat → Bool) → (Nat → Value) → List Deferred → World → Prop)
    (h0 : I (fun _ => false) ρ ds (w.drewN 1))
    (hstep : ∀ (i : Nat) (o : Oper), i < ops.size → ops[i]? = some o → ∀ b ρ ds w, I b ρ ds w → b i = false → (∀ j ∈ deps ops i, b j = true) → XL F P n (Then (fun ρ' ds' w' => I (upb b i) ρ' ds' w') Q) ops [o] ρ ds w)
    (hend : ∀ b ρ ds w, (∀ i, i < ops.size → b i = true) → I b ρ ds w → Q .normal ρ ds w) : X F P n Q (.region id ops true) ρ ds w := by
  refine region_inv hm ho (fun b a w => ∃ ρ ds, a = fr n ρ ds ∧ I b ρ ds w) ⟨ρ, ds, rfl, h0⟩ ?_ (fun b a w hall ⟨ρ, ds, ha, hI⟩ => ⟨ρ, ds, ha, hend b ρ ds w hall hI⟩)
  rintro i hi b a w ⟨ρ, ds, rfl, hI⟩ hbi hd
  have hoi : ops[i]? = some ops[i] := Array.getElem?_eq_getElem hi
  have h := hstep i ops[i] hi hoi b ρ ds w hI hbi hd
  unfold wpOpIn
  rw [hoi]
  simp only
  have h' : wpListIn F 0 P ops (lift n (Then (fun ρ' ds' w' => I (upb b i) ρ' ds' w') Q)) [ops[i]] (fr n ρ ds) w := h
  unfold wpListIn at h'
  split
  · rename_i hw
    rw [if_pos hw] at h'
    refine Oper.wpIn_mono ?_ (wpIn_post h')
    exact fun a w h => h
  · rename_i hw
    rw [if_neg hw] at h'
    exact h'
where
  wpIn_post {i : Nat} {o : Oper} {b : Nat → Bool} {I : (Nat → Bool) → (Nat → Value) → List Deferred → World → Prop} {a : Act} {w : World} {K : Act → World → Prop} (h : o.wpIn F 0 P a w K (lift n (Then (fun ρ' ds' w' => I (upb b i) ρ' ds' w') Q))) : o.wpIn F 0 P a w K (lift n Q) := by
    refine ⟨h.1, ?_⟩
    have h2 := h.2
    generalize (o.semAt F.round a.eval).run P w = r at *
    cases r with
    | ok x w' =>
      cases x <;> simp only [Oper.uponIn] at h2 ⊢ <;>
        first
          | exact h2
          | exact ⟨h2.1, CallsIn.mono h2.2 (fun e w'' he => by cases e <;> first | exact he | (obtain ⟨a, w, ρ, ds, ha, hq⟩ := he; exact ⟨a, w, ρ, ds, ha, hq⟩) | (obtain ⟨ρ, ds, ha, hq⟩ := he; exact ⟨ρ, ds, ha, hq⟩))⟩
          | exact ⟨h2.1, RoundIn.mono h2.2 (fun e w'' he => by cases e <;> first | exact he | (obtain ⟨a, w, ρ, ds, ha, hq⟩ := he; exact ⟨a, w, ρ, ds, ha, hq⟩) | (obtain ⟨ρ, ds, ha, hq⟩ := he; exact ⟨ρ, ds, ha, hq⟩))⟩
    | halt x w' => cases x <;> simp only [Oper.uponIn] at h2 ⊢ <;> first | exact h2 | (obtain ⟨ρ, ds, ha, hq⟩ := h2; exact ⟨ρ, ds, ha, hq⟩)

/-- the same, with what has run closed under what it waits for -/
theorem X_region_closed (hF : Wide F) {id : Nat} (hm : P.follows .mixedOrders = true) (ho : ordered ops = true) (I : (Nat → Bool) → (Nat → Value) → List Deferred → World → Prop)
    (h0 : I (fun _ => false) ρ ds (w.drewN 1))
    (hstep : ∀ (i : Nat) (o : Oper), i < ops.size → ops[i]? = some o → ∀ b ρ ds w, I b ρ ds w → b i = false → (∀ j ∈ deps ops i, b j = true) → (∀ i', b i' = true → ∀ j ∈ deps ops i', b j = true) →
      ∀ K : (Nat → Value) → List Deferred → World → Prop, (∀ ρ' ds' w', I (upb b i) ρ' ds' w' → K ρ' ds' w') → XL F P n (Then K Q) ops [o] ρ ds w)
    (hend : ∀ b ρ ds w, (∀ i, i < ops.size → b i = true) → I b ρ ds w → Q .normal ρ ds w) : X F P n Q (.region id ops true) ρ ds w := by
  refine X_region_inv hF hm ho (fun b ρ ds w => I b ρ ds w ∧ ∀ i', b i' = true → ∀ j ∈ deps ops i', b j = true) ⟨h0, fun i' h => by cases h⟩ ?_ (fun b ρ ds w hall h => hend b ρ ds w hall h.1)
  rintro i o hi ho' b ρ ds w ⟨hI, hc⟩ hb hd
  refine hstep i o hi ho' b ρ ds w hI hb hd hc _ (fun ρ' ds' w' hq => ⟨hq, fun i' h' j hj => ?_⟩)
  rcases upb_or h' with rfl | ⟨_, h'⟩
  · have hne : j ≠ i' := by rintro rfl; rw [hd _ hj] at hb; cases hb
    rw [upb_ne hne]; exact hd j hj
  · have := hc i' h' j hj
    by_cases e : j = i
    · rw [e, upb_self]
    · rw [upb_ne e]; exact this

/-- only chance was drawn -/
def Drew (w w' : World) : Prop := ∃ n, w' = w.drewN n
theorem Drew.refl (w : World) : Drew w w := ⟨0, rfl⟩
theorem Drew.trans {a b c : World} : Drew a b → Drew b c → Drew a c := by
  rintro ⟨n, rfl⟩ ⟨m, rfl⟩
  exact ⟨n + m, by simp [World.drewN, Nat.add_assoc]⟩
theorem Drew.heap {w w' : World} (h : Drew w w') : w'.heap = w.heap := by obtain ⟨n, rfl⟩ := h; rfl
/-- a region whose operations only compute: operation i writes val i to the slot dst i -/
structure PR (ρ0 : Nat → Value) (ds0 : List Deferred) (w0 : World) (m : Nat) (dst : Nat → Nat) (val : Nat → Value) (b : Nat → Bool) (ρ : Nat → Value) (ds : List Deferred) (w : World) : Prop where
  dse : ds = ds0
  drawn : Drew w0 w
  val : ∀ i, i < m → b i = true → ρ (dst i) = val i
  keep : ∀ t, (∀ i, i < m → dst i ≠ t) → ρ t = ρ0 t
theorem PR.start (ρ0 : Nat → Value) (ds0 : List Deferred) {w0 w : World} (m : Nat) (dst : Nat → Nat) (val : Nat → Value) (h : Drew w0 w) : PR ρ0 ds0 w0 m dst val (fun _ => false) ρ0 ds0 w := ⟨rfl, h, fun _ _ h => (by cases h), fun _ _ => rfl⟩
theorem PR.step {ρ0 : Nat → Value} {ds0 : List Deferred} {w0 w w' : World} {m : Nat} {dst : Nat → Nat} {val : Nat → Value} {b : Nat → Bool} (h : PR ρ0 ds0 w0 m dst val b ρ ds w) (hinj : ∀ i, i < m → ∀ j, j < m → dst i = dst j → i = j) {i : Nat} (hi : i < m) (hd : Drew w w') :
    PR ρ0 ds0 w0 m dst val (upb b i) (upd ρ (dst i) (val i)) ds w' := by
  refine ⟨h.dse, h.drawn.trans hd, ?_, ?_⟩
  · intro j hj hb
    by_cases e : j = i
    · subst e; simp [upd]
    · rw [upb_ne e] at hb
      have : dst j ≠ dst i := fun e' => e (hinj j hj i hi e')
      simp only [upd]; rw [if_neg this]; exact h.val j hj hb
  · intro t ht
    have : t ≠ dst i := fun e => ht i hi e.symm
    simp only [upd]; rw [if_neg this]; exact h.keep t ht

/-- the mark of a range over a function -/
def mk (D : Nat) : Deferred := { target := .collected D, args := #[] }
theorem leaves_marks {fn : Func} {tmps : Array Value} {R : Ending → World → Prop} {v : Value} {B : Nat} : ∀ (Ds : List Nat) (W : World), Ds.Nodup → (∀ D ∈ Ds, B ≤ D ∧ W.heap[D]? = some (.deferred (some []))) →
    (∀ W', Below B W W' → (results fn tmps).run P W' = .ok v W' ∧ R (.returned v) W') → LeavesInM F 0 P fn tmps R (Ds.map mk) .returning W
  | [], W, _, _, h => ⟨v, (h W (Below.refl _ _)).1, (h W (Below.refl _ _)).2⟩
  | D :: Ds, W, hn, hm, h => by
    have hn' := List.nodup_cons.1 hn
    obtain ⟨hB, hD⟩ := hm D (by simp)
    refine ⟨by simp, .inl ⟨D, _, rfl, run_takeDeferred hD, ?_⟩⟩
    refine leaves_marks Ds _ hn'.2 (fun D' hD' => ⟨(hm D' (by simp [hD'])).1, get_put_other (hm D' (by simp [hD'])).2 (fun e : D' = D => hn'.1 (e ▸ hD')) _⟩) (fun W' hb => h W' ?_)
    refine Below.trans ?_ hb
    exact ⟨rfl, rfl, rfl, by rw [size_put]; exact Nat.le_refl _, fun k hk => World.putObj_heap_other (by omega)⟩
theorem body_ret_marks {fn : Func} {R : Ending → World → Prop} {v : Value} {B : Nat} {Ds : List Nat} (hn : Ds.Nodup) (hm : ∀ D ∈ Ds, B ≤ D ∧ w.heap[D]? = some (.deferred (some [])))
    (h : ∀ W', Below B w W' → (results fn (fr n ρ (Ds.map mk)).tmps).run P W' = .ok v W' ∧ R (.returned v) W') : Body F P n fn R .ret ρ (Ds.map mk) w := leaves_marks Ds w hn hm h

theorem Chg.fix {S : Nat → Prop} {w w' : World} {l : Nat} (h : Chg (fun b => S b ∨ b = l) w w') (hl : w'.heap[l]? = w.heap[l]?) : Chg S w w' :=
  ⟨h.os, h.tape, h.output, h.size, fun k hk hs => by
    by_cases e : k = l
    · subst e; exact hl
    · exact h.block k hk (fun h => h.elim hs e)⟩
end
end XW
