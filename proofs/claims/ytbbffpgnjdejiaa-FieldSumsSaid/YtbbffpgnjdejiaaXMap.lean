/- Maps, over XW: a map as the list of what it holds, in the order in which it came in. -/
import Derived.Test.YtbbffpgnjdejiaaXRange
namespace XW
open Go
set_option linter.unusedSimpArgs false
set_option linter.unusedVariables false

section lists
variable {κ β : Type} [DecidableEq κ]
def mput : List (κ × β) → κ → β → List (κ × β)
  | [], k, v => [(k, v)]
  | (k', v') :: es, k, v => if k' = k then (k', v) :: es else (k', v') :: mput es k v
def mget : List (κ × β) → κ → Option β
  | [], _ => none
  | (k', v') :: es, k => if k' = k then some v' else mget es k
def mdel : List (κ × β) → κ → List (κ × β)
  | [], _ => []
  | (k', v') :: es, k => if k' = k then es else (k', v') :: mdel es k
def fidx : List κ → List Value → κ → Nat → Option (Nat × Value)
  | k' :: ks, v :: vs, k, i => if k' = k then some (i, v) else fidx ks vs k (i + 1)
  | _, _, _, _ => none

theorem mget_mput_same (es : List (κ × β)) (k : κ) (v : β) : mget (mput es k v) k = some v := by
  induction es with
  | nil => simp [mput, mget]
  | cons p es ih =>
    obtain ⟨k', v'⟩ := p
    simp only [mput]
    split
    · simp [mget, *]
    · simp [mget, *]
theorem mget_mput_ne (es : List (κ × β)) {k k2 : κ} (v : β) (h : k2 ≠ k) : mget (mput es k v) k2 = mget es k2 := by
  induction es with
  | nil => simp [mput, mget, Ne.symm h]
  | cons p es ih =>
    obtain ⟨k', v'⟩ := p
    simp only [mput]
    split
    · rename_i e; subst e; simp [mget, Ne.symm h]
    · simp only [mget, ih]
theorem mget_none_iff (es : List (κ × β)) (k : κ) : mget es k = none ↔ k ∉ es.map (·.1) := by
  induction es with
  | nil => simp [mget]
  | cons p es ih =>
    obtain ⟨k', v'⟩ := p
    simp only [mget, List.map_cons, List.mem_cons]
    split
    · rename_i e; simp [e]
    · rename_i e
      rw [ih]
      constructor
      · intro h h2
        rcases h2 with h2 | h2
        · exact e h2.symm
        · exact h h2
      · intro h h2; exact h (.inr h2)
theorem mput_new {es : List (κ × β)} {k : κ} (v : β) (h : mget es k = none) : mput es k v = es ++ [(k, v)] := by
  induction es with
  | nil => rfl
  | cons p es ih =>
    obtain ⟨k', v'⟩ := p
    simp only [mget] at h
    split at h
    · cases h
    · rename_i e; simp [mput, e, ih h]
theorem mput_keys_old {es : List (κ × β)} {k : κ} (v : β) (h : mget es k ≠ none) : (mput es k v).map (·.1) = es.map (·.1) := by
  induction es with
  | nil => simp [mget] at h
  | cons p es ih =>
    obtain ⟨k', v'⟩ := p
    simp only [mget] at h
    simp only [mput]
    split
    · simp
    · rename_i e; rw [if_neg e] at h; simp [ih h]
end lists

/-- block b is a map that holds es -/
def MapL {κ β : Type} (ek : κ → Value) (eb : β → Value) (W : World) (b : Nat) (es : List (κ × β)) : Prop :=
  ∃ (en : Array MapEntry) (clock : Nat), W.heap[b]? = some (.map en clock) ∧ en.toList.map (fun e => (e.key, e.val)) = es.map (fun p => (ek p.1, eb p.2))

structure KeyOk {κ : Type} [DecidableEq κ] (P : Program) (kt : TypeId) (ek : κ → Value) : Prop where
  check : ∀ (W : World) (b : Bool) (k : κ), (Instr.checkKey b 10000 kt (ek k)).run P W = .ok () W
  find : ∀ (W : World) (k : κ) (es : List MapEntry) (ks : List κ), es.map (·.key) = ks.map ek → (Instr.findKey kt (ek k) es).run P W = .ok (fidx ks (es.map (·.val)) k 0) W
  stays : ∀ (k : κ), Instr.sameBits 10000 (ek k) (ek k) = true

theorem findNow_int {ki : IntKind} (a : Int) : ∀ (es : List MapEntry) (ks : List Int) (i : Nat), es.map (·.key) = ks.map (Value.int ki) →
    Instr.findNow (.int ki) (.int ki a) es i = some (fidx ks (es.map (·.val)) a i)
  | [], [], i, _ => rfl
  | [], k :: ks, i, h => by simp at h
  | e :: es, [], i, h => by simp at h
  | e :: es, k :: ks, i, h => by
    simp only [List.map_cons, List.cons.injEq] at h
    have ih := findNow_int a es ks (i + 1) h.2
    simp only [Instr.findNow, h.1, Instr.sameNow, if_true, fidx, List.map_cons]
    by_cases e' : a = k
    · subst e'; simp
    · have : (a == k) = false := by simpa using e'
      simp only [this, ih, if_neg (fun h : k = a => e' h.symm)]

theorem keyOk_int {P : Program} {kt : TypeId} {ki : IntKind} (hu : P.underlying kt = some (.int ki)) : KeyOk P kt (Value.int ki) where
  check W b k := by
    unfold Instr.checkKey
    simp [underlying, program, hu, Sem.run_bind, Sem.run, Result.andThen]
  find W k es ks h := by
    unfold Instr.findKey
    simp [underlying, program, hu, Sem.run_bind, Sem.run, Result.andThen, findNow_int k es ks 0 h]
  stays k := by simp [Instr.sameBits]

theorem mapL_keys {κ β : Type} {ek : κ → Value} {eb : β → Value} {en : Array MapEntry} {es : List (κ × β)} (h : en.toList.map (fun e => (e.key, e.val)) = es.map (fun p => (ek p.1, eb p.2))) :
    en.toList.map (·.key) = (es.map (·.1)).map ek ∧ en.toList.map (·.val) = (es.map (·.2)).map eb := by
  constructor
  · have := congrArg (List.map (·.1)) h
    simpa [List.map_map, Function.comp_def] using this
  · have := congrArg (List.map (·.2)) h
    simpa [List.map_map, Function.comp_def] using this

section
variable {κ β : Type} [DecidableEq κ]
theorem fidx_none {es : List (κ × β)} {eb : β → Value} {k : κ} : ∀ {i : Nat}, mget es k = none → fidx (es.map (·.1)) ((es.map (·.2)).map eb) k i = none := by
  induction es with
  | nil => intro i _; rfl
  | cons p es ih =>
    obtain ⟨k', v'⟩ := p
    intro i h
    simp only [mget] at h
    split at h
    · cases h
    · rename_i e; simp only [List.map_cons, fidx, if_neg e]; exact ih h
theorem fidx_some {es : List (κ × β)} {eb : β → Value} {k : κ} {v : β} : ∀ {i : Nat}, mget es k = some v → ∃ j, fidx (es.map (·.1)) ((es.map (·.2)).map eb) k i = some (i + j, eb v) ∧ j < es.length ∧ (es[j]?).map (·.1) = some k ∧ ∀ u, mput es k u = es.set j (k, u) := by
  induction es with
  | nil => intro i h; simp [mget] at h
  | cons p es ih =>
    obtain ⟨k', v'⟩ := p
    intro i h
    simp only [mget] at h
    split at h
    · rename_i e
      subst e
      cases h
      exact ⟨0, by simp [fidx], by simp, by simp, fun u => by simp [mput]⟩
    · rename_i e
      obtain ⟨j, h1, h2, h3, h4⟩ := ih (i := i + 1) h
      refine ⟨j + 1, ?_, by simpa using h2, by simpa using h3, fun u => ?_⟩
      · simp only [List.map_cons, fidx, if_neg e]; rw [h1]; congr 2; omega
      · simp [mput, e, h4 u]
end

section
variable {F : Fence} {P : Program} {n : Nat} {Q : Post} {ρ : Nat → Value} {ds : List Deferred} {w : World} {ops : Array Oper} {κ β : Type} [DecidableEq κ] {ek : κ → Value} {eb : β → Value}

theorem run_getMap {b : Nat} {en : Array MapEntry} {clock : Nat} (h : w.heap[b]? = some (.map en clock)) : (getObj b).run P w = .ok (.map en clock) w := by simp [getObj, Sem.run, h]
theorem run_setMap {b : Nat} {en : Array MapEntry} {clock : Nat} (o : Obj) (h : w.heap[b]? = some (.map en clock)) : (setObj b o).run P w = .ok () (w.putObj b o) := by simp [setObj, Sem.run, h, World.putObj]

/-- m[k] = v -/
theorem run_mapUpdate {t kt vt : TypeId} (hu : P.underlying t = some (.map kt vt)) (hk : KeyOk P kt ek) {b : Nat} {es : List (κ × β)} (hm : MapL ek eb w b es) (k : κ) (v : β) :
    ∃ o : Obj, (Instr.mapUpdate t (.map (some b)) (ek k) (eb v)).run P w = .ok () (w.putObj b o) ∧ MapL ek eb (w.putObj b o) b (mput es k v) := by
  obtain ⟨en, clock, hb, he⟩ := hm
  obtain ⟨h1, h2⟩ := mapL_keys he
  have hlt : b < w.heap.size := (Array.getElem?_eq_some_iff.1 hb).1
  have hf := hk.find w k en.toList _ h1
  rw [h2] at hf
  cases hg : mget es k with
  | none =>
    rw [fidx_none hg] at hf
    refine ⟨.map (en.push { key := ek k, val := eb v, born := clock }) (clock + 1), ?_, ?_⟩
    · unfold Instr.mapUpdate
      simp only [underlying, program, Sem.run_bind, Sem.run, hu, Result.andThen, Sem.run_pure, run_getMap hb, hk.check, hf, run_setMap _ hb]
    · refine ⟨_, _, World.putObj_heap_same hlt, ?_⟩
      rw [mput_new v hg]
      simp [he]
  | some v0 =>
    obtain ⟨j, hj, hlt', hkey, hput⟩ := fidx_some (eb := eb) (i := 0) hg
    rw [hj] at hf
    have hlen : en.size = es.length := by have := congrArg List.length he; simpa using this
    refine ⟨.map (en.modify (0 + j) fun e => { e with key := ek k, val := eb v }) clock, ?_, ?_⟩
    · have hkk : ((en[0 + j]?).map (·.key)).getD (ek k) = ek k := by
        have : (en.toList.map (·.key))[j]? = some (ek k) := by
          rw [h1]
          obtain ⟨p, hp, hpk⟩ := Option.map_eq_some_iff.1 hkey
          simp [hp, hpk]
        simp only [Nat.zero_add]
        rw [List.getElem?_map] at this
        rw [← Array.getElem?_toList, this]; rfl
      unfold Instr.mapUpdate
      simp only [underlying, program, Sem.run_bind, Sem.run, hu, Result.andThen, Sem.run_pure, run_getMap hb, hk.check, hf, hkk, Instr.keyThatStays, hk.stays, if_true, run_setMap _ hb]
    · refine ⟨_, _, World.putObj_heap_same hlt, ?_⟩
      rw [hput v, Nat.zero_add]
      apply List.ext_getElem?
      intro i
      have hi := congrArg (fun l => l[i]?) he
      simp only [List.getElem?_map, Array.getElem?_toList] at hi
      simp only [List.getElem?_map, Array.getElem?_toList, List.getElem?_set]
      by_cases e : i = j
      · subst e
        rw [if_pos rfl, if_pos hlt', Array.getElem?_modify, if_pos rfl, Array.getElem?_eq_getElem (by omega)]
        simp
      · rw [if_neg (fun h => e h.symm), Array.getElem?_modify, if_neg (fun h => e h.symm)]
        exact hi

theorem XL_mapUpdate (hF : Wide F) {dst : Option Tmp} {t kt vt ty : TypeId} {m x y : Operand} {pos : String} {af : Array Edge} {rest : List Oper} (hu : P.underlying t = some (.map kt vt)) (hk : KeyOk P kt ek) {b : Nat} {es : List (κ × β)} (hm : MapL ek eb w b es) {k : κ} {v : β}
    (hmv : xv n ρ m = .map (some b)) (hx : xv n ρ x = ek k) (hy : xv n ρ y = eb v) (h : ∀ o, MapL ek eb (w.putObj b o) b (mput es k v) → XL F P n Q ops rest (updO ρ dst undef) ds (w.putObj b o)) :
    XL F P n Q ops (⟨dst, .mapUpdate t m x y, ty, pos, af, none⟩ :: rest) ρ ds w := by
  obtain ⟨o, ho, hm'⟩ := run_mapUpdate hu hk hm k v
  refine XL_gives hF rfl (by simp) (.inr ⟨?_, rfl⟩) (h o hm')
  simp only [execOp, hmv, hx, hy]
  rw [Sem.run_bind, ho]; rfl

/-- make(map[K]V) -/
theorem XL_makeMap (hF : Wide F) {dst : Option Tmp} {t ty : TypeId} {pos : String} {af : Array Edge} {rest : List Oper} (h : XL F P n Q ops rest (updO ρ dst (.map (some w.heap.size))) ds (w.alloc (.map #[] 0))) :
    XL F P n Q ops (⟨dst, .makeMap t none, ty, pos, af, none⟩ :: rest) ρ ds w :=
  XL_gives hF rfl (by simp) (.inl (by simp [execOp, Instr.makeMap, newObj, Sem.run_bind, Sem.run, Result.andThen])) h
theorem mapL_new {κ β : Type} {ek : κ → Value} {eb : β → Value} (W : World) : MapL ek eb (W.alloc (.map #[] 0)) W.heap.size [] := ⟨#[], 0, World.alloc_heap_new W _, rfl⟩

theorem MapL.eq {κ β : Type} {ek : κ → Value} {eb : β → Value} {W W' : World} {b : Nat} {es : List (κ × β)} (h : MapL ek eb W b es) (he : W'.heap[b]? = W.heap[b]?) : MapL ek eb W' b es := by
  obtain ⟨en, clock, hb, hm⟩ := h
  exact ⟨en, clock, he.trans hb, hm⟩

/-- len(m) -/
theorem XL_mapLen {κ β : Type} {ek : κ → Value} {eb : β → Value} (hF : Wide F) {dst : Option Tmp} {t kt vt ty : TypeId} {x : Operand} {pos : String} {af : Array Edge} {rest : List Oper} (hu : P.underlying t = some (.map kt vt)) {b : Nat} {es : List (κ × β)} (hm : MapL ek eb w b es) (hx : xv n ρ x = .map (some b))
    (h : XL F P n Q ops rest (updO ρ dst (.int .i64 es.length)) ds w) : XL F P n Q ops (⟨dst, .call { callee := .builtin .len, args := #[x], argTypes := #[t] }, ty, pos, af, none⟩ :: rest) ρ ds w := by
  obtain ⟨en, clock, hb, he⟩ := hm
  have hlen : en.size = es.length := by have := congrArg List.length he; simpa using this
  refine XL_gives hF rfl (by simp) (.inl ?_) h
  simp [execOp, resolve, invoke, builtin, Builtin.len_, hx, underlying, program, hu, goInt, Sem.run_bind, Sem.run, Result.andThen, run_getMap hb, hlen]

/-- m[k] and v, ok := m[k] -/
theorem run_lookup {t kt vt : TypeId} (hu : P.underlying t = some (.map kt vt)) (hk : KeyOk P kt ek) {b : Nat} {es : List (κ × β)} (hm : MapL ek eb w b es) (k : κ) {z : Value} {i : TypeInfo} (hi : P.info? vt = some i) (hz : i.zero = some z) (ok : Bool) :
    (Instr.lookup t (.map (some b)) (ek k) ok).run P w = .ok (if ok then .tuple #[((mget es k).map eb).getD z, .bool (mget es k).isSome] else ((mget es k).map eb).getD z) w := by
  obtain ⟨en, clock, hb, he⟩ := hm
  obtain ⟨h1, h2⟩ := mapL_keys he
  have hf := hk.find w k en.toList _ h1
  rw [h2] at hf
  unfold Instr.lookup
  cases hg : mget es k with
  | none =>
    rw [fidx_none hg] at hf
    simp only [underlying, program, Sem.run_bind, Sem.run, hu, Result.andThen, Sem.run_pure, run_getMap hb, hk.check, hf, zeroValue, typeInfo, hi, hz, pure_bind]
    cases ok <;> rfl
  | some v0 =>
    obtain ⟨j, hj, -⟩ := fidx_some (eb := eb) (i := 0) hg
    rw [hj] at hf
    simp only [underlying, program, Sem.run_bind, Sem.run, hu, Result.andThen, Sem.run_pure, run_getMap hb, hk.check, hf, pure_bind]
    cases ok <;> rfl
theorem XL_lookup (hF : Wide F) {dst : Option Tmp} {t kt vt ty : TypeId} {m x : Operand} {ok : Bool} {pos : String} {af : Array Edge} {rest : List Oper} (hu : P.underlying t = some (.map kt vt)) (hk : KeyOk P kt ek) {b : Nat} {es : List (κ × β)} (hm : MapL ek eb w b es) {k : κ} {z : Value} {i : TypeInfo} (hi : P.info? vt = some i) (hz : i.zero = some z)
    (hmv : xv n ρ m = .map (some b)) (hx : xv n ρ x = ek k) (h : XL F P n Q ops rest (updO ρ dst (if ok then .tuple #[((mget es k).map eb).getD z, .bool (mget es k).isSome] else ((mget es k).map eb).getD z)) ds w) :
    XL F P n Q ops (⟨dst, .lookup t m x ok, ty, pos, af, none⟩ :: rest) ρ ds w := by
  refine XL_gives hF rfl (by simp) (.inl ?_) h
  simp only [execOp, hmv, hx]
  rw [Sem.run_bind, run_lookup hu hk hm k hi hz ok]; rfl
end
end XW
