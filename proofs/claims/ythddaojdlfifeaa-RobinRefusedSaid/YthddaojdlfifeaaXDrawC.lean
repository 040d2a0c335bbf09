import Derived.Test.YthddaojdlfifeaaXB
/- Ranges over functions whose parameters lie in memory of their own. -/
namespace XW
open Go Go.RowKit RegInv
set_option linter.unusedSimpArgs false
set_option linter.unusedVariables false
set_option linter.unusedSectionVars false

section
variable {F : Fence} {P : Program} {n : Nat} {Q : Post} {ρ : Nat → Value} {ds : List Deferred} {w base : World} {R R' : List Res} {ops : Array Oper}
/-- the consumer's round -/
theorem yieldOk_ofX (hF : Wide F) {l : Nat} {rec : Loop} {ι σ : Type} {args : ι → Array Value} {Pre : List ι → Prop} {Rs : σ → List Res} {φ : List ι → σ → Prop} {ψ : Exit → σ → Prop} (hp : rec.pending = none) (hst : rec.state = .ready) (hsz : ∀ a, (args a).size = rec.params.size) (htm : rec.tmps = (fr n ρ []).tmps)
    (has : ∀ (a : ι) (w : World) (Q' : Post), Q' .normal (updL ρ (rec.params.toList.zip (args a).toList)) [] w → True)
    (hround : ∀ (Ri : List Res) (xs : List ι) (a : ι) (s : σ), φ xs s → Pre (xs ++ [a]) →
      At base (.obj l (.loop rec) :: (Rs s ++ Ri)) (X (F.inRound l) P n (fun e ρ' ds' w' => e = .normal ∧ ∃ Rx, Mem base w' (.obj l (.loop rec) :: (Rx ++ (Rs s ++ Ri))) ∧
        At base (.obj l (.loop { rec with state := .busy }) :: (Rx ++ (Rs s ++ Ri))) (X (F.inRound l) P n (RndQ base l rec Rs Ri (φ (xs ++ [a])) ψ) rec.body ρ' ds')) rec.assign (updL ρ (rec.params.toList.zip (args a).toList)) [])) :
    YieldOk F P l base args Pre (fun s : σ × Option Exit => .obj l (.loop (recOf rec s.2)) :: Rs s.1) (fun xs s => s.2 = none ∧ φ xs s.1) (fun s => ∃ e, s.2 = some e ∧ (pend e).isSome ∧ ψ e s.1) := by
  rintro Ri xs a ⟨s, ex⟩ ⟨hn, hφ⟩ hpre w hw
  simp only at hn hφ
  subst hn
  have hrec : recOf rec none = rec := by cases rec; simp only at hp hst; subst hp hst; rfl
  have hw' : Mem base w (.obj l (.loop rec) :: (Rs s ++ Ri)) := by
    simp only [hrec] at hw
    exact hw.perm (by
      rw [← List.cons_append]
      exact List.perm_append_comm)
  refine yieldC_of hF (hw'.at_ 0 rfl) hst (hsz a) htm (X_mono (hround Ri xs a s hφ hpre w hw') ?_)
  rintro e ρ' ds' w1 ⟨rfl, Rx, hm, hb⟩
  refine ⟨hm.at_ 0 rfl, X_mono (hb _ hm.put0) ?_⟩
  intro e ρ'' ds'' w2 hq
  have hback : ∀ {w2 : World} {s' : σ} {o : Obj}, Mem base w2 (.obj l o :: (Rs s' ++ Ri)) → ∀ o', Mem base (w2.putObj l o') (Ri ++ (.obj l o' :: Rs s')) := fun h o' => h.put0.perm (by
    rw [← List.cons_append]
    exact List.perm_append_comm)
  cases e with
  | normal =>
    obtain ⟨s', h1, h2⟩ := hq
    exact ⟨h2.at_ 0 rfl, (s', none), hback h2 _, fun _ => ⟨rfl, h1⟩, fun h => by cases h⟩
  | ret =>
    obtain ⟨s', h1, h2⟩ := hq
    exact ⟨h2.at_ 0 rfl, (s', some .ret), hback h2 _, fun h => (by cases h), fun _ => ⟨_, rfl, rfl, h1⟩⟩
  | exit id =>
    obtain ⟨s', h1, h2⟩ := hq
    exact ⟨h2.at_ 0 rfl, (s', some (.exit id)), hback h2 _, fun h => (by cases h), fun _ => ⟨_, rfl, rfl, h1⟩⟩
  | goto t => exact hq.elim
  | panic ch => exact hq.elim
  | outgrown => exact hq.elim

/-- the statement, outside a round -/
theorem At_rangeX (hF : Wide F) (ha : F.alive = false) (hro : F.round = none) {g : Operand} {ps : Array Tmp} {assign body : Code} {gf : FuncId} {caps : Array Value} (hg : xv n ρ g = .func (.func gf) #[] caps) (hE : Enters P gf)
    {ι σ : Type} (Rit : List Res) (args : ι → Array Value) (Pre All : List ι → Prop) (hit : IterOk F P gf caps base Rit args Pre All)
    (Rs : σ → List Res) (φ : List ι → σ → Prop) (ψ : Exit → σ → Prop) (s0 : σ) (hR : (Rit ++ Rs s0).Sublist R) (h0 : φ [] s0) (hsz : ∀ a, (args a).size = ps.size)
    (hround : ∀ (l : Nat) (rec : Loop) (Ri : List Res) (xs : List ι) (a : ι) (s : σ), φ xs s → Pre (xs ++ [a]) →
      At base (.obj l (.loop rec) :: (Rs s ++ Ri)) (X (F.inRound l) P n (fun e ρ' ds' w' => e = .normal ∧ ∃ Rx, Mem base w' (.obj l (.loop rec) :: (Rx ++ (Rs s ++ Ri))) ∧
        At base (.obj l (.loop { rec with state := .busy }) :: (Rx ++ (Rs s ++ Ri))) (X (F.inRound l) P n (RndQ base l rec Rs Ri (φ (xs ++ [a])) ψ) body ρ' ds')) assign (updL ρ (ps.toList.zip (args a).toList)) []))
    (hafter : ∀ D xs s, All xs → φ xs s → At base (.obj D (.deferred (some [])) :: (Rit ++ Rs s)) (Q .normal ρ (mk D :: ds)))
    (hexit : ∀ D e s, (pend e).isSome → ψ e s → At base (.obj D (.deferred (some [])) :: (Rit ++ Rs s)) (Q e ρ (mk D :: ds))) :
    At base R (X F P n Q (.rangeFunc g ps assign body) ρ ds) := fun w hw => by
  refine X_range hF ha hro hg hE (fun fn => ?_)
  have hw0 := hw.sub hR
  have hw1 : Mem base ((w.alloc (.deferred (some []))).alloc (.loop { state := .ready, pending := none, fn := fn, tmps := (fr n ρ []).tmps, params := ps, assign := assign, body := body, defers := w.heap.size }))
      (Rit ++ (.obj (w.heap.size + 1) (.loop { state := .ready, pending := none, fn := fn, tmps := (fr n ρ []).tmps, params := ps, assign := assign, body := body, defers := w.heap.size }) :: (Rs s0 ++ [.obj w.heap.size (.deferred (some []))]))) := by
    have h2 := (hw0.alloc (.deferred (some []))).alloc (.loop { state := .ready, pending := none, fn := fn, tmps := (fr n ρ []).tmps, params := ps, assign := assign, body := body, defers := w.heap.size })
    rw [size_alloc] at h2
    refine h2.perm ?_
    have e1 : ∀ (a b : Res) (A B : List Res), (A ++ (a :: (B ++ [b]))).Perm (a :: b :: (A ++ B)) := fun a b A B =>
      (List.perm_middle).trans ((((List.append_assoc A B [b]).symm ▸ List.perm_append_singleton b (A ++ B))).cons a)
    exact e1 _ _ _ _
  have hy := yieldOk_ofX (F := F) (P := P) (n := n) (ρ := ρ) (base := base) hF (l := w.heap.size + 1) (rec := { state := .ready, pending := none, fn := fn, tmps := (fr n ρ []).tmps, params := ps, assign := assign, body := body, defers := w.heap.size })
    (args := args) (Pre := Pre) (Rs := fun s => Rs s ++ [.obj w.heap.size (.deferred (some []))]) (φ := φ) (ψ := ψ) rfl rfl hsz rfl (fun _ _ _ _ => trivial)
    (fun Ri xs a s h1 h2 => by
      have := hround (w.heap.size + 1) { state := .ready, pending := none, fn := fn, tmps := (fr n ρ []).tmps, params := ps, assign := assign, body := body, defers := w.heap.size } (.obj w.heap.size (.deferred (some [])) :: Ri) xs a s h1 h2
      have e : ∀ s, Rs s ++ [Res.obj w.heap.size (.deferred (some []))] ++ Ri = Rs s ++ (.obj w.heap.size (.deferred (some [])) :: Ri) := fun s => by simp
      have eq : ∀ φ', RndQ base (w.heap.size + 1) { state := .ready, pending := none, fn := fn, tmps := (fr n ρ []).tmps, params := ps, assign := assign, body := body, defers := w.heap.size } (fun s => Rs s ++ [Res.obj w.heap.size (.deferred (some []))]) Ri φ' ψ =
          RndQ base (w.heap.size + 1) { state := .ready, pending := none, fn := fn, tmps := (fr n ρ []).tmps, params := ps, assign := assign, body := body, defers := w.heap.size } Rs (.obj w.heap.size (.deferred (some [])) :: Ri) φ' ψ := fun φ' => by
        funext e ρ ds w'
        cases e <;> simp [RndQ]
      simp only [e, eq]
      exact this)
  have := hit (σ × Option Exit) (w.heap.size + 1) _ _ _ hy (s0, none) ⟨rfl, h0⟩ _ hw1
  refine CallsIn.mono this ?_
  rintro e w' ⟨v, ⟨s, ex⟩, rfl, hm, hend⟩
  have hm' : Mem base w' (.obj (w.heap.size + 1) (.loop (recOf { state := .ready, pending := none, fn := fn, tmps := (fr n ρ []).tmps, params := ps, assign := assign, body := body, defers := w.heap.size } ex)) :: .obj w.heap.size (.deferred (some [])) :: (Rit ++ Rs s)) := by
    refine hm.perm ?_
    have e1 : ∀ (a b : Res) (A B : List Res), (a :: b :: (A ++ B)).Perm (A ++ (a :: (B ++ [b]))) := fun a b A B =>
      ((List.perm_middle).trans ((((List.append_assoc A B [b]).symm ▸ List.perm_append_singleton b (A ++ B))).cons a)).symm
    exact e1 _ _ _ _
  refine ⟨v, rfl, _, hm'.at_ 0 rfl, ?_, ?_⟩
  · cases ex <;> simp [recOf]
  · have hm2 := hm'.put0 (o' := .loop { recOf { state := .ready, pending := none, fn := fn, tmps := (fr n ρ []).tmps, params := ps, assign := assign, body := body, defers := w.heap.size } ex with state := .exhausted })
    have hm3 := hm2.sub (List.sublist_cons_self _ _)
    rcases hend with ⟨xs, hall, he, hφ⟩ | ⟨e, he, hpe, hψ⟩
    · simp only at he hφ
      subst he
      exact hafter _ xs s hall hφ _ hm3
    · simp only at he hψ
      subst he
      cases e with
      | ret => exact X_ret (hexit _ .ret s rfl hψ _ hm3)
      | exit id => exact X_exit (hexit _ (.exit id) s rfl hψ _ hm3)
      | _ => cases hpe

end
end XW

/- Ranges over functions whose parameters lie in memory of their own, and whose elements own memory. -/
namespace XW
open Go Go.RowKit RegInv
set_option linter.unusedSimpArgs false
set_option linter.unusedVariables false
set_option linter.unusedSectionVars false

def YieldOkG (F : Fence) (P : Program) (l : Nat) (base : World) {ι σ : Type} (args : ι → Array Value) (Gv : ι → List Res → Prop) (Pre : List ι → Prop) (Rc : σ → List Res) (φ : List ι → σ → Prop) (ψ : σ → Prop) : Prop :=
  ∀ (Ri : List Res) (xs : List ι) (x : ι) (s : σ), Gv x Ri → φ xs s → Pre (xs ++ [x]) → ∀ w, Mem base w (Ri ++ Rc s) →
    YieldC F P l (args x) w fun b w' => ∃ s', Mem base w' (Ri ++ Rc s') ∧ (b = true → φ (xs ++ [x]) s') ∧ (b = false → ψ s')
def IterOkG (F : Fence) (P : Program) (gf : FuncId) (caps : Array Value) (base : World) {ι : Type} (Rit : List Res) (args : ι → Array Value) (Gv : ι → List Res → Prop) (Pre All : List ι → Prop) : Prop :=
  ∀ (σ : Type) (l : Nat) (Rc : σ → List Res) (φ : List ι → σ → Prop) (ψ : σ → Prop), YieldOkG F P l base args Gv Pre Rc φ ψ →
    ∀ s0, φ [] s0 → ∀ w, Mem base w (Rit ++ Rc s0) → CallsIn F 0 P gf (#[.func (.yield l) #[] #[]] ++ caps) w fun e w' =>
      ∃ v s, e = .returned v ∧ Mem base w' (Rit ++ Rc s) ∧ ((∃ xs, All xs ∧ φ xs s) ∨ ψ s)
section
variable {F : Fence} {P : Program} {n : Nat} {Q : Post} {ρ : Nat → Value} {ds : List Deferred} {w base : World} {R R' : List Res} {ops : Array Oper}
theorem At_yieldG (hF : Wide F) (ha : F.alive = false) {dst : Option Tmp} {x : Operand} {l : Nat} {as : Array Operand} {ats : Array TypeId} {ty : TypeId} {pos : String} {af : Array Edge} {rest : List Oper}
    {ι σ : Type} {args : ι → Array Value} {Gv : ι → List Res → Prop} {Pre : List ι → Prop} {Rc : σ → List Res} {φ : List ι → σ → Prop} {ψ : σ → Prop} (hy : YieldOkG F P l base args Gv Pre Rc φ ψ) (Ri : List Res) {xs : List ι} {s : σ} (a : ι) (hg : Gv a Ri) (hp : φ xs s) (hpre : Pre (xs ++ [a]))
    (hR : R = Ri ++ Rc s) (hx : xv n ρ x = .func (.yield l) #[] #[]) (hv : as.map (xv n ρ) = args a)
    (h1 : ∀ s', φ (xs ++ [a]) s' → AL F P n Q ops rest (updO ρ dst (.bool true)) ds base (Ri ++ Rc s')) (h2 : ∀ s', ψ s' → AL F P n Q ops rest (updO ρ dst (.bool false)) ds base (Ri ++ Rc s')) :
    AL F P n Q ops (⟨dst, .call { callee := .value x, args := as, argTypes := ats }, ty, pos, af, none⟩ :: rest) ρ ds base R := ⟨fun w hw => by
  subst hR
  refine XL_yield hF ha (hy Ri xs a s hg hp hpre w hw) hx hv ?_
  rintro b w' ⟨s', hm, ht, hf⟩
  cases b with
  | true => exact (h1 s' (ht rfl)).use w' hm
  | false => exact (h2 s' (hf rfl)).use w' hm⟩
/-- the consumer's round -/
theorem yieldOk_ofG (hF : Wide F) {l : Nat} {rec : Loop} {ι σ : Type} {args : ι → Array Value} {Gv : ι → List Res → Prop} {Pre : List ι → Prop} {Rs : σ → List Res} {φ : List ι → σ → Prop} {ψ : Exit → σ → Prop} (hp : rec.pending = none) (hst : rec.state = .ready) (hsz : ∀ a, (args a).size = rec.params.size) (htm : rec.tmps = (fr n ρ []).tmps)
    (has : ∀ (a : ι) (w : World) (Q' : Post), Q' .normal (updL ρ (rec.params.toList.zip (args a).toList)) [] w → True)
    (hround : ∀ (Ri : List Res) (xs : List ι) (a : ι) (s : σ), Gv a Ri → φ xs s → Pre (xs ++ [a]) →
      At base (.obj l (.loop rec) :: (Rs s ++ Ri)) (X (F.inRound l) P n (fun e ρ' ds' w' => e = .normal ∧ ∃ Rx, Mem base w' (.obj l (.loop rec) :: (Rx ++ (Rs s ++ Ri))) ∧
        At base (.obj l (.loop { rec with state := .busy }) :: (Rx ++ (Rs s ++ Ri))) (X (F.inRound l) P n (RndQ base l rec Rs Ri (φ (xs ++ [a])) ψ) rec.body ρ' ds')) rec.assign (updL ρ (rec.params.toList.zip (args a).toList)) [])) :
    YieldOkG F P l base args Gv Pre (fun s : σ × Option Exit => .obj l (.loop (recOf rec s.2)) :: Rs s.1) (fun xs s => s.2 = none ∧ φ xs s.1) (fun s => ∃ e, s.2 = some e ∧ (pend e).isSome ∧ ψ e s.1) := by
  rintro Ri xs a ⟨s, ex⟩ hgv ⟨hn, hφ⟩ hpre w hw
  simp only at hn hφ
  subst hn
  have hrec : recOf rec none = rec := by cases rec; simp only at hp hst; subst hp hst; rfl
  have hw' : Mem base w (.obj l (.loop rec) :: (Rs s ++ Ri)) := by
    simp only [hrec] at hw
    exact hw.perm (by
      rw [← List.cons_append]
      exact List.perm_append_comm)
  refine yieldC_of hF (hw'.at_ 0 rfl) hst (hsz a) htm (X_mono (hround Ri xs a s hgv hφ hpre w hw') ?_)
  rintro e ρ' ds' w1 ⟨rfl, Rx, hm, hb⟩
  refine ⟨hm.at_ 0 rfl, X_mono (hb _ hm.put0) ?_⟩
  intro e ρ'' ds'' w2 hq
  have hback : ∀ {w2 : World} {s' : σ} {o : Obj}, Mem base w2 (.obj l o :: (Rs s' ++ Ri)) → ∀ o', Mem base (w2.putObj l o') (Ri ++ (.obj l o' :: Rs s')) := fun h o' => h.put0.perm (by
    rw [← List.cons_append]
    exact List.perm_append_comm)
  cases e with
  | normal =>
    obtain ⟨s', h1, h2⟩ := hq
    exact ⟨h2.at_ 0 rfl, (s', none), hback h2 _, fun _ => ⟨rfl, h1⟩, fun h => by cases h⟩
  | ret =>
    obtain ⟨s', h1, h2⟩ := hq
    exact ⟨h2.at_ 0 rfl, (s', some .ret), hback h2 _, fun h => (by cases h), fun _ => ⟨_, rfl, rfl, h1⟩⟩
  | exit id =>
    obtain ⟨s', h1, h2⟩ := hq
    exact ⟨h2.at_ 0 rfl, (s', some (.exit id)), hback h2 _, fun h => (by cases h), fun _ => ⟨_, rfl, rfl, h1⟩⟩
  | goto t => exact hq.elim
  | panic ch => exact hq.elim
  | outgrown => exact hq.elim

/-- the statement, outside a round -/
theorem At_rangeG (hF : Wide F) (ha : F.alive = false) (hro : F.round = none) {g : Operand} {ps : Array Tmp} {assign body : Code} {gf : FuncId} {caps : Array Value} (hg : xv n ρ g = .func (.func gf) #[] caps) (hE : Enters P gf)
    {ι σ : Type} (Rit : List Res) (args : ι → Array Value) (Gv : ι → List Res → Prop) (Pre All : List ι → Prop) (hit : IterOkG F P gf caps base Rit args Gv Pre All)
    (Rs : σ → List Res) (φ : List ι → σ → Prop) (ψ : Exit → σ → Prop) (s0 : σ) (hR : (Rit ++ Rs s0).Sublist R) (h0 : φ [] s0) (hsz : ∀ a, (args a).size = ps.size)
    (hround : ∀ (l : Nat) (rec : Loop) (D : Nat) (Ri : List Res) (xs : List ι) (a : ι) (s : σ), Gv a Ri → φ xs s → Pre (xs ++ [a]) →
      At base (.obj l (.loop rec) :: (Rs s ++ (.obj D (.deferred (some [])) :: Ri))) (X (F.inRound l) P n (fun e ρ' ds' w' => e = .normal ∧ ∃ Rx, Mem base w' (.obj l (.loop rec) :: (Rx ++ (Rs s ++ (.obj D (.deferred (some [])) :: Ri)))) ∧
        At base (.obj l (.loop { rec with state := .busy }) :: (Rx ++ (Rs s ++ (.obj D (.deferred (some [])) :: Ri)))) (X (F.inRound l) P n (RndQ base l rec Rs (.obj D (.deferred (some [])) :: Ri) (φ (xs ++ [a])) ψ) body ρ' ds')) assign (updL ρ (ps.toList.zip (args a).toList)) []))
    (hafter : ∀ D xs s, All xs → φ xs s → At base (.obj D (.deferred (some [])) :: (Rit ++ Rs s)) (Q .normal ρ (mk D :: ds)))
    (hexit : ∀ D e s, (pend e).isSome → ψ e s → At base (.obj D (.deferred (some [])) :: (Rit ++ Rs s)) (Q e ρ (mk D :: ds))) :
    At base R (X F P n Q (.rangeFunc g ps assign body) ρ ds) := fun w hw => by
  refine X_range hF ha hro hg hE (fun fn => ?_)
  have hw0 := hw.sub hR
  have hw1 : Mem base ((w.alloc (.deferred (some []))).alloc (.loop { state := .ready, pending := none, fn := fn, tmps := (fr n ρ []).tmps, params := ps, assign := assign, body := body, defers := w.heap.size }))
      (Rit ++ (.obj (w.heap.size + 1) (.loop { state := .ready, pending := none, fn := fn, tmps := (fr n ρ []).tmps, params := ps, assign := assign, body := body, defers := w.heap.size }) :: (Rs s0 ++ [.obj w.heap.size (.deferred (some []))]))) := by
    have h2 := (hw0.alloc (.deferred (some []))).alloc (.loop { state := .ready, pending := none, fn := fn, tmps := (fr n ρ []).tmps, params := ps, assign := assign, body := body, defers := w.heap.size })
    rw [size_alloc] at h2
    refine h2.perm ?_
    have e1 : ∀ (a b : Res) (A B : List Res), (A ++ (a :: (B ++ [b]))).Perm (a :: b :: (A ++ B)) := fun a b A B =>
      (List.perm_middle).trans ((((List.append_assoc A B [b]).symm ▸ List.perm_append_singleton b (A ++ B))).cons a)
    exact e1 _ _ _ _
  have hy := yieldOk_ofG (F := F) (P := P) (n := n) (ρ := ρ) (base := base) hF (l := w.heap.size + 1) (rec := { state := .ready, pending := none, fn := fn, tmps := (fr n ρ []).tmps, params := ps, assign := assign, body := body, defers := w.heap.size })
    (args := args) (Gv := Gv) (Pre := Pre) (Rs := fun s => Rs s ++ [.obj w.heap.size (.deferred (some []))]) (φ := φ) (ψ := ψ) rfl rfl hsz rfl (fun _ _ _ _ => trivial)
    (fun Ri xs a s h0 h1 h2 => by
      have := hround (w.heap.size + 1) { state := .ready, pending := none, fn := fn, tmps := (fr n ρ []).tmps, params := ps, assign := assign, body := body, defers := w.heap.size } w.heap.size Ri xs a s h0 h1 h2
      have e : ∀ s, Rs s ++ [Res.obj w.heap.size (.deferred (some []))] ++ Ri = Rs s ++ (.obj w.heap.size (.deferred (some [])) :: Ri) := fun s => by simp
      have eq : ∀ φ', RndQ base (w.heap.size + 1) { state := .ready, pending := none, fn := fn, tmps := (fr n ρ []).tmps, params := ps, assign := assign, body := body, defers := w.heap.size } (fun s => Rs s ++ [Res.obj w.heap.size (.deferred (some []))]) Ri φ' ψ =
          RndQ base (w.heap.size + 1) { state := .ready, pending := none, fn := fn, tmps := (fr n ρ []).tmps, params := ps, assign := assign, body := body, defers := w.heap.size } Rs (.obj w.heap.size (.deferred (some [])) :: Ri) φ' ψ := fun φ' => by
        funext e ρ ds w'
        cases e <;> simp [RndQ]
      simp only [e, eq]
      exact this)
  have := hit (σ × Option Exit) (w.heap.size + 1) _ _ _ hy (s0, none) ⟨rfl, h0⟩ _ hw1
  refine CallsIn.mono this ?_
  rintro e w' ⟨v, ⟨s, ex⟩, rfl, hm, hend⟩
  have hm' : Mem base w' (.obj (w.heap.size + 1) (.loop (recOf { state := .ready, pending := none, fn := fn, tmps := (fr n ρ []).tmps, params := ps, assign := assign, body := body, defers := w.heap.size } ex)) :: .obj w.heap.size (.deferred (some [])) :: (Rit ++ Rs s)) := by
    refine hm.perm ?_
    have e1 : ∀ (a b : Res) (A B : List Res), (a :: b :: (A ++ B)).Perm (A ++ (a :: (B ++ [b]))) := fun a b A B =>
      ((List.perm_middle).trans ((((List.append_assoc A B [b]).symm ▸ List.perm_append_singleton b (A ++ B))).cons a)).symm
    exact e1 _ _ _ _
  refine ⟨v, rfl, _, hm'.at_ 0 rfl, ?_, ?_⟩
  · cases ex <;> simp [recOf]
  · have hm2 := hm'.put0 (o' := .loop { recOf { state := .ready, pending := none, fn := fn, tmps := (fr n ρ []).tmps, params := ps, assign := assign, body := body, defers := w.heap.size } ex with state := .exhausted })
    have hm3 := hm2.sub (List.sublist_cons_self _ _)
    rcases hend with ⟨xs, hall, he, hφ⟩ | ⟨e, he, hpe, hψ⟩
    · simp only at he hφ
      subst he
      exact hafter _ xs s hall hφ _ hm3
    · simp only at he hψ
      subst he
      cases e with
      | ret => exact X_ret (hexit _ .ret s rfl hψ _ hm3)
      | exit id => exact X_exit (hexit _ (.exit id) s rfl hψ _ hm3)
      | _ => cases hpe

end
end XW

/- A region that draws its order, in whatever class of worlds that bears draws: operations that leave the world in the class first, in whatever order, and others behind them. -/
namespace XW
open Go Go.RowKit RegInv
set_option linter.unusedSimpArgs false
set_option linter.unusedVariables false
set_option linter.unusedSectionVars false
/-- one value, in every world of the class -/
def QStepC (F : Fence) (P : Program) (n : Nat) (ops : Array Oper) (ds : List Deferred) (C : World → Prop) (o : Oper) (ρ : Nat → Value) (v : Value) : Prop :=
  ∀ (K : (Nat → Value) → List Deferred → World → Prop) (Q : Post), (∀ w, C w → K (updO ρ o.dst v) ds w) → ∀ w, C w → XL F P n (Then K Q) ops [o] ρ ds w
def AQC (F : Fence) (P : Program) (n : Nat) (ops : Array Oper) (ds : List Deferred) (C : World → Prop) : List Oper → (Nat → Value) → ((Nat → Value) → Prop) → Prop
  | [], ρ, K => K ρ
  | o :: rest, ρ, K => ∃ v, QStepC F P n ops ds C o ρ v ∧ AQC F P n ops ds C rest (updO ρ o.dst v) K
section
variable {F : Fence} {P : Program} {n : Nat} {Q : Post} {ρ : Nat → Value} {ds : List Deferred} {w : World} {C : World → Prop} {ops : Array Oper}
theorem AQC_vals : ∀ (l : List Oper) (k : Nat) (ρ : Nat → Value) (K : (Nat → Value) → Prop), AQC F P n ops ds C l ρ K →
    ∃ val : Nat → Value, (∀ i o, l[i]? = some o → QStepC F P n ops ds C o (lex val (l.take i) k ρ) (val (k + i))) ∧ K (lex val l k ρ)
  | [], k, ρ, K, h => ⟨fun _ => undef, fun i o h => by simp at h, h⟩
  | o :: l, k, ρ, K, ⟨v, hq, h⟩ => by
    obtain ⟨val, h1, h2⟩ := AQC_vals l (k + 1) _ K h
    have hc : ∀ (l' : List Oper) (ρ' : Nat → Value), lex (fun i => if i = k then v else val i) l' (k + 1) ρ' = lex val l' (k + 1) ρ' := fun l' ρ' => lex_congr l' (k + 1) ρ' (fun i h1 h2 => by show (if i = k then v else val i) = val i; rw [if_neg (by omega)])
    refine ⟨fun i => if i = k then v else val i, ?_, ?_⟩
    · intro i o' hi
      cases i with
      | zero =>
        obtain rfl : o = o' := by simpa using hi
        simpa [lex] using hq
      | succ i =>
        have := h1 i o' (by simpa using hi)
        simp only [List.take_succ_cons, lex, if_true]
        rw [hc, if_neg (by omega), show k + (i + 1) = k + 1 + i by omega]
        exact this
    · simp only [lex, if_true]
      rw [hc]; exact h2
/-- operation o comes up in a frame that is as the told one where o looks -/
theorem qstepC_run (hF : Wide F) {o : Oper} {i : Nat} (ho : ops[i]? = some o) (hnd : noSD o = true) {ρ1 ρ2 : Nat → Value} {v : Value} (hq : QStepC F P n ops ds C o ρ1 v) (hag : ∀ d ∈ o.looksAt ops, d < n → ρ1 d = ρ2 d) (hw : C w) {Q' : Exit → Act → World → Prop} {K' : Act → World → Prop}
    (hK : ∀ w', C w' → K' (fr n (updO ρ2 o.dst v) ds) w') : wpOpIn F 0 P ops Q' i K' (fr n ρ2 ds) w := by
  have hsel : ∀ cs b, o.op ≠ .select cs b := fun cs b e => by unfold noSD at hnd; rw [e] at hnd; cases hnd
  have hdef : ∀ c, o.op ≠ .defer c := fun c e => by unfold noSD at hnd; rw [e] at hnd; cases hnd
  have hrun := (hq (fun ρ ds' w' => fr n ρ ds' = fr n (updO ρ1 o.dst v) ds ∧ C w') (fun _ _ _ _ => False) (fun w' hw' => ⟨rfl, hw'⟩) w hw)
  have hev : ∀ x ∈ o.op.operands, (fr n ρ1 ds).eval x = (fr n ρ2 ds).eval x := by
    intro x hx
    rw [eval_fr, eval_fr]
    cases x with
    | tmp t =>
      simp only [xv]
      by_cases h : t < n
      · rw [if_pos h, if_pos h]
        exact hag t (List.mem_append_left _ (List.mem_filterMap.2 ⟨.tmp t, by simpa using hx, rfl⟩)) h
      · rw [if_neg h, if_neg h]
    | _ => rfl
  have hwa : Region.wanted o (yielded ops (fr n ρ1 ds).tmps) = Region.wanted o (yielded ops (fr n ρ2 ds).tmps) := by
    unfold Region.wanted
    cases hg : o.guard with
    | none => rfl
    | some gw =>
      obtain ⟨g, want⟩ := gw
      have hy : yielded ops (fr n ρ1 ds).tmps g = yielded ops (fr n ρ2 ds).tmps g := by
        unfold yielded
        cases ht : (ops[g]?).bind (·.dst) with
        | none => rfl
        | some t =>
          by_cases h : t < n
          · have := hag t (List.mem_append_right _ (by simp [hg, ht])) h
            have e0 : (fr n ρ1 ds).tmps[t]? = (fr n ρ2 ds).tmps[t]? := by rw [fr_get (ρ := ρ1) (ds := ds) h, fr_get (ρ := ρ2) (ds := ds) h, this]
            simp only [Option.bind_some, e0]
          · have e1 : (fr n ρ1 ds).tmps[t]? = none := Array.getElem?_eq_none (by rw [fr_size]; exact Nat.le_of_not_lt h)
            have e2 : (fr n ρ2 ds).tmps[t]? = none := Array.getElem?_eq_none (by rw [fr_size]; exact Nat.le_of_not_lt h)
            simp only [Option.bind_some, e1, e2]
      simp only [hy]
  have hab : o.about P w (fr n ρ1 ds).eval = o.about P w (fr n ρ2 ds).eval := about_congr o w hev
  have hex : ∀ ro, o.semAt ro (fr n ρ1 ds).eval = o.semAt ro (fr n ρ2 ds).eval := fun ro => by rw [Oper.semAt_eq _ _ _ hdef, Oper.semAt_eq _ _ _ hdef]; exact execOp_congr o hsel hev
  have hput : ∀ v' w' (a' : Act), a' = fr n (updO ρ1 o.dst v') ds → wpListIn F 0 P ops (lift n (Then (fun ρ ds' w' => fr n ρ ds' = fr n (updO ρ1 o.dst v) ds ∧ C w') (fun _ _ _ _ => False))) [] a' w' → K' ((fr n ρ2 ds).put o.dst v') w' := by
    rintro v' w' a' rfl ⟨ρ', ds', e1, e2, e3⟩
    have e := e1.trans e2
    rw [put_fr]
    have : fr n (updO ρ2 o.dst v') ds = fr n (updO ρ2 o.dst v) ds := by
      refine fr_eq fun t ht => ?_
      cases hd : o.dst with
      | none => rfl
      | some d =>
        simp only [updO, upd]
        by_cases htd : t = d
        · subst htd
          rw [if_pos rfl, if_pos rfl]
          have := (fr_inj e).1 t ht
          simpa [hd, updO, upd] using this
        · rw [if_neg htd, if_neg htd]
    rw [this]; exact hK w' e3
  have hrun' : wpListIn F 0 P ops (lift n (Then (fun ρ ds' w' => fr n ρ ds' = fr n (updO ρ1 o.dst v) ds ∧ C w') (fun _ _ _ _ => False))) [o] (fr n ρ1 ds) w := hrun
  unfold wpOpIn
  rw [ho]
  simp only
  unfold wpListIn at hrun'
  rw [hwa] at hrun'
  split
  · rename_i hw'
    rw [if_pos hw'] at hrun'
    unfold Oper.wpIn at hrun' ⊢
    rw [hab, hex] at hrun'
    refine ⟨hrun'.1, ?_⟩
    have h2 := hrun'.2
    generalize (o.semAt F.round (fr n ρ2 ds).eval).run P w = r at h2 ⊢
    cases r with
    | ok x w' =>
      cases x <;> simp only [Oper.uponIn] at h2 ⊢
      case value u => exact hput u w' _ (put_fr ..) h2
      case skip => exact hput undef w' _ (put_fr ..) h2
      case enter f args =>
        refine ⟨h2.1, CallsIn.mono h2.2 fun e w'' he => ?_⟩
        cases e with
        | returned u => exact hput u w'' _ (put_fr ..) he
        | panicked ch => obtain ⟨_, _, _, hf⟩ := he; exact hf.elim
        | outgrown => obtain ⟨_, _, _, _, _, hf⟩ := he; exact hf.elim
      case row row args => exact ⟨h2.1, RowsIn.mono h2.2 fun u w'' he => hput u w'' _ (put_fr ..) he⟩
      case round l f tmps assign body =>
        refine ⟨h2.1, RoundIn.mono h2.2 fun e w'' he => ?_⟩
        cases e with
        | returned u => exact hput u w'' _ (put_fr ..) he
        | panicked ch => obtain ⟨_, _, _, hf⟩ := he; exact hf.elim
        | outgrown => obtain ⟨_, _, _, _, _, hf⟩ := he; exact hf.elim
      case defer d =>
        obtain ⟨ρ', ds', e1, e2, e3⟩ := h2
        have := congrArg Act.defers (e1.trans e2)
        have hl := congrArg List.length this
        exfalso
        cases hd : o.dst <;> rw [hd] at hl <;> simp [Act.put, fr] at hl
    | halt x w' =>
      cases x <;> simp only [Oper.uponIn] at h2 ⊢
      case panic u => obtain ⟨_, _, _, hf⟩ := h2; exact hf.elim
  · rename_i hw'
    rw [if_neg hw'] at hrun'
    rw [hab] at hrun'
    exact ⟨hrun'.1, hput undef w _ (put_fr ..) hrun'.2⟩

/-- THE RULE. -/
theorem X_drawC (hC : ∀ w, C w → C (w.drewN 1)) (hF : Wide F) {id : Nat} {l : List Oper} (m : Nat) (hm : P.follows .mixedOrders = true) (hck : drawOk l.toArray m = true)
    (hq : AQC F P n l.toArray ds C (l.take m) ρ (fun ρ' => ∀ w, C w → XL F P n Q l.toArray (l.drop m) ρ' ds w)) : ∀ w, C w → X F P n Q (.region id l.toArray true) ρ ds w := fun w hw => by
  obtain ⟨val, hval, hend⟩ := AQC_vals (l.take m) 0 ρ _ hq
  simp only [drawOk, Bool.and_eq_true, List.all_eq_true, List.mem_range, decide_eq_true_eq, Bool.or_eq_true, List.contains_iff_mem] at hck
  obtain ⟨⟨⟨⟨hor, hms⟩, hno⟩, hlate⟩, hpair⟩ := hck
  have hms' : m ≤ l.length := by simpa using hms
  have hlen : (l.take m).length = m := by simp [hms']
  have hget : ∀ i, i < m → (l.take m)[i]? = l[i]? := fun i hi => by rw [List.getElem?_take, if_pos hi]
  have hpr : ∀ (i j : Nat) (oi oj : Oper) (d : Nat), i < m → j < m → i ≠ j → l[i]? = some oi → l[j]? = some oj → oj.dst = some d → oi.dst ≠ some d ∧ (d ∈ oi.looksAt l.toArray → j ∈ clo l.toArray l.length i) := by
    intro i j oi oj d hi hj hij h1 h2 h3
    have := hpair i hi j hj
    simp only [List.getElem?_toArray, h1, h2, h3] at this
    rcases this with h | h
    · exact absurd (by simpa using h) hij
    · simp only [Bool.and_eq_true, bne_iff_ne, ne_eq, Bool.or_eq_true, Bool.not_eq_true', List.contains_iff_mem] at h
      refine ⟨h.1, fun hd => ?_⟩
      rcases h.2 with h4 | h4
      · exfalso
        have : (oi.looksAt l.toArray).contains d = true := by simpa using hd
        rw [this] at h4; cases h4
      · simpa using h4
  have hdist : ∀ (k : Nat), k ≤ m → ∀ (i j : Nat) (oi oj : Oper) (d : Nat), (l.take k)[i]? = some oi → (l.take k)[j]? = some oj → oi.dst = some d → oj.dst = some d → i = j := by
    intro k hk i j oi oj d h1 h2 h3 h4
    have hik : i < k := by have := (List.getElem?_eq_some_iff.1 h1).1; simp at this; omega
    have hjk : j < k := by have := (List.getElem?_eq_some_iff.1 h2).1; simp at this; omega
    rw [List.getElem?_take, if_pos hik] at h1
    rw [List.getElem?_take, if_pos hjk] at h2
    by_cases e : i = j
    · exact e
    · exact absurd h3 (hpr i j oi oj d (by omega) (by omega) e h1 h2 h4).1
  refine region_inv hm hor (fun b a w => (∀ i', b i' = true → ∀ j ∈ deps l.toArray i', b j = true) ∧
    ((∃ ρ', a = fr n ρ' ds ∧ (∀ i, m ≤ i → b i = false) ∧ C w ∧ (∀ (i : Nat) (o : Oper) (d : Nat), i < m → l[i]? = some o → o.dst = some d → b i = true → ρ' d = val i) ∧ (∀ t : Nat, (∀ (i : Nat) (o : Oper), i < m → l[i]? = some o → b i = true → o.dst ≠ some t) → ρ' t = ρ t)) ∨
     ∃ k : Nat, m ≤ k ∧ (∀ i, i < l.length → (b i = true ↔ i < k + 1)) ∧ wpListIn F 0 P l.toArray (lift n Q) (l.drop (k + 1)) a w)) ?_ ?_ ?_
  · exact ⟨fun i h => (by cases h), .inl ⟨ρ, rfl, fun _ _ => rfl, hC _ hw, fun i o d _ _ _ h => (by cases h), fun _ _ => rfl⟩⟩
  · rintro i hi b a w ⟨hcl, hI⟩ hbi hd
    have hi' : i < l.length := by simpa using hi
    have hcl' : ∀ i', upb b i i' = true → ∀ j ∈ deps l.toArray i', upb b i j = true := by
      intro i' h' j hj
      rcases upb_or h' with rfl | ⟨_, h'⟩
      · have hne : j ≠ i' := by rintro rfl; rw [hd _ hj] at hbi; cases hbi
        rw [upb_ne hne]; exact hd j hj
      · have := hcl i' h' j hj
        by_cases e : j = i
        · rw [e, upb_self]
        · rw [upb_ne e]; exact this
    have hcd := clo_done hcl l.length i hd
    obtain ⟨o, ho⟩ : ∃ o, l[i]? = some o := ⟨_, List.getElem?_eq_getElem hi'⟩
    have ho' : l.toArray[i]? = some o := by simpa using ho
    have hnd : noSD o = true := hno o (by simpa using List.mem_of_getElem? ho)
    have hlt : ∀ j, m ≤ i → j < i → b j = true := fun j hmi hji => by
      rcases hlate i hi with h | h
      · omega
      · exact hcd j (by simpa using h j hji)
    rcases hI with ⟨ρ', rfl, hb0, hmem, hv1, hv2⟩ | ⟨k, hk, hbk, hx⟩
    · by_cases him : i < m
      · -- a quiet one
        have hqi := hval i o (by rw [hget i him]; exact ho)
        rw [Nat.zero_add] at hqi
        have hla := lex_at val ((l.take m).take i) 0 ρ (by
          rw [List.take_take, Nat.min_eq_left (Nat.le_of_lt him)]
          exact hdist i (Nat.le_of_lt him))
        have hgi : ∀ j, j < i → ((l.take m).take i)[j]? = l[j]? := fun j hj => by rw [List.getElem?_take, if_pos hj, hget j (by omega)]
        have hgn : ∀ j o, ((l.take m).take i)[j]? = some o → j < i ∧ l[j]? = some o := fun j o h => by
          have hj : j < i := by have := (List.getElem?_eq_some_iff.1 h).1; simp at this; omega
          exact ⟨hj, by rw [← hgi j hj]; exact h⟩
        refine qstepC_run hF ho' hnd hqi (fun d hdl hdn => ?_) hmem (fun w' hw' => ⟨hcl', .inl ⟨_, rfl, fun i' h' => ?_, hw', ?_, ?_⟩⟩)
        · -- they agree where o looks
          by_cases hw : ∃ j oj, j < m ∧ l[j]? = some oj ∧ oj.dst = some d ∧ j ≠ i
          · obtain ⟨j, oj, hj, hoj, hdj, hji⟩ := hw
            have hc := (hpr i j o oj d him hj (fun e => hji e.symm) ho hoj hdj).2 hdl
            have hbj := hcd j hc
            rw [hv1 j oj d hj hoj hdj hbj]
            have hjl : j < i := by
              -- what is behind i is before it
              have : ∀ (f a : Nat), a < l.length → ∀ x ∈ clo l.toArray f a, x < a := by
                intro f
                induction f with
                | zero => intro a _ x hx; cases hx
                | succ f ih =>
                  intro a ha x hx
                  obtain ⟨y, hy, hx⟩ := List.mem_flatMap.1 hx
                  have h1 : y < a := by
                    have h := List.all_eq_true.1 hor a (List.mem_range.2 (by simpa using ha))
                    simpa using List.all_eq_true.1 h y hy
                  rcases List.mem_cons.1 hx with rfl | hx
                  · exact h1
                  · have := ih y (by omega) x hx; omega
              exact this _ i hi' j hc
            have := hla.1 j oj d (by rw [hgi j hjl]; exact hoj) hdj
            rw [this, Nat.zero_add]
          · have hn1 : ∀ (j : Nat) (o' : Oper), ((l.take m).take i)[j]? = some o' → o'.dst ≠ some d := fun j o' h e => by
              obtain ⟨h1, h2⟩ := hgn j o' h
              exact hw ⟨j, o', by omega, h2, e, by omega⟩
            rw [hla.2 d hn1]
            symm
            refine hv2 d (fun j o' hj hoj hbj e => hw ⟨j, o', hj, hoj, e, fun e' => ?_⟩)
            rw [e', hbi] at hbj; cases hbj
        · rw [upb_ne (by omega)]; exact hb0 i' h'
        · intro j oj d hj hoj hdj hbj
          by_cases e : j = i
          · subst e
            rw [ho] at hoj; cases hoj
            rw [hdj]; simp [updO, upd]
          · rw [upb_ne e] at hbj
            have hne := (hpr i j o oj d him hj (fun e' => e e'.symm) ho hoj hdj).1
            have : updO ρ' o.dst (val i) d = ρ' d := by
              cases hdo : o.dst with
              | none => rfl
              | some d' => simp only [updO, upd]; rw [if_neg (fun e' => hne (by rw [hdo, e']))]
            rw [this]; exact hv1 j oj d hj hoj hdj hbj
        · intro t ht
          have h1 : o.dst ≠ some t := ht i o him ho (upb_self b i)
          have : updO ρ' o.dst (val i) t = ρ' t := by
            cases hdo : o.dst with
            | none => rfl
            | some d' => simp only [updO, upd]; rw [if_neg (fun e' => h1 (by rw [hdo, e']))]
          rw [this]
          refine hv2 t (fun j oj hj hoj hbj => ht j oj hj hoj ?_)
          by_cases e : j = i
          · rw [e, upb_self]
          · rw [upb_ne e]; exact hbj
      · -- the first of the later ones
        have him' : i = m := by
          rcases Nat.lt_or_ge m i with h | h
          · have := hlt m (by omega) h
            rw [hb0 m (Nat.le_refl _)] at this; cases this
          · omega
        subst him'
        have hall : ∀ j, j < i → b j = true := fun j hj => hlt j (Nat.le_refl _) hj
        have hla := lex_at val (l.take i) 0 ρ (hdist i (Nat.le_refl _))
        have hρ : lex val (l.take i) 0 ρ = ρ' := by
          funext t
          by_cases hw : ∃ j oj, j < i ∧ l[j]? = some oj ∧ oj.dst = some t
          · obtain ⟨j, oj, hj, hoj, hdj⟩ := hw
            rw [hla.1 j oj t (by rw [hget j hj]; exact hoj) hdj, Nat.zero_add, hv1 j oj t hj hoj hdj (hall j hj)]
          · rw [hla.2 t (fun j oj h e => by
              have hj : j < i := by have := (List.getElem?_eq_some_iff.1 h).1; simp at this; omega
              exact hw ⟨j, oj, hj, by rw [← hget j hj]; exact h, e⟩)]
            exact (hv2 t (fun j oj hj hoj _ e => hw ⟨j, oj, hj, hoj, e⟩)).symm
        rw [hρ] at hend
        have hx : wpListIn F 0 P l.toArray (lift n Q) (l.drop i) (fr n ρ' ds) w := hend w hmem
        have hdrop : l.drop i = o :: l.drop (i + 1) := by
          rw [List.drop_eq_getElem_cons hi']
          have : l[i] = o := (List.getElem?_eq_some_iff.1 ho).2
          rw [this]
        rw [hdrop] at hx
        have hnext : ∀ a' w', wpListIn F 0 P l.toArray (lift n Q) (l.drop (i + 1)) a' w' → (∀ i', upb b i i' = true → ∀ j ∈ deps l.toArray i', upb b i j = true) ∧
            ((∃ ρ'_1, a' = fr n ρ'_1 ds ∧ (∀ i_1, i ≤ i_1 → upb b i i_1 = false) ∧ C w' ∧ (∀ (i_1 : Nat) (o : Oper) (d : Nat), i_1 < i → l[i_1]? = some o → o.dst = some d → upb b i i_1 = true → ρ'_1 d = val i_1) ∧ (∀ t : Nat, (∀ (i_1 : Nat) (o : Oper), i_1 < i → l[i_1]? = some o → upb b i i_1 = true → o.dst ≠ some t) → ρ'_1 t = ρ t)) ∨
              ∃ k, i ≤ k ∧ (∀ i_1, i_1 < l.length → (upb b i i_1 = true ↔ i_1 < k + 1)) ∧ wpListIn F 0 P l.toArray (lift n Q) (l.drop (k + 1)) a' w') := by
          intro a' w' h
          refine ⟨hcl', .inr ⟨i, Nat.le_refl _, fun j hj => ?_, h⟩⟩
          by_cases e : j = i
          · subst e; simp [upb_self]
          · rw [upb_ne e]
            by_cases hji : j < i
            · simp [hall j hji]; omega
            · rw [hb0 j (by omega)]; simp; omega
        unfold wpOpIn
        rw [ho']
        simp only
        unfold wpListIn at hx
        split
        · rename_i hw'
          rw [if_pos hw'] at hx
          exact Oper.wpIn_mono hnext hx
        · rename_i hw'
          rw [if_neg hw'] at hx
          exact ⟨hx.1, hnext _ _ hx.2⟩
    · -- a later one
      have hik : i = k + 1 := by
        have h1 : ¬ i < k + 1 := fun h => by
          have := (hbk i hi').2 h
          rw [hbi] at this; cases this
        rcases Nat.lt_or_ge (k + 1) i with h | h
        · have := hlt (k + 1) (by omega) h
          have := (hbk (k + 1) (by omega)).1 this
          omega
        · omega
      subst hik
      have hdrop : l.drop (k + 1) = o :: l.drop (k + 1 + 1) := by
        rw [List.drop_eq_getElem_cons hi']
        have : l[k + 1] = o := (List.getElem?_eq_some_iff.1 ho).2
        rw [this]
      rw [hdrop] at hx
      have hnext : ∀ a' w', wpListIn F 0 P l.toArray (lift n Q) (l.drop (k + 1 + 1)) a' w' → (∀ i', upb b (k + 1) i' = true → ∀ j ∈ deps l.toArray i', upb b (k + 1) j = true) ∧
          ((∃ ρ', a' = fr n ρ' ds ∧ (∀ i, m ≤ i → upb b (k + 1) i = false) ∧ C w' ∧ (∀ (i : Nat) (o : Oper) (d : Nat), i < m → l[i]? = some o → o.dst = some d → upb b (k + 1) i = true → ρ' d = val i) ∧ (∀ t : Nat, (∀ (i : Nat) (o : Oper), i < m → l[i]? = some o → upb b (k + 1) i = true → o.dst ≠ some t) → ρ' t = ρ t)) ∨
            ∃ k_1, m ≤ k_1 ∧ (∀ i, i < l.length → (upb b (k + 1) i = true ↔ i < k_1 + 1)) ∧ wpListIn F 0 P l.toArray (lift n Q) (l.drop (k_1 + 1)) a' w') := by
        intro a' w' h
        refine ⟨hcl', .inr ⟨k + 1, by omega, fun j hj => ?_, h⟩⟩
        by_cases e : j = k + 1
        · subst e; simp [upb_self]
        · rw [upb_ne e, hbk j hj]; omega
      unfold wpOpIn
      rw [ho']
      simp only
      unfold wpListIn at hx
      split
      · rename_i hw'
        rw [if_pos hw'] at hx
        exact Oper.wpIn_mono hnext hx
      · rename_i hw'
        rw [if_neg hw'] at hx
        exact ⟨hx.1, hnext _ _ hx.2⟩
  · rintro b a w hall ⟨_, hI⟩
    rcases hI with ⟨ρ', rfl, hb0, hmem, hv1, hv2⟩ | ⟨k, hk, hbk, hx⟩
    · have hml : m = l.length := by
        rcases Nat.lt_or_ge m l.length with h | h
        · have := hall m (by simpa using h)
          rw [hb0 m (Nat.le_refl _)] at this; cases this
        · omega
      have hla := lex_at val (l.take m) 0 ρ (hdist m (Nat.le_refl _))
      have hρ : lex val (l.take m) 0 ρ = ρ' := by
        funext t
        by_cases hw : ∃ j oj, j < m ∧ l[j]? = some oj ∧ oj.dst = some t
        · obtain ⟨j, oj, hj, hoj, hdj⟩ := hw
          rw [hla.1 j oj t (by rw [hget j hj]; exact hoj) hdj, Nat.zero_add, hv1 j oj t hj hoj hdj (hall j (by simp; omega))]
        · rw [hla.2 t (fun j oj h e => by
            have hj : j < m := by have := (List.getElem?_eq_some_iff.1 h).1; simp at this; omega
            exact hw ⟨j, oj, hj, by rw [← hget j hj]; exact h, e⟩)]
          exact (hv2 t (fun j oj hj hoj _ e => hw ⟨j, oj, hj, hoj, e⟩)).symm
      rw [hρ] at hend
      have hx : wpListIn F 0 P l.toArray (lift n Q) (l.drop m) (fr n ρ' ds) w := hend w hmem
      rw [List.drop_of_length_le (by omega)] at hx
      exact hx
    · have : l.length ≤ k + 1 := by
        rcases Nat.lt_or_ge (k + 1) l.length with h | h
        · have := (hbk (k + 1) h).1 (hall (k + 1) (by simpa using h))
          omega
        · exact h
      rw [List.drop_of_length_le this] at hx
      exact hx
theorem AQC_cons {o : Oper} {rest : List Oper} {K : (Nat → Value) → Prop} {v : Value} (hs : ∀ (K : (Nat → Value) → List Deferred → World → Prop) (Q : Post), (∀ w, C w → K (updO ρ o.dst v) ds w) → ∀ w, C w → XL F P n (Then K Q) ops [o] ρ ds w) (h : AQC F P n ops ds C rest (updO ρ o.dst v) K) : AQC F P n ops ds C (o :: rest) ρ K := ⟨v, hs, h⟩
theorem AQC_done {l2 : List Oper} (h : ∀ w, C w → XL F P n Q ops l2 ρ ds w) : AQC F P n ops ds C [] ρ (fun ρ' => ∀ w, C w → XL F P n Q ops l2 ρ' ds w) := h
end
end XW
