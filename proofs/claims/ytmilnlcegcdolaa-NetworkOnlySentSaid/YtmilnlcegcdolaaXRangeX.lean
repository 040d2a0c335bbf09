/- Ranges over functions whose parameters lie in memory of their own. -/
import Derived.Test.YtmilnlcegcdolaaXB
namespace XW
open Go Go.RowKit RegInv
set_option linter.unusedSimpArgs false
set_option linter.unusedVariables false
set_option linter.unusedSectionVars false

section
variable {F : Fence} {P : Program} {n : Nat} {Q : Post} {ρ : Nat → Value} {ds : List Deferred} {w base : World} {R R' : List Res} {ops : Array Oper}
/-- the consumer's round -/
theorem yieldOk_ofX (hF : Wide F) {l : Nat} {rec : Loop} {ι σ : Type} {args : ι → Array Value} {Pre : List ι → Prop} {Rs : σ → List Res} {φ : List ι → σ → Prop} {ψ : Exit → σ → Prop} (hp : rec.pending = none) (hst : rec.state = .ready) (hsz : ∀ a, (args a).size = rec.params.size) (htm : rec.tmps = (fr n ρ []).tmps)
    (has : ∀ (a : ι) (w : World) (Q' : Post), Q' .normal (updL ρ (rec.params.toList.zip (args a).toList)) [] w → True)
    (hround : ∀ (Ri : List Res) (xs : List ι) (a : ι) (s : σ), φ xs s → Pre (xs ++ [a]) →
      At base (.obj l (.loop rec) :: (Rs s ++ Ri)) (X (F.inRound l) P n (fun e ρ' ds' w' => e = .normal ∧ ∃ Rx, Mem base w' (.obj l (.loop rec) :: (Rx ++ (Rs s ++ Ri))) ∧
        At base (.obj l (.loop { rec with state := .busy }) :: (Rx ++ (Rs s ++ Ri))) (X (F.inRound l) P n (RndQ base l rec Rs Ri (φ (xs ++ [a])) ψ) rec.body ρ' ds')) rec.assign (updL ρ (rec.params.toList.zip (args a).toList)) [])) :
    YieldOk F P l base args Pre (fun s : σ × Option Exit => .obj l (.loop (recOf rec s.2)) :: Rs s.1) (fun xs s => s.2 = none ∧ φ xs s.1) (fun s => ∃ e, s.2 = some e ∧ (pend e).isSome ∧ ψ e s.1) := by
  rintro Ri xs a ⟨s, ex⟩ ⟨hn, hφ⟩ hpre w hw
  simp only at hn hφ
  subst hn
  have hrec : recOf rec none = rec := by cases rec; simp only at hp hst; subst hp hst; rfl
  have hw' : Mem base w (.obj l (.loop rec) :: (Rs s ++ Ri)) := by
    simp only [hrec] at hw
    exact hw.perm (by
      rw [← List.cons_append]
      exact List.perm_append_comm)
  refine yieldC_of hF (hw'.at_ 0 rfl) hst (hsz a) htm (X_mono (hround Ri xs a s hφ hpre w hw') ?_)
  rintro e ρ' ds' w1 ⟨rfl, Rx, hm, hb⟩
  refine ⟨hm.at_ 0 rfl, X_mono (hb _ hm.put0) ?_⟩
  intro e ρ'' ds'' w2 hq
  have hback : ∀ {w2 : World} {s' : σ} {o : Obj}, Mem base w2 (.obj l o :: (Rs s' ++ Ri)) → ∀ o', Mem base (w2.putObj l o') (Ri ++ (.obj l o' :: Rs s')) := fun h o' => h.put0.perm (by
    rw [← List.cons_append]
    exact List.perm_append_comm)
  cases e with
  | normal =>
    obtain ⟨s', h1, h2⟩ := hq
    exact ⟨h2.at_ 0 rfl, (s', none), hback h2 _, fun _ => ⟨rfl, h1⟩, fun h => by cases h⟩
  | ret =>
    obtain ⟨s', h1, h2⟩ := hq
    exact ⟨h2.at_ 0 rfl, (s', some .ret), hback h2 _, fun h => (by cases h), fun _ => ⟨_, rfl, rfl, h1⟩⟩
  | exit id =>
    obtain ⟨s', h1, h2⟩ := hq
    exact ⟨h2.at_ 0 rfl, (s', some (.exit id)), hback h2 _, fun h => (by cases h), fun _ => ⟨_, rfl, rfl, h1⟩⟩
  | goto t => exact hq.elim
  | panic ch => exact hq.elim
  | outgrown => exact hq.elim

/-- the statement, outside a round -/
theorem At_rangeX (hF : Wide F) (ha : F.alive = false) (hro : F.round = none) {g : Operand} {ps : Array Tmp} {assign body : Code} {gf : FuncId} {caps : Array Value} (hg : xv n ρ g = .func (.func gf) #[] caps) (hE : Enters P gf)
    {ι σ : Type} (Rit : List Res) (args : ι → Array Value) (Pre All : List ι → Prop) (hit : IterOk F P gf caps base Rit args Pre All)
    (Rs : σ → List Res) (φ : List ι → σ → Prop) (ψ : Exit → σ → Prop) (s0 : σ) (hR : (Rit ++ Rs s0).Sublist R) (h0 : φ [] s0) (hsz : ∀ a, (args a).size = ps.size)
    (hround : ∀ (l : Nat) (rec : Loop) (Ri : List Res) (xs : List ι) (a : ι) (s : σ), φ xs s → Pre (xs ++ [a]) →
      At base (.obj l (.loop rec) :: (Rs s ++ Ri)) (X (F.inRound l) P n (fun e ρ' ds' w' => e = .normal ∧ ∃ Rx, Mem base w' (.obj l (.loop rec) :: (Rx ++ (Rs s ++ Ri))) ∧
        At base (.obj l (.loop { rec with state := .busy }) :: (Rx ++ (Rs s ++ Ri))) (X (F.inRound l) P n (RndQ base l rec Rs Ri (φ (xs ++ [a])) ψ) body ρ' ds')) assign (updL ρ (ps.toList.zip (args a).toList)) []))
    (hafter : ∀ D xs s, All xs → φ xs s → At base (.obj D (.deferred (some [])) :: (Rit ++ Rs s)) (Q .normal ρ (mk D :: ds)))
    (hexit : ∀ D e s, (pend e).isSome → ψ e s → At base (.obj D (.deferred (some [])) :: (Rit ++ Rs s)) (Q e ρ (mk D :: ds))) :
    At base R (X F P n Q (.rangeFunc g ps assign body) ρ ds) := fun w hw => by
  refine X_range hF ha hro hg hE (fun fn => ?_)
  have hw0 := hw.sub hR
  have hw1 : Mem base ((w.alloc (.deferred (some []))).alloc (.loop { state := .ready, pending := none, fn := fn, tmps := (fr n ρ []).tmps, params := ps, assign := assign, body := body, defers := w.heap.size }))
      (Rit ++ (.obj (w.heap.size + 1) (.loop { state := .ready, pending := none, fn := fn, tmps := (fr n ρ []).tmps, params := ps, assign := assign, body := body, defers := w.heap.size }) :: (Rs s0 ++ [.obj w.heap.size (.deferred (some []))]))) := by
    have h2 := (hw0.alloc (.deferred (some []))).alloc (.loop { state := .ready, pending := none, fn := fn, tmps := (fr n ρ []).tmps, params := ps, assign := assign, body := body, defers := w.heap.size })
    rw [size_alloc] at h2
    refine h2.perm ?_
    have e1 : ∀ (a b : Res) (A B : List Res), (A ++ (a :: (B ++ [b]))).Perm (a :: b :: (A ++ B)) := fun a b A B =>
      (List.perm_middle).trans ((((List.append_assoc A B [b]).symm ▸ List.perm_append_singleton b (A ++ B))).cons a)
    exact e1 _ _ _ _
  have hy := yieldOk_ofX (F := F) (P := P) (n := n) (ρ := ρ) (base := base) hF (l := w.heap.size + 1) (rec := { state := .ready, pending := none, fn := fn, tmps := (fr n ρ []).tmps, params := ps, assign := assign, body := body, defers := w.heap.size })
    (args := args) (Pre := Pre) (Rs := fun s => Rs s ++ [.obj w.heap.size (.deferred (some []))]) (φ := φ) (ψ := ψ) rfl rfl hsz rfl (fun _ _ _ _ => trivial)
    (fun Ri xs a s h1 h2 => by
      have := hround (w.heap.size + 1) { state := .ready, pending := none, fn := fn, tmps := (fr n ρ []).tmps, params := ps, assign := assign, body := body, defers := w.heap.size } (.obj w.heap.size (.deferred (some [])) :: Ri) xs a s h1 h2
      have e : ∀ s, Rs s ++ [Res.obj w.heap.size (.deferred (some []))] ++ Ri = Rs s ++ (.obj w.heap.size (.deferred (some [])) :: Ri) := fun s => by simp
      have eq : ∀ φ', RndQ base (w.heap.size + 1) { state := .ready, pending := none, fn := fn, tmps := (fr n ρ []).tmps, params := ps, assign := assign, body := body, defers := w.heap.size } (fun s => Rs s ++ [Res.obj w.heap.size (.deferred (some []))]) Ri φ' ψ =
          RndQ base (w.heap.size + 1) { state := .ready, pending := none, fn := fn, tmps := (fr n ρ []).tmps, params := ps, assign := assign, body := body, defers := w.heap.size } Rs (.obj w.heap.size (.deferred (some [])) :: Ri) φ' ψ := fun φ' => by
        funext e ρ ds w'
        cases e <;> simp [RndQ]
      simp only [e, eq]
      exact this)
  have := hit (σ × Option Exit) (w.heap.size + 1) _ _ _ hy (s0, none) ⟨rfl, h0⟩ _ hw1
  refine CallsIn.mono this ?_
  rintro e w' ⟨v, ⟨s, ex⟩, rfl, hm, hend⟩
  have hm' : Mem base w' (.obj (w.heap.size + 1) (.loop (recOf { state := .ready, pending := none, fn := fn, tmps := (fr n ρ []).tmps, params := ps, assign := assign, body := body, defers := w.heap.size } ex)) :: .obj w.heap.size (.deferred (some [])) :: (Rit ++ Rs s)) := by
    refine hm.perm ?_
    have e1 : ∀ (a b : Res) (A B : List Res), (a :: b :: (A ++ B)).Perm (A ++ (a :: (B ++ [b]))) := fun a b A B =>
      ((List.perm_middle).trans ((((List.append_assoc A B [b]).symm ▸ List.perm_append_singleton b (A ++ B))).cons a)).symm
    exact e1 _ _ _ _
  refine ⟨v, rfl, _, hm'.at_ 0 rfl, ?_, ?_⟩
  · cases ex <;> simp [recOf]
  · have hm2 := hm'.put0 (o' := .loop { recOf { state := .ready, pending := none, fn := fn, tmps := (fr n ρ []).tmps, params := ps, assign := assign, body := body, defers := w.heap.size } ex with state := .exhausted })
    have hm3 := hm2.sub (List.sublist_cons_self _ _)
    rcases hend with ⟨xs, hall, he, hφ⟩ | ⟨e, he, hpe, hψ⟩
    · simp only at he hφ
      subst he
      exact hafter _ xs s hall hφ _ hm3
    · simp only at he hψ
      subst he
      cases e with
      | ret => exact X_ret (hexit _ .ret s rfl hψ _ hm3)
      | exit id => exact X_exit (hexit _ (.exit id) s rfl hψ _ hm3)
      | _ => cases hpe

end
end XW
