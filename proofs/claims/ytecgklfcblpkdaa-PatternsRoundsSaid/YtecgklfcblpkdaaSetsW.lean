/- The sets of teams, yielded by a closure that calls itself. -/
import Derived.Test.YtecgklfcblpkdaaOfP
import Derived.Test.YtecgklfcblpkdaaXCallF
namespace Go.Proofs.Ytecgklfcblpkdaa.P
open Go.RowKit Go.Proofs.YtecgklfcblpkdaaW.PrintWords Go.Proofs.YtecgklfcblpkdaaW.PrintLast Go.Proofs.YtecgklfcblpkdaaW.PrintMore
open XW RegInv
attribute [local irreducible] Addr.add
set_option linter.unusedSimpArgs false
set_option linter.unusedVariables false

/-- the sets with more further teams, from a team on -/
def chs (n : Nat) : Nat → Nat → Nat → List Nat
  | 0, set, _ => [set]
  | m + 1, set, from_ => (List.range' from_ (n - m - from_)).flatMap fun t => chs n m (set ||| 1 * 2 ^ t) (t + 1)
def setsL (n : Nat) : List Nat := (List.range' 2 (n - 1)).flatMap fun size => chs n size 0 0
theorem E36 : Enters Try.prog 36 := enters Try.func36 (by kernel_rfl) rfl
theorem E35 : Enters Try.prog 35 := enters Try.func35 (by kernel_rfl) rfl
theorem E27 : Enters Try.prog 27 := enters Try.func27 (by kernel_rfl) rfl
abbrev ip (b : Nat) : Value := .pointer (some ⟨b, 0, none⟩)
def argsU (x : Nat) : Array Value := #[.int .u32 (x : Int)]
def chooseV (b2 b1 b3 : Nat) : Value := .func (.func 36) #[] #[ip b2, ip b1, ip b3]
/-- what the closure holds -/
def ritCh (l n b2 b1 b3 : Nat) : List Res := [.obj b3 (.cells #[chooseV b2 b1 b3] 67), .obj b2 (.cells #[.func (.yield l) #[] #[]] 66), .obj b1 (.cells #[.int .i64 n] 3)]
def chPost {σ : Type} (Rit : List Res) (Rc : σ → List Res) (φ : List Nat → σ → Prop) (ψ : σ → Prop) (xs : List Nat) (v : Value) (R' : List Res) : Prop :=
  (∃ s', v = .bool true ∧ R' = Rit ++ Rc s' ∧ φ xs s') ∨ ∃ s', v = .bool false ∧ R' = Rit ++ Rc s' ∧ ψ s'
theorem range'_snoc (a k : Nat) : List.range' a (k + 1) = List.range' a k ++ [a + k] := by
  have := List.range'_concat (s := a) (n := k) (step := 1)
  simpa using this
def goneL (n m set from_ t : Nat) : List Nat := (List.range' from_ (t - from_)).flatMap fun t => chs n m (set ||| 1 * 2 ^ t) (t + 1)
theorem goneL_succ (n m set from_ t : Nat) (h : from_ ≤ t) : goneL n m set from_ (t + 1) = goneL n m set from_ t ++ chs n m (set ||| 1 * 2 ^ t) (t + 1) := by
  rw [goneL, show t + 1 - from_ = (t - from_) + 1 by omega, range'_snoc, List.flatMap_append, show from_ + (t - from_) = t by omega]
  simp [goneL]
theorem goneL_pre (n m set from_ t : Nat) (h : t ≤ n - m) : goneL n m set from_ t <+: chs n (m + 1) set from_ := by
  rw [chs, goneL]
  have e := @List.range'_append_1 from_ (t - from_) (n - m - from_ - (t - from_))
  rw [show t - from_ + (n - m - from_ - (t - from_)) = n - m - from_ by omega] at e
  rw [← e, List.flatMap_append]
  exact List.prefix_append _ _
theorem goneL_all (n m set from_ t : Nat) (h : n - m ≤ t) (h1 : from_ ≤ t) (h2 : t ≤ max from_ (n - m)) : goneL n m set from_ t = chs n (m + 1) set from_ := by
  rw [chs, goneL, show t - from_ = n - m - from_ by omega]
set_option maxHeartbeats 8000000 in
theorem choose_calls {F : Fence} (hF : Wide F) (ha : F.alive = false) (hro : F.round = none) (base : World) (n l b2 b1 b3 : Nat) (hn : n ≤ 20) {σ : Type} (Rc : σ → List Res) (φ : List Nat → σ → Prop) (ψ : σ → Prop) (Pre : List Nat → Prop) (hpc : ∀ a b : List Nat, a <+: b → Pre b → Pre a)
    (hy : YieldOk F Try.prog l base argsU Pre Rc φ ψ) : ∀ (m set from_ : Nat) (xs : List Nat) (s : σ), m ≤ 20 → set < 1048576 → from_ ≤ n + 1 → φ xs s → Pre (xs ++ chs n m set from_) → ∀ w, Mem base w (ritCh l n b2 b1 b3 ++ Rc s) →
    CallsIn F 0 Try.prog 36 #[.int .u32 set, .int .i64 from_, .int .i64 m, ip b2, ip b1, ip b3] w fun e w' => ∃ v, e = .returned v ∧ ∃ R', chPost (ritCh l n b2 b1 b3) Rc φ ψ (xs ++ chs n m set from_) v R' ∧ Mem base w' R' := by
  intro m
  induction m with
  | zero =>
    intro set from_ xs s hm hs hf hφ hpre w hw
    refine callsIn_at (n := 35) hF hro hw Try.func36 rfl Try.ntmps36 (by simp) ?_
    simp only [ritCh, List.cons_append, List.nil_append]
    (repeat (first | ((with_reducible refine is_AL ?_); (first | ((with_reducible refine is_move ?_); (refine At_plain hF (by (exact (rfl : _ = some (Value.int _ _)))) ?_)) | ((with_reducible refine is_bin ?_); (refine At_plain hF (by (exact (rfl : _ = some (Value.bool _)))) ?_)) | ((with_reducible refine is_assign ?_); (refine At_plain hF (by (exact (rfl : _ = some (Value.bool _)))) ?_)) | ((with_reducible refine is_load ?_); (refine At_load hF 1 rfl rfl (by (exact (rfl : _ = some (Value.func _ _ _)))) ?_)) | with_reducible refine At_nil ?_)) | ((with_reducible refine is_At ?_); (first | with_reducible refine At_seq ?_; intro K hK | with_reducible refine At_region ?_ | with_reducible refine At_then_n ?_ | with_reducible refine At_go (by assumption) ?_ | ((with_reducible refine is_cond ?_); (refine At_cond_t rfl ?_))))))
    refine At_yield hF ha hy [.obj b3 (.cells #[chooseV b2 b1 b3] 67), .obj b2 (.cells #[.func (.yield l) #[] #[]] 66), .obj b1 (.cells #[.int .i64 n] 3)] set hφ hpre rfl rfl (arg1 (by (first | exact (rfl : _ = (Value.int _ _)) | exact (rfl : _ = (Value.bool _)) | exact (rfl : _ = (Value.pointer _)) | exact (rfl : _ = (Value.slice _ _ _)) | exact (rfl : _ = (Value.map _)) | exact (rfl : _ = (Value.func _ _ _)) | exact (rfl : _ = (Value.tuple _)) | exact (rfl : _ = (Value.agg _)) | exact (rfl : _ = (Value.string _)) | exact (rfl : _ = (Value.nilFunc)) | exact (rfl : _ = (Value.nilIface))))) ?_ ?_
    · intro s' hs'
      simp only [List.cons_append, List.nil_append]
      (repeat (first | ((with_reducible refine is_AL ?_); (first | ((with_reducible refine is_assign ?_); (refine At_plain hF (by (exact (rfl : _ = some (Value.bool _)))) ?_)) | with_reducible refine At_nil ?_)) | ((with_reducible refine is_At ?_); (first | with_reducible refine At_ret ?_ | with_reducible refine At_then_n ?_ | with_reducible refine At_then_r ?_ | with_reducible refine At_go (by assumption) ?_))))
      exact At_ret1 rfl (rv_tmp (by decide)) (fun w' hw' => ⟨_, rfl, _, .inl ⟨s', rfl, rfl, hs'⟩, hw'⟩)
    · intro s' hs'
      simp only [List.cons_append, List.nil_append]
      (repeat (first | ((with_reducible refine is_AL ?_); (first | ((with_reducible refine is_assign ?_); (refine At_plain hF (by (exact (rfl : _ = some (Value.bool _)))) ?_)) | with_reducible refine At_nil ?_)) | ((with_reducible refine is_At ?_); (first | with_reducible refine At_ret ?_ | with_reducible refine At_then_n ?_ | with_reducible refine At_then_r ?_ | with_reducible refine At_go (by assumption) ?_))))
      exact At_ret1 rfl (rv_tmp (by decide)) (fun w' hw' => ⟨_, rfl, _, .inr ⟨s', rfl, rfl, hs'⟩, hw'⟩)
  | succ m ih =>
    intro set from_ xs s hm hs hf hφ hpre w hw
    refine callsIn_at (n := 35) hF hro hw Try.func36 rfl Try.ntmps36 (by simp) ?_
    simp only [ritCh, List.cons_append, List.nil_append]
    (repeat (first | ((with_reducible refine is_AL ?_); (first | ((with_reducible refine is_move ?_); (refine At_plain hF (by (exact (rfl : _ = some (Value.int _ _)))) ?_)) | ((with_reducible refine is_bin ?_); (refine At_plain hF (by (exact (rfl : _ = some (Value.bool _)))) ?_)) | ((with_reducible refine is_assign ?_); (refine At_plain hF (by (first | exact (rfl : _ = some (Value.int _ _)) | exact (rfl : _ = some (Value.bool _)))) ?_)) | with_reducible refine At_nil ?_)) | ((with_reducible refine is_At ?_); (first | with_reducible refine At_seq ?_; intro K hK | with_reducible refine At_block ?_ | with_reducible refine At_region ?_ | with_reducible refine At_skip ?_ | with_reducible refine At_then_n ?_ | with_reducible refine At_go (by assumption) ?_ | ((with_reducible refine is_cond ?_); (refine At_cond_f rfl ?_))))))
    refine At_loop (fun st : Nat × σ => [(0, .int .u32 set), (2, .int .i64 ((m + 1 : Nat) : Int)), (3, ip b2), (4, ip b1), (5, ip b3), (10, .int .i64 st.1)])
      (fun st => .obj b3 (.cells #[chooseV b2 b1 b3] 67) :: .obj b2 (.cells #[.func (.yield l) #[] #[]] 66) :: .obj b1 (.cells #[.int .i64 n] 3) :: Rc st.2)
      (fun st => from_ ≤ st.1 ∧ st.1 ≤ n + 1 ∧ st.1 ≤ max from_ (n - m) ∧ φ (xs ++ goneL n m set from_ st.1) st.2) (fun st => n + 1 - st.1) (from_, s) ?_ ?_ ⟨Nat.le_refl _, hf, by simp only; omega, by simpa [goneL] using hφ⟩ ?_
    · (repeat (first | exact List.Sublist.refl _ | exact List.Sublist.slnil | refine List.Sublist.cons_cons _ ?_ | refine List.Sublist.cons _ ?_))
    · (repeat (first | exact True.intro | (refine And.intro ?_ ?_; focus (show _ = (_ : Value); first | exact rfl | (refine Eq.trans (b := Value.int IntKind.i64 _) rfl (congrArg (Value.int IntKind.i64) ?_); omega)))))
    rintro ⟨t, s⟩ ⟨h1, h2, h3, hφ⟩ K hL ρ0
    simp only at h1 h2 h3 hφ
    try dsimp only
    (repeat (first | ((with_reducible refine is_AL ?_); (first | ((with_reducible refine is_move ?_); (refine At_plain hF (by (exact (rfl : _ = some (Value.int _ _)))) ?_)) | ((with_reducible refine is_bin ?_); (first | ((with_reducible refine is_badd ?_); (refine At_add hF rfl rfl (by omega) ?_)) | refine At_plain hF (by (exact (rfl : _ = some (Value.bool _)))) ?_)) | ((with_reducible refine is_load ?_); (refine At_load hF 2 rfl rfl (by (exact (rfl : _ = some (Value.int _ _)))) ?_)) | with_reducible refine At_nil ?_)) | ((with_reducible refine is_At ?_); (first | with_reducible refine At_seq ?_; intro K hK | with_reducible refine At_region ?_ | with_reducible refine At_then_n ?_ | with_reducible refine At_go (by assumption) ?_))))
    ((with_reducible refine is_cond ?_); (refine At_cond rfl ?_ ?_ <;> (intro hg; try (simp only [decide_eq_true_eq, decide_eq_false_iff_not, beq_iff_eq, bne_iff_ne, beq_eq_false_iff_ne, bne_eq_false_iff_eq, ne_eq, Bool.not_eq_true', Bool.not_eq_false', Bool.not_true, Bool.not_false, Decidable.not_not] at hg); try (exfalso; first | omega | exact hg True.intro))))
    · have hpt : 1 * 2 ^ t < 1048576 := by rw [Nat.one_mul]; exact Nat.pow_lt_pow_right (n := 20) (by decide) (by omega)
      have hso : set ||| 1 * 2 ^ t < 1048576 := Nat.or_lt_two_pow (n := 20) hs hpt
      have hgs := goneL_succ n m set from_ t h1
      (repeat ((with_reducible refine is_At ?_); (first | with_reducible refine At_seq ?_; intro K hK | with_reducible refine At_block ?_ | with_reducible refine At_skip ?_ | with_reducible refine At_then_n ?_ | with_reducible refine At_go (by assumption) ?_)))
      refine At_draw hF 9 (by kernel_rfl) (by decide +kernel) ?_; simp only [List.take_succ_cons, List.take_zero, List.drop_succ_cons, List.drop_zero]; (repeat ((with_reducible refine is_AQc ?_); refine AQ_cons (by intro K Q hK; (repeat (first | ((with_reducible refine is_move ?_); (refine At_plain hF (by (exact (rfl : _ = some (Value.int _ _)))) ?_)) | ((with_reducible refine is_load ?_); (refine At_load hF 0 rfl rfl (by (exact (rfl : _ = some (Value.func _ _ _)))) ?_)))); exact At_nilK hK) ?_))
      refine AQ_cons (by intro K Q hK; refine At_shl (a := 1) (b := t) hF (by exact rfl) (by exact rfl) (by omega) (by omega) ?_; exact At_nilK hK) ?_
      (repeat ((with_reducible refine is_AQc ?_); refine AQ_cons (by intro K Q hK; skip; exact At_nilK hK) ?_))
      refine AQ_cons (by intro K Q hK; refine At_or (a := set) (b := 1 * 2 ^ t) hF (by exact rfl) (by exact rfl) (by omega) (by omega) ?_; exact At_nilK hK) ?_
      (repeat ((with_reducible refine is_AQc ?_); refine AQ_cons (by intro K Q hK; (repeat (first | ((with_reducible refine is_move ?_); (refine At_plain hF (by (exact (rfl : _ = some (Value.int _ _)))) ?_)) | ((with_reducible refine is_bin ?_); (first | ((with_reducible refine is_badd ?_); (refine At_add hF rfl rfl (by omega) ?_)) | ((with_reducible refine is_bsub ?_); (refine At_sub hF rfl rfl (by omega) ?_)))))); exact At_nilK hK) ?_)); refine AQ_done ?_
      rw [show ((m + 1 : Nat) : Int) - 1 = (m : Int) by omega, show (t : Int) + 1 = ((t + 1 : Nat) : Int) by omega]
      refine At_callvF (Post := chPost (ritCh l n b2 b1 b3) Rc φ ψ ((xs ++ goneL n m set from_ t) ++ chs n m (set ||| 1 * 2 ^ t) (t + 1))) hF E36 rfl (arg3 (by (first | exact (rfl : _ = (Value.int _ _)) | exact (rfl : _ = (Value.bool _)) | exact (rfl : _ = (Value.pointer _)) | exact (rfl : _ = (Value.slice _ _ _)) | exact (rfl : _ = (Value.map _)) | exact (rfl : _ = (Value.func _ _ _)) | exact (rfl : _ = (Value.tuple _)) | exact (rfl : _ = (Value.agg _)) | exact (rfl : _ = (Value.string _)) | exact (rfl : _ = (Value.nilFunc)) | exact (rfl : _ = (Value.nilIface)))) (by (first | exact (rfl : _ = (Value.int _ _)) | exact (rfl : _ = (Value.bool _)) | exact (rfl : _ = (Value.pointer _)) | exact (rfl : _ = (Value.slice _ _ _)) | exact (rfl : _ = (Value.map _)) | exact (rfl : _ = (Value.func _ _ _)) | exact (rfl : _ = (Value.tuple _)) | exact (rfl : _ = (Value.agg _)) | exact (rfl : _ = (Value.string _)) | exact (rfl : _ = (Value.nilFunc)) | exact (rfl : _ = (Value.nilIface)))) (by (first | exact (rfl : _ = (Value.int _ _)) | exact (rfl : _ = (Value.bool _)) | exact (rfl : _ = (Value.pointer _)) | exact (rfl : _ = (Value.slice _ _ _)) | exact (rfl : _ = (Value.map _)) | exact (rfl : _ = (Value.func _ _ _)) | exact (rfl : _ = (Value.tuple _)) | exact (rfl : _ = (Value.agg _)) | exact (rfl : _ = (Value.string _)) | exact (rfl : _ = (Value.nilFunc)) | exact (rfl : _ = (Value.nilIface))))) (by exact rfl) (fun w' hw' => ih (set ||| 1 * 2 ^ t) (t + 1) (xs ++ goneL n m set from_ t) s (by omega) hso (by omega) hφ (hpc _ _ (by
        rw [List.append_assoc, ← hgs]
        exact (List.prefix_append_right_inj xs).2 (goneL_pre n m set from_ (t + 1) (by omega))) hpre) w' hw') ?_
      rintro u R' (⟨s', rfl, rfl, hs'⟩ | ⟨s', rfl, rfl, hs'⟩)
      · simp only [ritCh, List.cons_append, List.nil_append]
        rw [List.append_assoc, ← hgs] at hs'
        (repeat (first | ((with_reducible refine is_AL ?_); (first | ((with_reducible refine is_move ?_); (refine At_plain hF (by (exact (rfl : _ = some (Value.int _ _)))) ?_)) | ((with_reducible refine is_bin ?_); ((with_reducible refine is_badd ?_); (refine At_add hF rfl rfl (by omega) ?_))) | ((with_reducible refine is_assign ?_); (refine At_plain hF (by (exact (rfl : _ = some (Value.int _ _)))) ?_)) | ((with_reducible refine is_un ?_); (refine At_plain hF (by (exact (rfl : _ = some (Value.bool _)))) ?_)) | with_reducible refine At_nil ?_)) | ((with_reducible refine is_At ?_); (first | with_reducible refine At_region ?_ | with_reducible refine At_skip ?_ | with_reducible refine At_then_n ?_ | with_reducible refine At_inb_n ?_ | with_reducible refine At_go (by assumption) ?_ | ((with_reducible refine is_cond ?_); (refine At_cond_f rfl ?_))))))
        refine At.sub ?_ (hL (t + 1, s') _ ⟨by omega, by omega, by omega, hs'⟩ (by simp only; omega) ?_)
        · (repeat (first | exact List.Sublist.refl _ | exact List.Sublist.slnil | refine List.Sublist.cons_cons _ ?_ | refine List.Sublist.cons _ ?_))
        · (repeat (first | exact True.intro | (refine And.intro ?_ ?_; focus (show _ = (_ : Value); first | exact rfl | (refine Eq.trans (b := Value.int IntKind.i64 _) rfl (congrArg (Value.int IntKind.i64) ?_); omega)))))
      · simp only [ritCh, List.cons_append, List.nil_append]
        (repeat (first | ((with_reducible refine is_AL ?_); (first | ((with_reducible refine is_assign ?_); (refine At_plain hF (by (exact (rfl : _ = some (Value.bool _)))) ?_)) | ((with_reducible refine is_un ?_); (refine At_plain hF (by (exact (rfl : _ = some (Value.bool _)))) ?_)) | with_reducible refine At_nil ?_)) | ((with_reducible refine is_At ?_); (first | with_reducible refine At_seq ?_; intro K hK | with_reducible refine At_region ?_ | with_reducible refine At_ret ?_ | with_reducible refine At_then_n ?_ | with_reducible refine At_then_r ?_ | with_reducible refine At_inb_r ?_ | with_reducible refine At_go (by assumption) ?_ | ((with_reducible refine is_cond ?_); (refine At_cond_t rfl ?_))))))
        exact At_ret1 rfl (rv_tmp (by decide)) (fun w' hw' => ⟨_, rfl, _, .inr ⟨s', rfl, rfl, hs'⟩, hw'⟩)
    · have hall := goneL_all n m set from_ t (by omega) h1 h3
      rw [hall] at hφ
      (repeat (first | ((with_reducible refine is_AL ?_); (first | ((with_reducible refine is_assign ?_); (refine At_plain hF (by (exact (rfl : _ = some (Value.bool _)))) ?_)) | with_reducible refine At_nil ?_)) | ((with_reducible refine is_At ?_); (first | with_reducible refine At_seq ?_; intro K hK | with_reducible refine At_region ?_ | with_reducible refine At_ret ?_ | with_reducible refine At_exit ?_ | with_reducible refine At_then_n ?_ | with_reducible refine At_then_e ?_ | with_reducible refine At_inb_e rfl ?_ | with_reducible refine At_go (by assumption) ?_))))
      exact At_ret1 rfl (rv_tmp (by decide)) (fun w' hw' => ⟨_, rfl, _, .inl ⟨s, rfl, rfl, hφ⟩, hw'⟩)
/-! ### the iterator -/
def upto (n size : Nat) : List Nat := (List.range' 2 (size - 2)).flatMap fun sz => chs n sz 0 0
theorem upto_succ (n size : Nat) (h : 2 ≤ size) : upto n (size + 1) = upto n size ++ chs n size 0 0 := by
  rw [upto, show size + 1 - 2 = (size - 2) + 1 by omega, range'_snoc, List.flatMap_append, show 2 + (size - 2) = size by omega]
  simp [upto]
theorem upto_pre (n size : Nat) (h : size ≤ n + 1) : upto n size <+: setsL n := by
  rw [setsL, upto]
  have e := @List.range'_append_1 2 (size - 2) (n - 1 - (size - 2))
  rw [show size - 2 + (n - 1 - (size - 2)) = n - 1 by omega] at e
  rw [← e, List.flatMap_append]
  exact List.prefix_append _ _
theorem upto_all (n : Nat) : upto n (n + 1) = setsL n := by rw [upto, setsL, show n + 1 - 2 = n - 1 by omega]
set_option maxHeartbeats 8000000 in
theorem sets_iter {F : Fence} (hF : Wide F) (ha : F.alive = false) (hro : F.round = none) (base : World) (n b1 : Nat) (hn : 2 ≤ n ∧ n ≤ 20) :
    IterOk F Try.prog 35 #[ip b1] base [.obj b1 (.cells #[.int .i64 n] 3)] argsU (fun xs => xs <+: setsL n) (fun xs => xs = setsL n) := by
  intro σ l Rc φ ψ hy s0 h0 w hw
  refine callsIn_at (n := 16) hF hro hw Try.func35 rfl Try.ntmps35 (by simp) ?_
  simp only [List.cons_append, List.nil_append]
  ((repeat (first | ((with_reducible refine is_AL ?_); (first | ((with_reducible refine is_assign ?_); (refine At_plain hF (by (exact (rfl : _ = some (Value.int _ _)))) ?_)) | ((with_reducible refine is_func ?_); (refine At_func3 hF (by (exact (rfl : _ = (Value.pointer _)))) (by (exact (rfl : _ = (Value.pointer _)))) (by (exact (rfl : _ = (Value.pointer _)))) ?_)) | ((with_reducible refine is_store ?_); (refine At_store_0 hF rfl (by (exact (rfl : _ = (Value.func _ _ _)))) (by (decide)) (by exact rfl) (by exact rfl) (by (exact (rfl : _ = List.toArray (_ :: _)))) ?_)) | with_reducible refine At_nil ?_)) | ((with_reducible refine is_At ?_); (first | with_reducible refine At_seq ?_; intro K hK | with_reducible refine At_block ?_ | with_reducible refine At_region ?_ | with_reducible refine At_then_n ?_ | with_reducible refine At_go (by assumption) ?_)))); (first | ((with_reducible refine is_alloc ?_); (refine At_alloc hF (by (exact (rfl : _ = List.toArray (_ :: _)))) ?_; intro b2)) | ((with_reducible refine is_box ?_); (refine At_box1 hF (by (exact (rfl : _ = (Value.func _ _ _)))) rfl ?_; intro b2))); (repeat (first | ((with_reducible refine is_AL ?_); (first | ((with_reducible refine is_assign ?_); (refine At_plain hF (by (exact (rfl : _ = some (Value.int _ _)))) ?_)) | ((with_reducible refine is_func ?_); (refine At_func3 hF (by (exact (rfl : _ = (Value.pointer _)))) (by (exact (rfl : _ = (Value.pointer _)))) (by (exact (rfl : _ = (Value.pointer _)))) ?_)) | ((with_reducible refine is_store ?_); (refine At_store_0 hF rfl (by (exact (rfl : _ = (Value.func _ _ _)))) (by (decide)) (by exact rfl) (by exact rfl) (by (exact (rfl : _ = List.toArray (_ :: _)))) ?_)) | with_reducible refine At_nil ?_)) | ((with_reducible refine is_At ?_); (first | with_reducible refine At_seq ?_; intro K hK | with_reducible refine At_block ?_ | with_reducible refine At_region ?_ | with_reducible refine At_then_n ?_ | with_reducible refine At_go (by assumption) ?_)))); (first | ((with_reducible refine is_alloc ?_); (refine At_alloc hF (by (exact (rfl : _ = List.toArray (_ :: _)))) ?_; intro b3)) | ((with_reducible refine is_box ?_); (refine At_box1 hF (by (exact (rfl : _ = (Value.func _ _ _)))) rfl ?_; intro b3))); (repeat (first | ((with_reducible refine is_AL ?_); (first | ((with_reducible refine is_assign ?_); (refine At_plain hF (by (exact (rfl : _ = some (Value.int _ _)))) ?_)) | ((with_reducible refine is_func ?_); (refine At_func3 hF (by (exact (rfl : _ = (Value.pointer _)))) (by (exact (rfl : _ = (Value.pointer _)))) (by (exact (rfl : _ = (Value.pointer _)))) ?_)) | ((with_reducible refine is_store ?_); (refine At_store_0 hF rfl (by (exact (rfl : _ = (Value.func _ _ _)))) (by (decide)) (by exact rfl) (by exact rfl) (by (exact (rfl : _ = List.toArray (_ :: _)))) ?_)) | with_reducible refine At_nil ?_)) | ((with_reducible refine is_At ?_); (first | with_reducible refine At_seq ?_; intro K hK | with_reducible refine At_block ?_ | with_reducible refine At_region ?_ | with_reducible refine At_then_n ?_ | with_reducible refine At_go (by assumption) ?_)))))
  refine At_loop (fun st : Nat × σ => [(1, ip b1), (3, ip b3), (4, .int .i64 st.1)])
    (fun st => .obj b3 (.cells #[chooseV b2 b1 b3] 67) :: .obj b2 (.cells #[.func (.yield l) #[] #[]] 66) :: .obj b1 (.cells #[.int .i64 n] 3) :: Rc st.2)
    (fun st => 2 ≤ st.1 ∧ st.1 ≤ n + 1 ∧ φ (upto n st.1) st.2) (fun st => n + 1 - st.1) (2, s0) ?_ ?_ ⟨Nat.le_refl _, by simp only; omega, h0⟩ ?_
  · (repeat (first | exact List.Sublist.refl _ | exact List.Sublist.slnil | refine List.Sublist.cons_cons _ ?_ | refine List.Sublist.cons _ ?_))
  · (repeat (first | exact True.intro | (refine And.intro ?_ ?_; focus (show _ = (_ : Value); first | exact rfl | (refine Eq.trans (b := Value.int IntKind.i64 _) rfl (congrArg (Value.int IntKind.i64) ?_); omega)))))
  rintro ⟨size, s⟩ ⟨h1, h2, hφ⟩ K hL ρ0
  simp only at h1 h2 hφ
  try dsimp only
  (repeat (first | ((with_reducible refine is_AL ?_); (first | ((with_reducible refine is_move ?_); (refine At_plain hF (by (first | exact (rfl : _ = some (Value.int _ _)) | exact (rfl : _ = some (Value.bool _)))) ?_)) | ((with_reducible refine is_bin ?_); (refine At_plain hF (by (exact (rfl : _ = some (Value.bool _)))) ?_)) | ((with_reducible refine is_load ?_); (refine At_load hF 2 rfl rfl (by (exact (rfl : _ = some (Value.int _ _)))) ?_)))) | ((with_reducible refine is_At ?_); (first | with_reducible refine At_seq ?_; intro K hK | with_reducible refine At_region ?_))))
  ((with_reducible refine is_guarded ?_); (refine At_guard hF rfl (by decide) rfl ?_ ?_ <;> (intro hg; try (simp only [decide_eq_true_eq, decide_eq_false_iff_not, beq_iff_eq, bne_iff_ne, beq_eq_false_iff_ne, bne_eq_false_iff_eq, ne_eq, Bool.not_eq_true', Bool.not_eq_false', Bool.not_true, Bool.not_false, Decidable.not_not] at hg); try (exfalso; first | omega | exact hg True.intro))))
  · have hus := upto_succ n size h1
    (repeat ((with_reducible refine is_AL ?_); (first | ((with_reducible refine is_guarded ?_); (refine At_guard_t rfl (by decide) rfl ?_)) | ((with_reducible refine is_move ?_); (refine At_plain hF (by (exact (rfl : _ = some (Value.int _ _)))) ?_)) | ((with_reducible refine is_load ?_); (refine At_load hF 0 rfl rfl (by (exact (rfl : _ = some (Value.func _ _ _)))) ?_)))))
    refine At_callvF (Post := chPost (ritCh l n b2 b1 b3) Rc φ ψ (upto n size ++ chs n size 0 0)) hF E36 rfl (arg3 (by (first | exact (rfl : _ = (Value.int _ _)) | exact (rfl : _ = (Value.bool _)) | exact (rfl : _ = (Value.pointer _)) | exact (rfl : _ = (Value.slice _ _ _)) | exact (rfl : _ = (Value.map _)) | exact (rfl : _ = (Value.func _ _ _)) | exact (rfl : _ = (Value.tuple _)) | exact (rfl : _ = (Value.agg _)) | exact (rfl : _ = (Value.string _)) | exact (rfl : _ = (Value.nilFunc)) | exact (rfl : _ = (Value.nilIface)))) (by (first | exact (rfl : _ = (Value.int _ _)) | exact (rfl : _ = (Value.bool _)) | exact (rfl : _ = (Value.pointer _)) | exact (rfl : _ = (Value.slice _ _ _)) | exact (rfl : _ = (Value.map _)) | exact (rfl : _ = (Value.func _ _ _)) | exact (rfl : _ = (Value.tuple _)) | exact (rfl : _ = (Value.agg _)) | exact (rfl : _ = (Value.string _)) | exact (rfl : _ = (Value.nilFunc)) | exact (rfl : _ = (Value.nilIface)))) (by (first | exact (rfl : _ = (Value.int _ _)) | exact (rfl : _ = (Value.bool _)) | exact (rfl : _ = (Value.pointer _)) | exact (rfl : _ = (Value.slice _ _ _)) | exact (rfl : _ = (Value.map _)) | exact (rfl : _ = (Value.func _ _ _)) | exact (rfl : _ = (Value.tuple _)) | exact (rfl : _ = (Value.agg _)) | exact (rfl : _ = (Value.string _)) | exact (rfl : _ = (Value.nilFunc)) | exact (rfl : _ = (Value.nilIface))))) (by exact rfl) (fun w' hw' => choose_calls hF ha hro base n l b2 b1 b3 hn.2 Rc φ ψ (fun xs => xs <+: setsL n) (fun a b hab hb => hab.trans hb) hy size 0 0 (upto n size) s (by omega) (by decide) (by omega) hφ (by rw [← hus]; exact upto_pre n (size + 1) (by omega)) w' hw') ?_
    rintro u R' (⟨s', rfl, rfl, hs'⟩ | ⟨s', rfl, rfl, hs'⟩)
    · simp only [ritCh, List.cons_append, List.nil_append]
      rw [← hus] at hs'
      (repeat (first | ((with_reducible refine is_AL ?_); (first | ((with_reducible refine is_move ?_); (refine At_plain hF (by (exact (rfl : _ = some (Value.int _ _)))) ?_)) | ((with_reducible refine is_bin ?_); ((with_reducible refine is_badd ?_); (refine At_add hF rfl rfl (by omega) ?_))) | ((with_reducible refine is_assign ?_); (refine At_plain hF (by (exact (rfl : _ = some (Value.int _ _)))) ?_)) | ((with_reducible refine is_pick ?_); (refine At_plain hF (by (exact (rfl : _ = some (Value.bool _)))) ?_)) | with_reducible refine At_nil ?_)) | ((with_reducible refine is_At ?_); (first | with_reducible refine At_seq ?_; intro K hK | with_reducible refine At_block ?_ | with_reducible refine At_region ?_ | with_reducible refine At_skip ?_ | with_reducible refine At_then_n ?_ | with_reducible refine At_inb_n ?_ | with_reducible refine At_go (by assumption) ?_ | ((with_reducible refine is_cond ?_); (refine At_cond_t rfl ?_))))))
      refine At.sub ?_ (hL (size + 1, s') _ ⟨by omega, by omega, hs'⟩ (by simp only; omega) ?_)
      · (repeat (first | exact List.Sublist.refl _ | exact List.Sublist.slnil | refine List.Sublist.cons_cons _ ?_ | refine List.Sublist.cons _ ?_))
      · (repeat (first | exact True.intro | (refine And.intro ?_ ?_; focus (show _ = (_ : Value); first | exact rfl | (refine Eq.trans (b := Value.int IntKind.i64 _) rfl (congrArg (Value.int IntKind.i64) ?_); omega)))))
    · simp only [ritCh, List.cons_append, List.nil_append]
      (repeat (first | ((with_reducible refine is_AL ?_); (first | ((with_reducible refine is_pick ?_); (refine At_plain hF (by (exact (rfl : _ = some (Value.bool _)))) ?_)) | with_reducible refine At_nil ?_)) | ((with_reducible refine is_At ?_); (first | with_reducible refine At_exit ?_ | with_reducible refine At_then_n ?_ | with_reducible refine At_then_e ?_ | with_reducible refine At_inb_e rfl ?_ | with_reducible refine At_go (by assumption) ?_ | ((with_reducible refine is_cond ?_); (refine At_cond_f rfl ?_))))))
      refine At_fin0n rfl ?_
      exact At.sub (.cons _ (.cons _ (List.Sublist.refl _))) (fun w' hw' => ⟨_, s', rfl, hw', .inr hs'⟩)
  · obtain rfl : size = n + 1 := by omega
    rw [upto_all] at hφ
    (repeat (first | ((with_reducible refine is_AL ?_); (first | ((with_reducible refine is_guarded ?_); (refine At_guard_f hF rfl (by decide) rfl rfl ?_)) | ((with_reducible refine is_pick ?_); (refine At_plain hF (by (exact (rfl : _ = some (Value.bool _)))) ?_)) | with_reducible refine At_nil ?_)) | ((with_reducible refine is_At ?_); (first | with_reducible refine At_exit ?_ | with_reducible refine At_then_n ?_ | with_reducible refine At_then_e ?_ | with_reducible refine At_inb_e rfl ?_ | with_reducible refine At_go (by assumption) ?_ | ((with_reducible refine is_cond ?_); (refine At_cond_f rfl ?_))))))
    refine At_fin0n rfl ?_
    exact At.sub (.cons _ (.cons _ (List.Sublist.refl _))) (fun w' hw' => ⟨_, s, rfl, hw', .inl ⟨_, rfl, hφ⟩⟩)
theorem sets_rets (n : Nat) (w : World) : Rets Try.prog 27 #[.int .i64 n] w fun u w' => ∃ Rs, (∃ b1, u = .func (.func 35) #[] #[ip b1] ∧ Rs = [.obj b1 (.cells #[.int .i64 n] 3)]) ∧ Mem w w' Rs := by
  have hF := wide_wide
  refine rets_at (n := 4) Try.func27 rfl Try.ntmps27 (by simp) ?_
  ((repeat (first | ((with_reducible refine is_AL ?_); (first | ((with_reducible refine is_assign ?_); (refine At_plain hF (by (first | exact (rfl : _ = some (Value.func _ _ _)) | exact (rfl : _ = some (Value.nilFunc)))) ?_)) | ((with_reducible refine is_func ?_); (refine At_func1 hF (by (exact (rfl : _ = (Value.pointer _)))) ?_)) | with_reducible refine At_nil ?_)) | ((with_reducible refine is_At ?_); (first | with_reducible refine At_seq ?_; intro K hK | with_reducible refine At_region ?_ | with_reducible refine At_ret ?_ | with_reducible refine At_then_n ?_ | with_reducible refine At_go (by assumption) ?_)))); ((with_reducible refine is_box ?_); (refine At_box1 hF (by (exact (rfl : _ = (Value.int _ _)))) rfl ?_; intro b1)); (repeat (first | ((with_reducible refine is_AL ?_); (first | ((with_reducible refine is_assign ?_); (refine At_plain hF (by (first | exact (rfl : _ = some (Value.func _ _ _)) | exact (rfl : _ = some (Value.nilFunc)))) ?_)) | ((with_reducible refine is_func ?_); (refine At_func1 hF (by (exact (rfl : _ = (Value.pointer _)))) ?_)) | with_reducible refine At_nil ?_)) | ((with_reducible refine is_At ?_); (first | with_reducible refine At_seq ?_; intro K hK | with_reducible refine At_region ?_ | with_reducible refine At_ret ?_ | with_reducible refine At_then_n ?_ | with_reducible refine At_go (by assumption) ?_)))))
  exact At_ret1 rfl (rv_tmp (by decide)) (fun w' hw' => ⟨_, rfl, _, ⟨b1, by rfl, rfl⟩, hw'⟩)
end Go.Proofs.Ytecgklfcblpkdaa.P
