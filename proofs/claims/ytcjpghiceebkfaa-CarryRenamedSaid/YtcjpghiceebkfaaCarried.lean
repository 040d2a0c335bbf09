/- carry.carried: the walk of the iterator. -/
import Derived.Test.YtcjpghiceebkfaaFoes
import Derived.Test.YtcjpghiceebkfaaXB
namespace Go.Proofs.Ytcjpghiceebkfaa.P
open Go.RowKit Go.Proofs.YtcjpghiceebkfaaW.PrintWords Go.Proofs.YtcjpghiceebkfaaW.PrintLast Go.Proofs.YtcjpghiceebkfaaW.PrintMore
open XW RegInv
attribute [local irreducible] Addr.add
set_option linter.unusedSimpArgs false
set_option linter.unusedVariables false

abbrev ip (b : Nat) : Value := .pointer (some ⟨b, 0, none⟩)
def aft (r : Int) (k : Int × Int) : Int × Int := if k.2 + 1 = r then (k.1, 0) else (k.1, k.2 + 1)
/-- what an entry hands on -/
def nxt (es : Ent) (r : Int) (e : (Int × Int) × Int) : Option (Int × Int) := (mget es (aft r e.1)).map fun j => (e.2, j)
def carried_all (es : Ent) (r : Int) (xs : List (Int × Int)) : Prop := ∃ es' : Ent, es'.Perm es ∧ es'.filterMap (nxt es r) = xs
def carried_pre (es : Ent) (r : Int) (xs : List (Int × Int)) : Prop := xs.length ≤ es.length ∧ ∀ x ∈ xs, ∃ e ∈ es, nxt es r e = some x
def args2 (x : Int × Int) : Array Value := #[.int .i64 x.1, .int .i64 x.2]
def ritC (bm b2 b3 : Nat) (es : Ent) (r : Int) : List Res := [.obj b3 (.cells #[.int .i64 r] 3), .obj b2 (.cells #[.map (some bm)] 54), .map epair (Value.int .i64) bm es]

theorem carried_rets (bm : Nat) (r : Int) (w : World) : Rets Try.prog 30 #[.map (some bm), .int .i64 r] w fun u w' => ∃ Rs, (∃ b2 b3, u = .func (.func 43) #[] #[ip b2, ip b3] ∧ Rs = [.obj b3 (.cells #[.int .i64 r] 3), .obj b2 (.cells #[.map (some bm)] 54)]) ∧ Mem w w' Rs := by
  have hF := wide_wide
  refine rets_at (n := 6) Try.func30 rfl Try.ntmps30 (by simp) ?_
  ((repeat (first | ((with_reducible refine is_AL ?_); (first | ((with_reducible refine is_assign ?_); (refine At_plain hF (by (first | exact (rfl : _ = some (Value.func _ _ _)) | exact (rfl : _ = some (Value.nilFunc)))) ?_)) | ((with_reducible refine is_func ?_); (refine At_func2 hF (by (exact (rfl : _ = (Value.pointer _)))) (by (exact (rfl : _ = (Value.pointer _)))) ?_)) | with_reducible refine At_nil ?_)) | ((with_reducible refine is_At ?_); (first | with_reducible refine At_seq ?_; intro K hK | with_reducible refine At_region ?_ | with_reducible refine At_ret ?_ | with_reducible refine At_then_n ?_ | with_reducible refine At_go (by assumption) ?_)))); ((with_reducible refine is_box ?_); (refine At_box1 hF (by (first | exact (rfl : _ = (Value.int _ _)) | exact (rfl : _ = (Value.map _)))) rfl ?_; intro b2)); (repeat (first | ((with_reducible refine is_AL ?_); (first | ((with_reducible refine is_assign ?_); (refine At_plain hF (by (first | exact (rfl : _ = some (Value.func _ _ _)) | exact (rfl : _ = some (Value.nilFunc)))) ?_)) | ((with_reducible refine is_func ?_); (refine At_func2 hF (by (exact (rfl : _ = (Value.pointer _)))) (by (exact (rfl : _ = (Value.pointer _)))) ?_)) | with_reducible refine At_nil ?_)) | ((with_reducible refine is_At ?_); (first | with_reducible refine At_seq ?_; intro K hK | with_reducible refine At_region ?_ | with_reducible refine At_ret ?_ | with_reducible refine At_then_n ?_ | with_reducible refine At_go (by assumption) ?_)))); ((with_reducible refine is_box ?_); (refine At_box1 hF (by (first | exact (rfl : _ = (Value.int _ _)) | exact (rfl : _ = (Value.map _)))) rfl ?_; intro b3)); (repeat (first | ((with_reducible refine is_AL ?_); (first | ((with_reducible refine is_assign ?_); (refine At_plain hF (by (first | exact (rfl : _ = some (Value.func _ _ _)) | exact (rfl : _ = some (Value.nilFunc)))) ?_)) | ((with_reducible refine is_func ?_); (refine At_func2 hF (by (exact (rfl : _ = (Value.pointer _)))) (by (exact (rfl : _ = (Value.pointer _)))) ?_)) | with_reducible refine At_nil ?_)) | ((with_reducible refine is_At ?_); (first | with_reducible refine At_seq ?_; intro K hK | with_reducible refine At_region ?_ | with_reducible refine At_ret ?_ | with_reducible refine At_then_n ?_ | with_reducible refine At_go (by assumption) ?_)))))
  exact At_ret1 rfl (rv_tmp (by decide)) (fun w' hw' => ⟨_, rfl, _, ⟨b2, b3, by rfl, rfl⟩, hw'⟩)

set_option maxHeartbeats 4000000 in
theorem carried_iter {F : Fence} (hF : Wide F) (ha : F.alive = false) (hro : F.round = none) (base : World) (bm b2 b3 : Nat) (es : Ent) (r : Int) (hes : ∀ e ∈ es, 0 ≤ e.1.2 ∧ e.1.2 ≤ 63) :
    IterOk F Try.prog 43 #[ip b2, ip b3] base (ritC bm b2 b3 es r) args2 (carried_pre es r) (carried_all es r) := by
  intro σ l Rc φ ψ hy s0 h0 w hw
  have hk80 := keyOk80
  refine callsIn_at (n := 43) hF hro hw Try.func43 rfl Try.ntmps43 (by simp) ?_
  simp only [ritC, List.cons_append, List.nil_append]
  ((repeat (first | ((with_reducible refine is_AL ?_); (first | ((with_reducible refine is_load ?_); (refine At_load hF 1 rfl rfl (by (exact (rfl : _ = some (Value.map _)))) ?_)) | with_reducible refine At_nil ?_)) | ((with_reducible refine is_At ?_); (first | with_reducible refine At_seq ?_; intro K hK | with_reducible refine At_block ?_ | with_reducible refine At_region ?_ | with_reducible refine At_then_n ?_ | with_reducible refine At_go (by assumption) ?_)))); ((with_reducible refine is_range ?_); (refine At_rangeMap_2 hF rfl ?_; intro r10)); (repeat (first | ((with_reducible refine is_AL ?_); (first | ((with_reducible refine is_load ?_); (refine At_load hF 1 rfl rfl (by (exact (rfl : _ = some (Value.map _)))) ?_)) | with_reducible refine At_nil ?_)) | ((with_reducible refine is_At ?_); (first | with_reducible refine At_seq ?_; intro K hK | with_reducible refine At_block ?_ | with_reducible refine At_region ?_ | with_reducible refine At_then_n ?_ | with_reducible refine At_go (by assumption) ?_)))))
  refine At_loop (fun st : Ent × Ent × σ => [(0, .func (.yield l) #[] #[]), (1, ip b2), (2, ip b3), (10, ip r10)])
    (fun st => .obj b3 (.cells #[.int .i64 r] 3) :: .obj b2 (.cells #[.map (some bm)] 54) :: .mapIt epair (Value.int .i64) bm r10 es st.2.1 :: Rc st.2.2)
    (fun st => (st.1 ++ st.2.1).Perm es ∧ φ (st.1.filterMap (nxt es r)) st.2.2) (fun st => st.2.1.length) ([], es, s0) ?_ ?_ ⟨List.Perm.refl _, h0⟩ ?_
  · (repeat (first | exact List.Sublist.refl _ | exact List.Sublist.slnil | refine List.Sublist.cons_cons _ ?_ | refine List.Sublist.cons _ ?_))
  · (repeat (first | exact True.intro | (refine And.intro ?_ ?_; focus (show _ = (_ : Value); first | exact rfl | (refine Eq.trans (b := Value.int IntKind.i64 _) rfl (congrArg (Value.int IntKind.i64) ?_); omega)))))
  rintro ⟨done, left, s⟩ ⟨hperm, hφ⟩ K hL ρ0
  simp only at hperm hφ
  dsimp only
  (repeat (first | ((with_reducible refine is_AL ?_); ((with_reducible refine is_next ?_); (refine At_mapNext_2 hF rfl ?_ ?_))) | ((with_reducible refine is_At ?_); (first | with_reducible refine At_seq ?_; intro K hK | with_reducible refine At_region ?_))))
  · intro hl
    subst hl
    (repeat (first | ((with_reducible refine is_AL ?_); (first | ((with_reducible refine is_extract ?_); (refine At_plain hF (by (exact (rfl : _ = some (Value.bool _)))) ?_)) | with_reducible refine At_nil ?_)) | ((with_reducible refine is_At ?_); (first | with_reducible refine At_seq ?_; intro K hK | with_reducible refine At_exit ?_ | with_reducible refine At_then_n ?_ | with_reducible refine At_then_e ?_ | with_reducible refine At_inb_e rfl ?_ | with_reducible refine At_go (by assumption) ?_ | ((with_reducible refine is_cond ?_); (refine At_cond_f rfl ?_))))))
    refine At_fin0n rfl ?_
    rw [List.append_nil] at hperm
    refine At_mapDone 2 rfl ?_
    exact fun w' hw' => ⟨_, s, rfl, hw', .inl ⟨_, ⟨done, hperm, rfl⟩, hφ⟩⟩
  rintro l1 ⟨k1, k2⟩ v l2 rfl
  have hmem : ((k1, k2), v) ∈ es := hperm.subset (by simp)
  have hb := hes _ hmem
  simp only at hb
  have hperm2 : ((done ++ [((k1, k2), v)]) ++ (l1 ++ l2)).Perm es := by
    refine List.Perm.trans ?_ hperm
    rw [List.append_assoc]
    show (done ++ ((k1, k2), v) :: (l1 ++ l2)).Perm _
    exact (List.perm_middle.symm).append_left done
  ((repeat (first | ((with_reducible refine is_AL ?_); (first | ((with_reducible refine is_bin ?_); ((with_reducible refine is_badd ?_); (refine At_add hF rfl rfl (by omega) ?_))) | ((with_reducible refine is_assign ?_); (refine At_plain hF (by (exact (rfl : _ = some (Value.int _ _)))) ?_)) | ((with_reducible refine is_extract ?_); (refine At_plain hF (by (first | exact (rfl : _ = some (Value.int _ _)) | exact (rfl : _ = some (Value.bool _)) | exact (rfl : _ = some (Value.agg _)))) ?_)) | ((with_reducible refine is_load ?_); (first | refine At_load hF 0 rfl rfl (by (exact (rfl : _ = some (Value.int _ _)))) ?_ | refine At_load hF 1 rfl rfl (by (exact (rfl : _ = some (Value.int _ _)))) ?_ | refine At_load hF 2 rfl rfl (by (exact (rfl : _ = some (Value.int _ _)))) ?_ | refine At_loadB hF 0 rfl rfl rfl ?_)) | ((with_reducible refine is_index ?_); (refine At_indexA1 hF rfl rfl rfl rfl (by first | decide | (simp only [TArr.m]; omega)) ?_)) | ((with_reducible refine is_build ?_); (refine At_buildPair hF (by decide) rfl rfl rfl ?_)) | ((with_reducible refine is_store ?_); (refine At_storeB_0 hF rfl rfl rfl rfl (by simp [Value.one1, epair]) ?_)) | ((with_reducible refine is_entry ?_); (refine At_mapEntry_2 hF rfl ?_)) | with_reducible refine At_nil ?_)) | ((with_reducible refine is_At ?_); (first | with_reducible refine At_seq ?_; intro K hK | with_reducible refine At_block ?_ | with_reducible refine At_region ?_ | with_reducible refine At_skip ?_ | with_reducible refine At_then_n ?_ | with_reducible refine At_go (by assumption) ?_ | ((with_reducible refine is_cond ?_); (refine At_cond_t rfl ?_)))))); ((with_reducible refine is_alloc ?_); (refine At_alloc hF (by (exact (rfl : _ = List.toArray (_ :: _)))) ?_; intro b4)); (repeat (first | ((with_reducible refine is_AL ?_); (first | ((with_reducible refine is_bin ?_); ((with_reducible refine is_badd ?_); (refine At_add hF rfl rfl (by omega) ?_))) | ((with_reducible refine is_assign ?_); (refine At_plain hF (by (exact (rfl : _ = some (Value.int _ _)))) ?_)) | ((with_reducible refine is_extract ?_); (refine At_plain hF (by (first | exact (rfl : _ = some (Value.int _ _)) | exact (rfl : _ = some (Value.bool _)) | exact (rfl : _ = some (Value.agg _)))) ?_)) | ((with_reducible refine is_load ?_); (first | refine At_load hF 0 rfl rfl (by (exact (rfl : _ = some (Value.int _ _)))) ?_ | refine At_load hF 1 rfl rfl (by (exact (rfl : _ = some (Value.int _ _)))) ?_ | refine At_load hF 2 rfl rfl (by (exact (rfl : _ = some (Value.int _ _)))) ?_ | refine At_loadB hF 0 rfl rfl rfl ?_)) | ((with_reducible refine is_index ?_); (refine At_indexA1 hF rfl rfl rfl rfl (by first | decide | (simp only [TArr.m]; omega)) ?_)) | ((with_reducible refine is_build ?_); (refine At_buildPair hF (by decide) rfl rfl rfl ?_)) | ((with_reducible refine is_store ?_); (refine At_storeB_0 hF rfl rfl rfl rfl (by simp [Value.one1, epair]) ?_)) | ((with_reducible refine is_entry ?_); (refine At_mapEntry_2 hF rfl ?_)) | with_reducible refine At_nil ?_)) | ((with_reducible refine is_At ?_); (first | with_reducible refine At_seq ?_; intro K hK | with_reducible refine At_block ?_ | with_reducible refine At_region ?_ | with_reducible refine At_skip ?_ | with_reducible refine At_then_n ?_ | with_reducible refine At_go (by assumption) ?_ | ((with_reducible refine is_cond ?_); (refine At_cond_t rfl ?_)))))); ((with_reducible refine is_alloc ?_); (refine At_alloc hF (by (exact (rfl : _ = List.toArray (_ :: _)))) ?_; intro b6)); (repeat (first | ((with_reducible refine is_AL ?_); (first | ((with_reducible refine is_bin ?_); ((with_reducible refine is_badd ?_); (refine At_add hF rfl rfl (by omega) ?_))) | ((with_reducible refine is_assign ?_); (refine At_plain hF (by (exact (rfl : _ = some (Value.int _ _)))) ?_)) | ((with_reducible refine is_extract ?_); (refine At_plain hF (by (first | exact (rfl : _ = some (Value.int _ _)) | exact (rfl : _ = some (Value.bool _)) | exact (rfl : _ = some (Value.agg _)))) ?_)) | ((with_reducible refine is_load ?_); (first | refine At_load hF 0 rfl rfl (by (exact (rfl : _ = some (Value.int _ _)))) ?_ | refine At_load hF 1 rfl rfl (by (exact (rfl : _ = some (Value.int _ _)))) ?_ | refine At_load hF 2 rfl rfl (by (exact (rfl : _ = some (Value.int _ _)))) ?_ | refine At_loadB hF 0 rfl rfl rfl ?_)) | ((with_reducible refine is_index ?_); (refine At_indexA1 hF rfl rfl rfl rfl (by first | decide | (simp only [TArr.m]; omega)) ?_)) | ((with_reducible refine is_build ?_); (refine At_buildPair hF (by decide) rfl rfl rfl ?_)) | ((with_reducible refine is_store ?_); (refine At_storeB_0 hF rfl rfl rfl rfl (by simp [Value.one1, epair]) ?_)) | ((with_reducible refine is_entry ?_); (refine At_mapEntry_2 hF rfl ?_)) | with_reducible refine At_nil ?_)) | ((with_reducible refine is_At ?_); (first | with_reducible refine At_seq ?_; intro K hK | with_reducible refine At_block ?_ | with_reducible refine At_region ?_ | with_reducible refine At_skip ?_ | with_reducible refine At_then_n ?_ | with_reducible refine At_go (by assumption) ?_ | ((with_reducible refine is_cond ?_); (refine At_cond_t rfl ?_)))))))
  refine At_eqPair hF (by decide) Try.underlying3 (by kernel_rfl) rfl rfl ?_
  (repeat (first | ((with_reducible refine is_AL ?_); (with_reducible refine At_nil ?_)) | ((with_reducible refine is_At ?_); (first | with_reducible refine At_then_n ?_ | with_reducible refine At_go (by assumption) ?_))))
  obtain ⟨a1, a2, haf⟩ : ∃ a1 a2, aft r (k1, k2) = (a1, a2) := ⟨_, _, rfl⟩
  refine At_merge [(0, .func (.yield l) #[] #[]), (1, ip b2), (2, ip b3), (5, .int .i64 v), (6, ip b6), (10, ip r10)]
    (.obj b6 (.cells #[.int .i64 a1, .int .i64 a2] 80) :: .obj b3 (.cells #[.int .i64 r] 3) :: .obj b2 (.cells #[.map (some bm)] 54) :: .mapIt epair (Value.int .i64) bm r10 es (l1 ++ l2) :: Rc s) ?_ ?_
  · intro K' hK'
    ((with_reducible refine is_cond ?_); (refine At_cond rfl ?_ ?_ <;> (intro hg; try (simp only [decide_eq_true_eq, decide_eq_false_iff_not, beq_iff_eq, bne_iff_ne, beq_eq_false_iff_ne, bne_eq_false_iff_eq, ne_eq, Bool.not_eq_true', Bool.not_eq_false', Bool.not_true, Bool.not_false, Decidable.not_not] at hg); try (exfalso; omega))))
    · have e : k2 + 1 = r := by
        have := congrArg Prod.snd hg
        simpa using this
      have ea : aft r (k1, k2) = (k1, 0) := by rw [aft, if_pos e]
      obtain ⟨rfl, rfl⟩ : k1 = a1 ∧ 0 = a2 := by rw [ea] at haf; simpa using haf
      (repeat (first | ((with_reducible refine is_AL ?_); (first | ((with_reducible refine is_index ?_); (refine At_indexA1 hF rfl rfl rfl rfl (by first | decide | (simp only [TArr.m]; omega)) ?_)) | ((with_reducible refine is_store ?_); (refine At_store_0 hF rfl (by (exact (rfl : _ = (Value.int _ _)))) (by (simp [buf_size1]; done)) (by exact rfl) (by exact rfl) (by (exact (rfl : _ = List.toArray (_ :: _)))) ?_)) | with_reducible refine At_nil ?_)) | ((with_reducible refine is_At ?_); (first | with_reducible refine At_region ?_ | with_reducible refine At_then_n ?_))))
      refine At.sub ?_ (hK' _ ?_)
      · (repeat (first | exact List.Sublist.refl _ | exact List.Sublist.slnil | refine List.Sublist.cons_cons _ ?_ | refine List.Sublist.cons _ ?_))
      · (repeat (first | exact True.intro | (refine And.intro ?_ ?_; focus (show _ = (_ : Value); first | exact rfl | (refine Eq.trans (b := Value.int IntKind.i64 _) rfl (congrArg (Value.int IntKind.i64) ?_); omega)))))
    · have e : ¬ k2 + 1 = r := fun e => hg (by rw [e])
      have ea : aft r (k1, k2) = (k1, k2 + 1) := by rw [aft, if_neg e]
      obtain ⟨rfl, rfl⟩ : k1 = a1 ∧ k2 + 1 = a2 := by rw [ea] at haf; simpa using haf
      (repeat ((with_reducible refine is_At ?_); (first | with_reducible refine At_skip ?_ | with_reducible refine At_then_n ?_)))
      refine At.sub ?_ (hK' _ ?_)
      · (repeat (first | exact List.Sublist.refl _ | exact List.Sublist.slnil | refine List.Sublist.cons_cons _ ?_ | refine List.Sublist.cons _ ?_))
      · (repeat (first | exact True.intro | (refine And.intro ?_ ?_; focus (show _ = (_ : Value); first | exact rfl | (refine Eq.trans (b := Value.int IntKind.i64 _) rfl (congrArg (Value.int IntKind.i64) ?_); omega)))))
  intro ρ1
  (repeat (first | ((with_reducible refine is_AL ?_); (first | ((with_reducible refine is_move ?_); (refine At_plain hF (by (first | exact (rfl : _ = some (Value.bool _)) | exact (rfl : _ = some (Value.tuple _)))) ?_)) | ((with_reducible refine is_assign ?_); (refine At_plain hF (by (first | exact (rfl : _ = some (Value.bool _)) | exact rfl)) ?_)) | ((with_reducible refine is_extract ?_); (refine At_plain hF (by (first | exact (rfl : _ = some (Value.bool _)) | exact rfl)) ?_)) | ((with_reducible refine is_load ?_); (first | refine At_load hF 2 rfl rfl (by (exact (rfl : _ = some (Value.map _)))) ?_ | refine At_loadB hF 0 rfl rfl rfl ?_)) | ((with_reducible refine is_lookup ?_); (refine At_lookupIt hF 3 (k := (_, _)) (by assumption) rfl rfl rfl rfl ?_)) | with_reducible refine At_nil ?_)) | ((with_reducible refine is_At ?_); (first | with_reducible refine At_seq ?_; intro K hK | with_reducible refine At_region ?_ | with_reducible refine At_then_n ?_ | with_reducible refine At_go (by assumption) ?_))))
  have hnext : nxt es r ((k1, k2), v) = (mget es (a1, a2)).map fun j => (v, j) := by rw [← haf]; rfl
  cases hm : mget es (a1, a2) with
  | none =>
    rw [hm] at hnext
    (repeat (first | ((with_reducible refine is_AL ?_); (first | ((with_reducible refine is_guarded ?_); (refine At_guard_f hF rfl (by decide) rfl rfl ?_)) | ((with_reducible refine is_pick ?_); (refine At_plain hF (by (exact (rfl : _ = some (Value.bool _)))) ?_)) | with_reducible refine At_nil ?_)) | ((with_reducible refine is_At ?_); (first | with_reducible refine At_skip ?_ | with_reducible refine At_then_n ?_ | with_reducible refine At_inb_n ?_ | with_reducible refine At_go (by assumption) ?_ | ((with_reducible refine is_cond ?_); (refine At_cond_f rfl ?_))))))
    refine At.sub ?_ (hL (done ++ [((k1, k2), v)], l1 ++ l2, s) _ ⟨hperm2, by rw [List.filterMap_append, List.filterMap_cons, hnext]; simpa using hφ⟩ (by simp) ?_)
    · (repeat (first | exact List.Sublist.refl _ | exact List.Sublist.slnil | refine List.Sublist.cons_cons _ ?_ | refine List.Sublist.cons _ ?_))
    · (repeat (first | exact True.intro | (refine And.intro ?_ ?_; focus (show _ = (_ : Value); first | exact rfl | (refine Eq.trans (b := Value.int IntKind.i64 _) rfl (congrArg (Value.int IntKind.i64) ?_); omega)))))
  | some j =>
    rw [hm] at hnext
    have hfm : (done ++ [((k1, k2), v)]).filterMap (nxt es r) = done.filterMap (nxt es r) ++ [(v, j)] := by rw [List.filterMap_append, List.filterMap_cons, hnext]; rfl
    (repeat ((with_reducible refine is_AL ?_); (first | ((with_reducible refine is_guarded ?_); (refine At_guard_t rfl (by decide) rfl ?_)) | ((with_reducible refine is_move ?_); (refine At_plain hF (by (first | exact (rfl : _ = some (Value.int _ _)) | exact (rfl : _ = some (Value.func _ _ _)))) ?_)))))
    refine At_yield hF ha hy [.obj b6 (.cells #[.int .i64 a1, .int .i64 a2] 80), .obj b3 (.cells #[.int .i64 r] 3), .obj b2 (.cells #[.map (some bm)] 54), .mapIt epair (Value.int .i64) bm r10 es (l1 ++ l2)] (v, j) hφ ?_ rfl rfl (arg2 (by (first | exact (rfl : _ = (Value.int _ _)) | exact (rfl : _ = (Value.bool _)) | exact (rfl : _ = (Value.pointer _)) | exact (rfl : _ = (Value.slice _ _ _)) | exact (rfl : _ = (Value.map _)) | exact (rfl : _ = (Value.func _ _ _)) | exact (rfl : _ = (Value.tuple _)) | exact (rfl : _ = (Value.agg _)) | exact (rfl : _ = (Value.string _)) | exact (rfl : _ = (Value.nilFunc)) | exact (rfl : _ = (Value.nilIface)))) (by (first | exact (rfl : _ = (Value.int _ _)) | exact (rfl : _ = (Value.bool _)) | exact (rfl : _ = (Value.pointer _)) | exact (rfl : _ = (Value.slice _ _ _)) | exact (rfl : _ = (Value.map _)) | exact (rfl : _ = (Value.func _ _ _)) | exact (rfl : _ = (Value.tuple _)) | exact (rfl : _ = (Value.agg _)) | exact (rfl : _ = (Value.string _)) | exact (rfl : _ = (Value.nilFunc)) | exact (rfl : _ = (Value.nilIface))))) ?_ ?_
    · rw [← hfm]
      refine ⟨Nat.le_trans (List.length_filterMap_le _ _) (by rw [← hperm2.length_eq]; simp), ?_⟩
      intro x hx
      obtain ⟨e, he, hex⟩ := List.mem_filterMap.1 hx
      exact ⟨e, hperm2.subset (List.mem_append_left _ he), hex⟩
    · intro s' hs'
      simp only [List.cons_append, List.nil_append]
      rw [← hfm] at hs'
      (repeat (first | ((with_reducible refine is_AL ?_); (first | ((with_reducible refine is_guarded ?_); (refine At_guard_t rfl (by decide) rfl ?_)) | ((with_reducible refine is_pick ?_); (refine At_plain hF (by (exact (rfl : _ = some (Value.bool _)))) ?_)) | ((with_reducible refine is_un ?_); (refine At_plain hF (by (exact (rfl : _ = some (Value.bool _)))) ?_)) | with_reducible refine At_nil ?_)) | ((with_reducible refine is_At ?_); (first | with_reducible refine At_skip ?_ | with_reducible refine At_then_n ?_ | with_reducible refine At_inb_n ?_ | with_reducible refine At_go (by assumption) ?_ | ((with_reducible refine is_cond ?_); (refine At_cond_f rfl ?_))))))
      refine At.sub ?_ (hL (done ++ [((k1, k2), v)], l1 ++ l2, s') _ ⟨hperm2, hs'⟩ (by simp) ?_)
      · (repeat (first | exact List.Sublist.refl _ | exact List.Sublist.slnil | refine List.Sublist.cons_cons _ ?_ | refine List.Sublist.cons _ ?_))
      · (repeat (first | exact True.intro | (refine And.intro ?_ ?_; focus (show _ = (_ : Value); first | exact rfl | (refine Eq.trans (b := Value.int IntKind.i64 _) rfl (congrArg (Value.int IntKind.i64) ?_); omega)))))
    · intro s' hs'
      simp only [List.cons_append, List.nil_append]
      (repeat (first | ((with_reducible refine is_AL ?_); (first | ((with_reducible refine is_guarded ?_); (refine At_guard_t rfl (by decide) rfl ?_)) | ((with_reducible refine is_pick ?_); (refine At_plain hF (by (exact (rfl : _ = some (Value.bool _)))) ?_)) | ((with_reducible refine is_un ?_); (refine At_plain hF (by (exact (rfl : _ = some (Value.bool _)))) ?_)) | with_reducible refine At_nil ?_)) | ((with_reducible refine is_At ?_); (first | with_reducible refine At_ret ?_ | with_reducible refine At_then_n ?_ | with_reducible refine At_then_r ?_ | with_reducible refine At_inb_r ?_ | with_reducible refine At_go (by assumption) ?_ | ((with_reducible refine is_cond ?_); (refine At_cond_t rfl ?_))))))
      refine At_fin0 rfl ?_
      refine At_mapDone 3 rfl ?_
      exact At.sub (List.sublist_cons_self _ _) (fun w' hw' => ⟨_, s', rfl, hw', .inr hs'⟩)
end Go.Proofs.Ytcjpghiceebkfaa.P
