import Derived.Test.YthddaojdlfifeaaOrd
import Derived.Test.YthddaojdlfifeaaXSort
import Derived.Test.YthddaojdlfifeaaXDrawC
import Derived.Test.YthddaojdlfifeaaXLies
import Derived.Test.YthddaojdlfifeaaP0
import Derived.Test.YthddaojdlfifeaaSort
import Derived.Test.YthddaojdlfifeaaXLoadR
import Derived.Test.YthddaojdlfifeaaXDrawF
/- robin.sorted: a sorted permutation in a row of its own. -/
namespace Go.Proofs.Ythddaojdlfifeaa.P
open Go.RowKit Go.Proofs.YthddaojdlfifeaaW.PrintWords Go.Proofs.YthddaojdlfifeaaW.PrintLast Go.Proofs.YthddaojdlfifeaaW.PrintMore
open XW RegInv
attribute [local irreducible] Addr.add
set_option linter.unusedSimpArgs false
set_option linter.unusedVariables false

instance : Inhabited S37 := ⟨z37⟩
theorem enc37_len (x : S37) : (enc37 x).length = 3 := rfl
theorem getD_memS {α : Type} {l : List α} {k : Nat} {d : α} (h : k < l.length) : l.getD k d ∈ l := by
  rw [List.getD_eq_getElem?_getD, List.getElem?_eq_getElem h]; exact List.getElem_mem h
theorem take_snocS {α : Type} (l : List α) (k : Nat) (d : α) (h : k < l.length) : l.take (k + 1) = l.take k ++ [l.getD k d] := by
  rw [List.take_succ_eq_append_getElem h, List.getD_eq_getElem?_getD, List.getElem?_eq_getElem h]; rfl
theorem C_flat {α : Type} {d : Kd α} {enc : α → List Value} (ho : ∀ {w x cs}, d.K w x cs → cs = enc x) {w : World} {A : Option Addr} {n : Nat} {xs : List α} (h : Kd.C d w A n xs) (z : α) (k : Nat) (hk : k < n) :
    ∃ ad, A = some ad ∧ ∀ j u, (enc (xs.getD k z))[j]? = some u → w.cell? ((ad.add (k * d.sz)).add j) = some u := by
  obtain ⟨ad, c, hA, _, hK, hc⟩ := Kd.C_get h z (k : Int) (by omega) (by omega)
  rw [Int.toNat_natCast] at hK hc
  refine ⟨ad, hA, fun j u hj => ?_⟩
  rw [addr_add_add]
  exact hc j u (by rw [ho hK]; exact hj)
abbrev ip (b : Nat) : Value := .pointer (some ⟨b, 0, none⟩)
def argsM (x : S37) : Array Value := #[.agg #[.int .i64 x.f0, .int .i64 x.f1, .int .i64 x.f2]]
def preV (l xs : List S37) : Prop := ∃ ys, xs ++ ys = l
theorem Mem.last {base w : World} {r : Res} {R : List Res} (h : Mem base w (r :: R)) : Mem base w (R ++ [r]) := h.perm (List.perm_append_singleton r R)
set_option maxHeartbeats 4000000 in
theorem vals_iter {F : Fence} (hF : Wide F) (ha : F.alive = false) (hro : F.round = none) (base : World) (b2 : Nat) (A : Option Addr) (c : Nat) (l : List S37) (hbox : base.cell? ⟨b2, 0, none⟩ = some (.slice A l.length c)) (hr : Kd.C k37 base A l.length l) :
    IterOk F Try.prog 45 #[ip b2] base [] argsM (preV l) (fun xs => xs = l) := by
  intro σ lp Rc φ ψ hy s0 h0 w hw
  have hmx := hr.2.1
  refine callsIn_at (n := 16) hF hro hw Try.func45 rfl Try.ntmps45 (by simp) ?_
  simp only [List.nil_append]
  (repeat ((with_reducible refine is_At ?_); (first | with_reducible refine At_seq ?_; intro K hK | with_reducible refine At_region ?_)))
  refine At_loadC hF (by exact rfl) hbox ?_
  (repeat (first | ((with_reducible refine is_AL ?_); (first | ((with_reducible refine is_move ?_); (refine At_plain hF (by (exact (rfl : _ = some (Value.int _ _)))) ?_)) | ((with_reducible refine is_call ?_); (refine At_len hF rfl ?_)) | with_reducible refine At_nil ?_)) | ((with_reducible refine is_At ?_); (first | with_reducible refine At_block ?_ | with_reducible refine At_then_n ?_ | with_reducible refine At_go (by assumption) ?_))))
  refine At_loop (fun st : Nat × σ => [(0, .func (.yield lp) #[] #[]), (5, .slice A l.length c), (6, .int .i64 l.length), (7, .int .i64 st.1)]) (fun st => Rc st.2) (fun st => st.1 ≤ l.length ∧ φ (l.take st.1) st.2) (fun st => l.length - st.1) (0, s0) ?_ ?_ ⟨Nat.zero_le _, h0⟩ ?_
  · (repeat (first | exact List.Sublist.refl _ | exact List.Sublist.slnil | refine List.Sublist.cons_cons _ ?_ | refine List.Sublist.cons _ ?_))
  · (repeat (first | exact True.intro | (refine And.intro ?_ ?_; focus (show _ = (_ : Value); first | exact rfl | (refine Eq.trans (b := Value.int IntKind.i64 _) rfl (congrArg (Value.int IntKind.i64) ?_); omega)))))
  rintro ⟨i, s⟩ ⟨hi, hφ⟩ K hL ρ1
  simp only at hi hφ
  try dsimp only
  (repeat (first | ((with_reducible refine is_AL ?_); (first | ((with_reducible refine is_bin ?_); (refine At_plain hF (by (exact (rfl : _ = some (Value.bool _)))) ?_)) | with_reducible refine At_nil ?_)) | ((with_reducible refine is_At ?_); (first | with_reducible refine At_seq ?_; intro K hK | with_reducible refine At_region ?_ | with_reducible refine At_then_n ?_ | with_reducible refine At_go (by assumption) ?_))))
  ((with_reducible refine is_cond ?_); (refine At_cond rfl ?_ ?_ <;> (intro hg; try (simp only [decide_eq_true_eq, decide_eq_false_iff_not, beq_iff_eq, bne_iff_ne, beq_eq_false_iff_ne, bne_eq_false_iff_eq, ne_eq, Bool.not_eq_true', Bool.not_eq_false', Bool.not_true, Bool.not_false, Decidable.not_not] at hg); try (exfalso; first | omega | exact hg True.intro))))
  · have hlt : i < l.length := by omega
    obtain ⟨ad, hA, hcell⟩ := C_flat (enc := enc37) (fun h => k37_open h) hr z37 i hlt
    have htk : l.take (i + 1) = l.take i ++ [l.getD i z37] := take_snocS l i z37 hlt
    generalize l.getD i z37 = x at hcell htk
    (repeat (first | ((with_reducible refine is_AL ?_); ((with_reducible refine is_index ?_); (refine At_indexC hF rfl (by assumption) rfl (by omega) ?_))) | ((with_reducible refine is_At ?_); (first | with_reducible refine At_seq ?_; intro K hK | with_reducible refine At_block ?_ | with_reducible refine At_region ?_ | with_reducible refine At_skip ?_ | with_reducible refine At_then_n ?_ | with_reducible refine At_go (by assumption) ?_))))
    refine At_loadCS (vs := [.int .i64 x.f0, .int .i64 x.f1, .int .i64 x.f2]) hF (by exact rfl) (by exact rfl) hcell ?_
    clear hA hcell
    ((repeat (first | ((with_reducible refine is_AL ?_); (first | ((with_reducible refine is_move ?_); (refine At_plain hF (by (exact (rfl : _ = some (Value.func _ _ _)))) ?_)) | ((with_reducible refine is_load ?_); (refine At_loadB hF 0 rfl rfl rfl ?_)) | ((with_reducible refine is_store ?_); (refine At_storeB_0 hF rfl rfl rfl rfl (by simp [Value.one1, epair]) ?_)) | with_reducible refine At_nil ?_)) | ((with_reducible refine is_At ?_); (first | with_reducible refine At_seq ?_; intro K hK | with_reducible refine At_region ?_ | with_reducible refine At_then_n ?_ | with_reducible refine At_go (by assumption) ?_)))); ((with_reducible refine is_alloc ?_); (refine At_alloc hF (by (exact (rfl : _ = List.toArray (_ :: _)))) ?_; intro b4)); (repeat (first | ((with_reducible refine is_AL ?_); (first | ((with_reducible refine is_move ?_); (refine At_plain hF (by (exact (rfl : _ = some (Value.func _ _ _)))) ?_)) | ((with_reducible refine is_load ?_); (refine At_loadB hF 0 rfl rfl rfl ?_)) | ((with_reducible refine is_store ?_); (refine At_storeB_0 hF rfl rfl rfl rfl (by simp [Value.one1, epair]) ?_)) | with_reducible refine At_nil ?_)) | ((with_reducible refine is_At ?_); (first | with_reducible refine At_seq ?_; intro K hK | with_reducible refine At_region ?_ | with_reducible refine At_then_n ?_ | with_reducible refine At_go (by assumption) ?_)))))
    refine At_yield hF ha hy [.obj b4 (.cells #[.int .i64 x.f0, .int .i64 x.f1, .int .i64 x.f2] 37)] (xs := l.take i) (s := s) x hφ (by rw [← htk]; exact ⟨l.drop (i + 1), List.take_append_drop _ _⟩) rfl (by exact rfl) (arg1 (by (first | exact (rfl : _ = (Value.int _ _)) | exact (rfl : _ = (Value.bool _)) | exact (rfl : _ = (Value.pointer _)) | exact (rfl : _ = (Value.slice _ _ _)) | exact (rfl : _ = (Value.map _)) | exact (rfl : _ = (Value.func _ _ _)) | exact (rfl : _ = (Value.tuple _)) | exact (rfl : _ = (Value.agg _)) | exact (rfl : _ = (Value.string _)) | exact (rfl : _ = (Value.nilFunc)) | exact (rfl : _ = (Value.nilIface))))) ?_ ?_
    · intro s' hs'
      rw [← htk] at hs'
      simp only [List.cons_append, List.nil_append]
      (repeat (first | ((with_reducible refine is_AL ?_); (first | ((with_reducible refine is_move ?_); (refine At_plain hF (by (exact (rfl : _ = some (Value.int _ _)))) ?_)) | ((with_reducible refine is_bin ?_); ((with_reducible refine is_badd ?_); (refine At_add hF rfl rfl (by omega) ?_))) | ((with_reducible refine is_un ?_); (refine At_plain hF (by (exact (rfl : _ = some (Value.bool _)))) ?_)) | with_reducible refine At_nil ?_)) | ((with_reducible refine is_At ?_); (first | with_reducible refine At_region ?_ | with_reducible refine At_skip ?_ | with_reducible refine At_then_n ?_ | with_reducible refine At_inb_n ?_ | with_reducible refine At_go (by assumption) ?_ | ((with_reducible refine is_cond ?_); (refine At_cond_f rfl ?_))))))
      refine At.sub ?_ (hL (i + 1, s') _ ⟨hlt, hs'⟩ (by simp only; omega) ?_)
      · (repeat (first | exact List.Sublist.refl _ | exact List.Sublist.slnil | refine List.Sublist.cons_cons _ ?_ | refine List.Sublist.cons _ ?_))
      · (repeat (first | exact True.intro | (refine And.intro ?_ ?_; focus (show _ = (_ : Value); first | exact rfl | (refine Eq.trans (b := Value.int IntKind.i64 _) rfl (congrArg (Value.int IntKind.i64) ?_); omega)))))
    · intro s' hs'
      simp only [List.cons_append, List.nil_append]
      (repeat (first | ((with_reducible refine is_AL ?_); (first | ((with_reducible refine is_un ?_); (refine At_plain hF (by (exact (rfl : _ = some (Value.bool _)))) ?_)) | with_reducible refine At_nil ?_)) | ((with_reducible refine is_At ?_); (first | with_reducible refine At_ret ?_ | with_reducible refine At_then_n ?_ | with_reducible refine At_then_r ?_ | with_reducible refine At_inb_r ?_ | with_reducible refine At_go (by assumption) ?_ | ((with_reducible refine is_cond ?_); (refine At_cond_t rfl ?_))))))
      exact At_fin0 rfl (fun w' hw' => ⟨_, s', rfl, hw'.sub (List.sublist_cons_self _ _), .inr hs'⟩)
  obtain rfl : i = l.length := by omega
  rw [List.take_length] at hφ
  (repeat ((with_reducible refine is_At ?_); (first | with_reducible refine At_exit ?_ | with_reducible refine At_then_e ?_ | with_reducible refine At_inb_e rfl ?_)))
  exact At_fin0n rfl (fun w' hw' => ⟨_, s, rfl, hw', .inl ⟨l, rfl, hφ⟩⟩)
theorem cell_laterS {w wx : World} {a : Addr} {v : Value} (hb : Below w.heap.size w wx) (h : w.cell? a = some v) : wx.cell? a = some v := by
  rw [hb.cell (by
    unfold World.cell? at h
    cases hx : w.heap[a.block]? with
    | none => simp [hx] at h
    | some o => exact get_lt hx)]
  exact h
theorem E45 : Enters Try.prog 45 := enters Try.func45 (by kernel_rfl) rfl
theorem E47 : Enters Try.prog 47 := enters Try.func47 (by kernel_rfl) rfl
theorem E43 : Enters Try.prog 43 := enters Try.func43 (by kernel_rfl) rfl
theorem E44 : Enters Try.prog 44 := enters Try.func44 (by kernel_rfl) rfl
theorem E39 : Enters Try.prog 39 := enters Try.func39 (by kernel_rfl) rfl
theorem E38 : Enters Try.prog 38 := enters Try.func38 (by kernel_rfl) rfl
theorem E26 : Enters Try.prog 26 := enters Try.func26 (by kernel_rfl) rfl
set_option maxHeartbeats 4000000 in
theorem app_rets (w0 : World) (b2 : Nat) (A : Option Addr) (c : Nat) (l : List S37) (hbox : w0.cell? ⟨b2, 0, none⟩ = some (.slice A l.length c)) (hr : Kd.C k37 w0 A l.length l) (hlen : l.length ≤ 1000000) :
    Rets Try.prog 47 #[.slice none 0 0, .func (.func 45) #[] #[ip b2]] w0 fun u w' => ∃ A' c', u = rowV A' l.length c' ∧ Mem w0 w' [.row 37 3 enc37 A' c' l] := by
  have hF := wide_wide
  refine rets_at (n := 13) Try.func47 rfl Try.ntmps47 (by simp) ?_
  refine At.newNil 37 3 enc37 enc37_len ?_
  ((repeat (first | ((with_reducible refine is_AL ?_); (first | ((with_reducible refine is_move ?_); (refine At_plain hF (by (exact (rfl : _ = some (Value.func _ _ _)))) ?_)) | ((with_reducible refine is_assign ?_); (refine At_plain hF (by (exact (rfl : _ = some (Value.slice _ _ _)))) ?_)) | with_reducible refine At_nil ?_)) | ((with_reducible refine is_At ?_); (first | with_reducible refine At_seq ?_; intro K hK | with_reducible refine At_block ?_ | with_reducible refine At_region ?_ | with_reducible refine At_then_n ?_ | with_reducible refine At_go (by assumption) ?_)))); ((with_reducible refine is_box ?_); (refine At_box1 hF (by (exact (rfl : _ = (Value.slice _ _ _)))) rfl ?_; intro bs)); (repeat (first | ((with_reducible refine is_AL ?_); (first | ((with_reducible refine is_move ?_); (refine At_plain hF (by (exact (rfl : _ = some (Value.func _ _ _)))) ?_)) | ((with_reducible refine is_assign ?_); (refine At_plain hF (by (exact (rfl : _ = some (Value.slice _ _ _)))) ?_)) | with_reducible refine At_nil ?_)) | ((with_reducible refine is_At ?_); (first | with_reducible refine At_seq ?_; intro K hK | with_reducible refine At_block ?_ | with_reducible refine At_region ?_ | with_reducible refine At_then_n ?_ | with_reducible refine At_go (by assumption) ?_)))))
  refine At_rangeX hF rfl rfl (by exact rfl) E45 [] argsM (preV l) (fun xs => xs = l) (vals_iter hF rfl rfl w0 b2 A c l hbox hr)
    (fun st : (Option Nat × Nat) × List S37 => [.obj bs (.cells #[rowV st.1.1 st.2.length st.1.2] 26 (0, 0)), .row 37 3 enc37 st.1.1 st.1.2 st.2]) (fun xs st => st.2 = xs) (fun _ _ => False) ((none, 0), []) ?_ rfl (fun _ => rfl) ?_ ?_ ?_
  · exact List.Sublist.refl _
  · rintro lp rec Ri xs x ⟨⟨A1, c1⟩, ys⟩ hφ ⟨zs, hpre⟩
    simp only at hφ
    subst hφ
    have hys : ys.length ≤ 1000000 := by
      have := congrArg List.length hpre
      simp at this; omega
    have hF := Wide.inRound hF lp
    simp only [List.cons_append, List.nil_append]
    ((repeat (first | ((with_reducible refine is_AL ?_); (first | ((with_reducible refine is_store ?_); (refine At_storeB_0 hF rfl rfl rfl rfl (by simp [Value.one1, epair]) ?_)) | with_reducible refine At_nil ?_)) | ((with_reducible refine is_At ?_); (with_reducible refine At_region ?_)))); ((with_reducible refine is_alloc ?_); (refine At_alloc hF (by (exact (rfl : _ = List.toArray (_ :: _)))) ?_; intro b5)); (repeat (first | ((with_reducible refine is_AL ?_); (first | ((with_reducible refine is_store ?_); (refine At_storeB_0 hF rfl rfl rfl rfl (by simp [Value.one1, epair]) ?_)) | with_reducible refine At_nil ?_)) | ((with_reducible refine is_At ?_); (with_reducible refine At_region ?_)))))
    refine fun w' hw' => ⟨rfl, [.obj b5 (.cells #[.int .i64 x.f0, .int .i64 x.f1, .int .i64 x.f2] 37 (0, 0))], hw'.perm (List.Perm.swap _ _ _), ?_⟩
    simp only [List.cons_append, List.nil_append]
    ((repeat (first | ((with_reducible refine is_AL ?_); ((with_reducible refine is_load ?_); (first | refine At_load hF 2 (by exact rfl) rfl (by (exact (rfl : _ = some (Value.slice _ _ _)))) ?_ | refine At_loadB hF 1 rfl rfl rfl ?_))) | ((with_reducible refine is_At ?_); (first | with_reducible refine At_block ?_ | with_reducible refine At_region ?_)))); ((with_reducible refine is_bslice ?_); (refine At_sliceA_1 hF (by decide) rfl rfl ?_; intro b6)); (repeat (first | ((with_reducible refine is_AL ?_); ((with_reducible refine is_load ?_); (first | refine At_load hF 2 (by exact rfl) rfl (by (exact (rfl : _ = some (Value.slice _ _ _)))) ?_ | refine At_loadB hF 1 rfl rfl rfl ?_))) | ((with_reducible refine is_At ?_); (first | with_reducible refine At_block ?_ | with_reducible refine At_region ?_)))))
    refine At_append_4 hF 0 rfl rfl rfl rfl (x0 := x) rfl (by decide) (by simp [Value.one1]) (by simp only [TS.bytes]; omega) (by omega) ?_
    intro A2 c2
    rw [show ys.length + 1 = (ys ++ [x]).length by simp]
    (repeat (first | ((with_reducible refine is_AL ?_); (first | ((with_reducible refine is_store ?_); (refine At_store_3 hF rfl (by (exact (rfl : _ = (Value.slice _ _ _)))) (by (exact of_decide_eq_true rfl)) (by exact rfl) (by exact rfl) (by (exact (rfl : _ = List.toArray (_ :: _)))) ?_)) | with_reducible refine At_nil ?_)) | ((with_reducible refine is_At ?_); (with_reducible refine At_inb_n ?_))))
    refine rnd_n ((A2, c2), ys ++ [x]) ?_ rfl
    (repeat (first | exact List.Sublist.refl _ | exact List.Sublist.slnil | refine List.Sublist.cons_cons _ ?_ | refine List.Sublist.cons _ ?_))
  · rintro D xs st rfl hφ
    subst hφ
    simp only [List.cons_append, List.nil_append]
    (repeat (first | ((with_reducible refine is_AL ?_); (first | ((with_reducible refine is_assign ?_); (refine At_plain hF (by (exact (rfl : _ = some (Value.slice _ _ _)))) ?_)) | ((with_reducible refine is_load ?_); (refine At_load hF 1 (by exact rfl) rfl (by (exact (rfl : _ = some (Value.slice _ _ _)))) ?_)) | with_reducible refine At_nil ?_)) | ((with_reducible refine is_At ?_); (first | with_reducible refine At_seq ?_; intro K hK | with_reducible refine At_region ?_ | with_reducible refine At_ret ?_ | with_reducible refine At_then_n ?_ | with_reducible refine At_inb_n ?_ | with_reducible refine At_go (by assumption) ?_))))
    exact At_retm1 rfl (rv_tmp (by decide)) (fun w' hw' => ⟨_, rfl, _, _, rfl, hw'.sub (List.sublist_cons_self _ _)⟩)
  · intro D e st _ h
    exact h.elim
set_option maxHeartbeats 4000000 in
theorem collect_rets (w0 : World) (b2 : Nat) (A : Option Addr) (c : Nat) (l : List S37) (hbox : w0.cell? ⟨b2, 0, none⟩ = some (.slice A l.length c)) (hr : Kd.C k37 w0 A l.length l) (hlen : l.length ≤ 1000000) :
    Rets Try.prog 43 #[.func (.func 45) #[] #[ip b2]] w0 fun u w' => ∃ A' c', u = rowV A' l.length c' ∧ Mem w0 w' [.row 37 3 enc37 A' c' l] := by
  have hF := wide_wide
  refine rets_at (n := 5) Try.func43 rfl Try.ntmps43 (by simp) ?_
  (repeat (first | ((with_reducible refine is_AL ?_); (first | ((with_reducible refine is_move ?_); (refine At_plain hF (by (exact (rfl : _ = some (Value.func _ _ _)))) ?_)) | ((with_reducible refine is_assign ?_); (refine At_plain hF (by (exact (rfl : _ = some (Value.slice _ _ _)))) ?_)) | with_reducible refine At_nil ?_)) | ((with_reducible refine is_At ?_); (first | with_reducible refine At_seq ?_; intro K hK | with_reducible refine At_region ?_ | with_reducible refine At_then_n ?_ | with_reducible refine At_go (by assumption) ?_))))
  refine At_callM hF E47 rfl (Post := fun u Rs => ∃ A' c', u = rowV A' l.length c' ∧ Rs = [.row 37 3 enc37 A' c' l]) (arg2 (by (first | exact (rfl : _ = (Value.int _ _)) | exact (rfl : _ = (Value.bool _)) | exact (rfl : _ = (Value.pointer _)) | exact (rfl : _ = (Value.slice _ _ _)) | exact (rfl : _ = (Value.map _)) | exact (rfl : _ = (Value.func _ _ _)) | exact (rfl : _ = (Value.tuple _)) | exact (rfl : _ = (Value.agg _)) | exact (rfl : _ = (Value.string _)) | exact (rfl : _ = (Value.nilFunc)) | exact (rfl : _ = (Value.nilIface)))) (by (first | exact (rfl : _ = (Value.int _ _)) | exact (rfl : _ = (Value.bool _)) | exact (rfl : _ = (Value.pointer _)) | exact (rfl : _ = (Value.slice _ _ _)) | exact (rfl : _ = (Value.map _)) | exact (rfl : _ = (Value.func _ _ _)) | exact (rfl : _ = (Value.tuple _)) | exact (rfl : _ = (Value.agg _)) | exact (rfl : _ = (Value.string _)) | exact (rfl : _ = (Value.nilFunc)) | exact (rfl : _ = (Value.nilIface))))) (fun w' hw' => (app_rets w' b2 A c l (cell_laterS hw'.below hbox) (Kd.C_below hr hw'.below) hlen).mono ?_) ?_
  · rintro _ w2 ⟨_, rfl, A', c', rfl, h⟩
    exact ⟨_, rfl, _, ⟨A', c', rfl, rfl⟩, h⟩
  rintro _ _ ⟨A', c', rfl, rfl⟩
  simp only [List.cons_append, List.nil_append]
  (repeat (first | ((with_reducible refine is_AL ?_); (first | ((with_reducible refine is_assign ?_); (refine At_plain hF (by (exact (rfl : _ = some (Value.slice _ _ _)))) ?_)) | with_reducible refine At_nil ?_)) | ((with_reducible refine is_At ?_); (first | with_reducible refine At_ret ?_ | with_reducible refine At_then_n ?_ | with_reducible refine At_go (by assumption) ?_))))
  exact At_ret1 rfl (rv_tmp (by decide)) (fun w' hw' => ⟨_, rfl, _, _, rfl, hw'⟩)
set_option maxHeartbeats 4000000 in
theorem values_rets (w0 : World) (u0 : Option Addr) (m c : Nat) :
    Rets Try.prog 39 #[.slice u0 m c] w0 fun u w' => ∃ b2, u = .func (.func 45) #[] #[ip b2] ∧ Mem w0 w' [.obj b2 (.cells #[.slice u0 m c] 26 (0, 0))] := by
  have hF := wide_wide
  refine rets_at (n := 4) Try.func39 rfl Try.ntmps39 (by simp) ?_
  ((repeat (first | ((with_reducible refine is_AL ?_); (first | ((with_reducible refine is_assign ?_); (refine At_plain hF (by (first | exact (rfl : _ = some (Value.func _ _ _)) | exact (rfl : _ = some (Value.nilFunc)))) ?_)) | ((with_reducible refine is_func ?_); (refine At_func1 hF (by (exact (rfl : _ = (Value.pointer _)))) ?_)) | with_reducible refine At_nil ?_)) | ((with_reducible refine is_At ?_); (first | with_reducible refine At_seq ?_; intro K hK | with_reducible refine At_region ?_ | with_reducible refine At_ret ?_ | with_reducible refine At_then_n ?_ | with_reducible refine At_go (by assumption) ?_)))); ((with_reducible refine is_box ?_); (refine At_box1 hF (by (exact (rfl : _ = (Value.slice _ _ _)))) rfl ?_; intro b2)); (repeat (first | ((with_reducible refine is_AL ?_); (first | ((with_reducible refine is_assign ?_); (refine At_plain hF (by (first | exact (rfl : _ = some (Value.func _ _ _)) | exact (rfl : _ = some (Value.nilFunc)))) ?_)) | ((with_reducible refine is_func ?_); (refine At_func1 hF (by (exact (rfl : _ = (Value.pointer _)))) ?_)) | with_reducible refine At_nil ?_)) | ((with_reducible refine is_At ?_); (first | with_reducible refine At_seq ?_; intro K hK | with_reducible refine At_region ?_ | with_reducible refine At_ret ?_ | with_reducible refine At_then_n ?_ | with_reducible refine At_go (by assumption) ?_)))))
  exact At_ret1 rfl (rv_tmp (by decide)) (fun w' hw' => ⟨_, rfl, _, rfl, hw'⟩)
end Go.Proofs.Ythddaojdlfifeaa.P

/- robin.sorted, part 2: slices.SortFunc over a row of the call's own, and sorted itself. -/
namespace Go.Proofs.Ythddaojdlfifeaa.P
open Go.RowKit Go.Proofs.YthddaojdlfifeaaW.PrintWords Go.Proofs.YthddaojdlfifeaaW.PrintLast Go.Proofs.YthddaojdlfifeaaW.PrintMore
open XW RegInv
attribute [local irreducible] Addr.add
set_option linter.unusedSimpArgs false
set_option linter.unusedVariables false

theorem cmpI_cases (a b : Int) : (Lib.compareInt a b = -1 ∧ a < b) ∨ (Lib.compareInt a b = 0 ∧ a = b) ∨ (Lib.compareInt a b = 1 ∧ b < a) := by
  unfold Lib.compareInt
  split
  · exact .inl ⟨rfl, by omega⟩
  · split
    · exact .inr (.inr ⟨rfl, by omega⟩)
    · exact .inr (.inl ⟨rfl, by omega⟩)
theorem lt_cfM (x y : S37) : Go.Proofs.ltOf cfM x y = true ↔ x.f0 < y.f0 ∨ (x.f0 = y.f0 ∧ x.f1 < y.f1) := by
  simp only [Go.Proofs.ltOf, cfM, cmpI, decide_eq_true_eq]
  rcases cmpI_cases x.f0 y.f0 with ⟨e, h⟩ | ⟨e, h⟩ | ⟨e, h⟩ <;> rcases cmpI_cases x.f1 y.f1 with ⟨e', h'⟩ | ⟨e', h'⟩ | ⟨e', h'⟩ <;> simp [e, e'] <;> omega
theorem nlt_cfM (x y : S37) : Go.Proofs.ltOf cfM x y = false ↔ ¬ (x.f0 < y.f0 ∨ (x.f0 = y.f0 ∧ x.f1 < y.f1)) := by
  rw [← lt_cfM]; simp
theorem swo_cfM : Go.Sort.SWO (Go.Proofs.ltOf cfM) := by
  refine ⟨fun x => ?_, fun x y z h1 h2 => ?_, fun x y z h1 h2 => ?_⟩
  · rw [nlt_cfM]; omega
  · rw [lt_cfM] at *; omega
  · rw [nlt_cfM] at *; omega
/-- sorted by round, then by home -/
def SrtL (l : List S37) : Prop := l.Pairwise fun x y => x.f0 < y.f0 ∨ (x.f0 = y.f0 ∧ x.f1 ≤ y.f1)
theorem srt_of {l : List S37} {d' : Array S37} (hp : Go.Sort.PermIn 0 l.toArray.size l.toArray d') (hs : Go.Sort.SortedIn (Go.Proofs.ltOf cfM) 0 l.toArray.size d') : d'.toList.Perm l ∧ SrtL d'.toList := by
  obtain ⟨h1, _, h3⟩ := hp
  have e1 : d'.extract 0 l.toArray.size = d' := by rw [← h1]; simp
  have e2 : l.toArray.extract 0 l.toArray.size = l.toArray := by simp
  rw [e1, e2] at h3
  refine ⟨h3, ?_⟩
  unfold SrtL
  rw [List.pairwise_iff_getElem]
  intro i j hi hj hij
  have hi' : i < d'.size := by simpa using hi
  have hj' : j < d'.size := by simpa using hj
  have h := hs i j (Nat.zero_le _) hij (by rw [← h1]; exact hj')
  rw [nlt_cfM, getElem!_pos d' i hi', getElem!_pos d' j hj'] at h
  simp only [Array.getElem_toList]
  omega
set_option maxHeartbeats 4000000 in
theorem sort_rets {base w : World} {A : Option Nat} {c : Nat} {l : List S37} (hl : l.length ≤ 1000000) (hw : Mem base w [.row 37 3 enc37 A c l]) :
    Rets Try.prog 44 #[rowV A l.length c, .func (.func 27) #[] #[]] w fun u w' => ∃ l', (l'.Perm l ∧ SrtL l') ∧ Mem base w' [.row 37 3 enc37 A c l'] := by
  by_cases h0 : l.length = 0
  · have := List.eq_nil_of_length_eq_zero h0
    subst this
    refine (AnyF.slices_SortFunc_none Try.sortM (A.map fun b => ⟨b, 0, none⟩) c (.func (.func 27) #[] #[]) w).mono ?_
    rintro e w' ⟨rfl, rfl⟩
    exact ⟨_, rfl, [], ⟨.refl _, List.Pairwise.nil⟩, hw⟩
  · obtain ⟨b, junk, rfl, hj, h2, h3, h1, hm⟩ := hw.open 0 rfl (by omega)
    have hm0 : Mem base w [.obj b (.cells (buf enc37 l junk) 37 (0, 0))] := hm
    have hb := hm0.at_ 0 rfl
    have hlt : b < w.heap.size := get_lt hb
    refine (AnyQ.slices_SortFunc Try.sortM 3 Try.isAgg37 Try.sizeOf37 enc37 enc37_len (by intro x v hv; simp only [enc37, List.mem_cons, List.mem_nil_iff, or_false] at hv; rcases hv with rfl | rfl | rfl <;> rfl) cfM swo_cfM 27 #[] b 0 c l.toArray w (fun args w => E27 args w) ?_ (holdsK_of enc37_len (by omega) hb) hlt (by simp; omega)).mono ?_
    · intro m os dk hs x y
      rw [Array.append_empty]
      refine (order_exact x y _).mono ?_
      rintro e w' ⟨v, rfl, rfl, h⟩
      exact ⟨rfl, h⟩
    · rintro e w' ⟨rfl, d', n, os, hp, hs, rfl⟩
      obtain ⟨hp', hs'⟩ := srt_of hp hs
      have hlen : d'.toList.length = l.length := hp'.length_eq
      have hd : d' = d'.toList.toArray := by simp
      rw [hd]
      generalize d'.toList = l' at hp' hs' hlen
      have hat := sortWorldK_at (enc := enc37) (k := 3) (n := n) (os := os) enc37_len (by omega) hlen hb
      refine ⟨_, rfl, l', ⟨hp', hs'⟩, ?_⟩
      refine hw.step 0 rfl ((sortWorldK_chg w b n l'.toArray os).mono ?_) ⟨enc37_len, by omega, h3, junk, hat, by omega⟩ ?_
      · intro k _ hk; subst hk; rfl
      · intro k hk
        have : b = k := Option.some.inj hk
        subst this
        exact ⟨.inl rfl, get_lt hat⟩
end Go.Proofs.Ythddaojdlfifeaa.P

/- robin.sorted, part 3. -/
namespace Go.Proofs.Ythddaojdlfifeaa.P
open Go.RowKit Go.Proofs.YthddaojdlfifeaaW.PrintWords Go.Proofs.YthddaojdlfifeaaW.PrintLast Go.Proofs.YthddaojdlfifeaaW.PrintMore
open XW RegInv
attribute [local irreducible] Addr.add
set_option linter.unusedSimpArgs false
set_option linter.unusedVariables false

set_option maxHeartbeats 4000000 in
theorem sortedF_rets (w0 : World) (b2 : Nat) (A : Option Addr) (c : Nat) (l : List S37) (hbox : w0.cell? ⟨b2, 0, none⟩ = some (.slice A l.length c)) (hr : Kd.C k37 w0 A l.length l) (hlen : l.length ≤ 1000000) :
    Rets Try.prog 38 #[.func (.func 45) #[] #[ip b2], .func (.func 27) #[] #[]] w0 fun u w' => ∃ A' c' l', u = rowV A' l.length c' ∧ (l'.Perm l ∧ SrtL l') ∧ Mem w0 w' [.row 37 3 enc37 A' c' l'] := by
  have hF := wide_wide
  refine rets_at (n := 12) Try.func38 rfl Try.ntmps38 (by simp) ?_
  (repeat (first | ((with_reducible refine is_AL ?_); (first | ((with_reducible refine is_move ?_); (refine At_plain hF (by (exact (rfl : _ = some (Value.func _ _ _)))) ?_)) | ((with_reducible refine is_assign ?_); (refine At_plain hF (by (exact (rfl : _ = some (Value.slice _ _ _)))) ?_)) | with_reducible refine At_nil ?_)) | ((with_reducible refine is_At ?_); (first | with_reducible refine At_seq ?_; intro K hK | with_reducible refine At_region ?_ | with_reducible refine At_then_n ?_ | with_reducible refine At_go (by assumption) ?_))))
  refine At_callM hF E43 rfl (Post := fun u Rs => ∃ A' c', u = rowV A' l.length c' ∧ Rs = [.row 37 3 enc37 A' c' l]) (arg1 (by (first | exact (rfl : _ = (Value.int _ _)) | exact (rfl : _ = (Value.bool _)) | exact (rfl : _ = (Value.pointer _)) | exact (rfl : _ = (Value.slice _ _ _)) | exact (rfl : _ = (Value.map _)) | exact (rfl : _ = (Value.func _ _ _)) | exact (rfl : _ = (Value.tuple _)) | exact (rfl : _ = (Value.agg _)) | exact (rfl : _ = (Value.string _)) | exact (rfl : _ = (Value.nilFunc)) | exact (rfl : _ = (Value.nilIface))))) (fun w' hw' => (collect_rets w' b2 A c l (cell_laterS hw'.below hbox) (Kd.C_below hr hw'.below) hlen).mono ?_) ?_
  · rintro _ w2 ⟨_, rfl, A', c', rfl, h⟩
    exact ⟨_, rfl, _, ⟨A', c', rfl, rfl⟩, h⟩
  rintro _ _ ⟨A', c', rfl, rfl⟩
  simp only [List.cons_append, List.nil_append]
  (repeat (first | ((with_reducible refine is_AL ?_); (first | ((with_reducible refine is_move ?_); (refine At_plain hF (by (first | exact (rfl : _ = some (Value.slice _ _ _)) | exact (rfl : _ = some (Value.func _ _ _)))) ?_)) | ((with_reducible refine is_assign ?_); (refine At_plain hF (by (exact (rfl : _ = some (Value.slice _ _ _)))) ?_)) | with_reducible refine At_nil ?_)) | ((with_reducible refine is_At ?_); (first | with_reducible refine At_seq ?_; intro K hK | with_reducible refine At_region ?_ | with_reducible refine At_then_n ?_ | with_reducible refine At_go (by assumption) ?_))))
  refine At_callG hF E44 rfl (Post := fun u Rs => ∃ l', (l'.Perm l ∧ SrtL l') ∧ Rs = [.row 37 3 enc37 A' c' l']) (arg2 (by (first | exact (rfl : _ = (Value.int _ _)) | exact (rfl : _ = (Value.bool _)) | exact (rfl : _ = (Value.pointer _)) | exact (rfl : _ = (Value.slice _ _ _)) | exact (rfl : _ = (Value.map _)) | exact (rfl : _ = (Value.func _ _ _)) | exact (rfl : _ = (Value.tuple _)) | exact (rfl : _ = (Value.agg _)) | exact (rfl : _ = (Value.string _)) | exact (rfl : _ = (Value.nilFunc)) | exact (rfl : _ = (Value.nilIface)))) (by (first | exact (rfl : _ = (Value.int _ _)) | exact (rfl : _ = (Value.bool _)) | exact (rfl : _ = (Value.pointer _)) | exact (rfl : _ = (Value.slice _ _ _)) | exact (rfl : _ = (Value.map _)) | exact (rfl : _ = (Value.func _ _ _)) | exact (rfl : _ = (Value.tuple _)) | exact (rfl : _ = (Value.agg _)) | exact (rfl : _ = (Value.string _)) | exact (rfl : _ = (Value.nilFunc)) | exact (rfl : _ = (Value.nilIface))))) (fun w' hw' => (sort_rets hlen hw').mono ?_) ?_
  · rintro _ w2 ⟨_, rfl, l', h1, h⟩
    exact ⟨_, rfl, _, ⟨l', h1, rfl⟩, h⟩
  rintro u _ ⟨l', hl', rfl⟩
  (repeat (first | ((with_reducible refine is_AL ?_); (first | ((with_reducible refine is_move ?_); (refine At_plain hF (by (exact (rfl : _ = some (Value.slice _ _ _)))) ?_)) | ((with_reducible refine is_assign ?_); (refine At_plain hF (by (exact (rfl : _ = some (Value.slice _ _ _)))) ?_)) | with_reducible refine At_nil ?_)) | ((with_reducible refine is_At ?_); (first | with_reducible refine At_seq ?_; intro K hK | with_reducible refine At_region ?_ | with_reducible refine At_ret ?_ | with_reducible refine At_then_n ?_ | with_reducible refine At_go (by assumption) ?_))))
  exact At_ret1 rfl (rv_tmp (by decide)) (fun w' hw' => ⟨_, rfl, _, _, _, rfl, hl', hw'⟩)
set_option maxHeartbeats 4000000 in
theorem sorted_rets (w0 : World) (A : Option Addr) (c : Nat) (l : List S37) (hr : Kd.C k37 w0 A l.length l) (hlen : l.length ≤ 1000000) :
    Rets Try.prog 26 #[.slice A l.length c, .func (.func 27) #[] #[]] w0 fun u w' => ∃ A' c' l', u = rowV A' l.length c' ∧ (l'.Perm l ∧ SrtL l') ∧ Mem w0 w' [.row 37 3 enc37 A' c' l'] := by
  have hF := wide_wide
  refine rets_at (n := 9) Try.func26 rfl Try.ntmps26 (by simp) ?_
  (repeat (first | ((with_reducible refine is_AL ?_); (first | ((with_reducible refine is_move ?_); (refine At_plain hF (by (exact (rfl : _ = some (Value.slice _ _ _)))) ?_)) | ((with_reducible refine is_assign ?_); (refine At_plain hF (by (exact (rfl : _ = some (Value.slice _ _ _)))) ?_)) | with_reducible refine At_nil ?_)) | ((with_reducible refine is_At ?_); (first | with_reducible refine At_seq ?_; intro K hK | with_reducible refine At_region ?_ | with_reducible refine At_then_n ?_ | with_reducible refine At_go (by assumption) ?_))))
  refine At_callM hF E39 rfl (Post := fun u Rs => ∃ b2, u = .func (.func 45) #[] #[ip b2] ∧ Rs = [.obj b2 (.cells #[.slice A l.length c] 26 (0, 0))]) (arg1 (by (first | exact (rfl : _ = (Value.int _ _)) | exact (rfl : _ = (Value.bool _)) | exact (rfl : _ = (Value.pointer _)) | exact (rfl : _ = (Value.slice _ _ _)) | exact (rfl : _ = (Value.map _)) | exact (rfl : _ = (Value.func _ _ _)) | exact (rfl : _ = (Value.tuple _)) | exact (rfl : _ = (Value.agg _)) | exact (rfl : _ = (Value.string _)) | exact (rfl : _ = (Value.nilFunc)) | exact (rfl : _ = (Value.nilIface))))) (fun w' hw' => (values_rets w' A l.length c).mono ?_) ?_
  · rintro _ w2 ⟨_, rfl, b2, rfl, h⟩
    exact ⟨_, rfl, _, ⟨b2, rfl, rfl⟩, h⟩
  rintro _ _ ⟨b2, rfl, rfl⟩
  simp only [List.cons_append, List.nil_append]
  (repeat ((with_reducible refine is_AL ?_); ((with_reducible refine is_move ?_); (refine At_plain hF (by (exact (rfl : _ = some (Value.func _ _ _)))) ?_))))
  refine At_callM hF E38 rfl (Post := fun u Rs => ∃ A' c' l', u = rowV A' l.length c' ∧ (l'.Perm l ∧ SrtL l') ∧ Rs = [.row 37 3 enc37 A' c' l']) (arg2 (by (first | exact (rfl : _ = (Value.int _ _)) | exact (rfl : _ = (Value.bool _)) | exact (rfl : _ = (Value.pointer _)) | exact (rfl : _ = (Value.slice _ _ _)) | exact (rfl : _ = (Value.map _)) | exact (rfl : _ = (Value.func _ _ _)) | exact (rfl : _ = (Value.tuple _)) | exact (rfl : _ = (Value.agg _)) | exact (rfl : _ = (Value.string _)) | exact (rfl : _ = (Value.nilFunc)) | exact (rfl : _ = (Value.nilIface)))) (by (first | exact (rfl : _ = (Value.int _ _)) | exact (rfl : _ = (Value.bool _)) | exact (rfl : _ = (Value.pointer _)) | exact (rfl : _ = (Value.slice _ _ _)) | exact (rfl : _ = (Value.map _)) | exact (rfl : _ = (Value.func _ _ _)) | exact (rfl : _ = (Value.tuple _)) | exact (rfl : _ = (Value.agg _)) | exact (rfl : _ = (Value.string _)) | exact (rfl : _ = (Value.nilFunc)) | exact (rfl : _ = (Value.nilIface))))) (fun w' hw' => (sortedF_rets w' b2 A c l (cell_of (hw'.at_ 0 rfl) rfl) (Kd.C_below hr hw'.below) hlen).mono ?_) ?_
  · rintro _ w2 ⟨_, rfl, A', c', l', rfl, h1, h⟩
    exact ⟨_, rfl, _, ⟨A', c', l', rfl, h1, rfl⟩, h⟩
  rintro _ _ ⟨A', c', l', rfl, hl', rfl⟩
  simp only [List.cons_append, List.nil_append]
  (repeat (first | ((with_reducible refine is_AL ?_); (first | ((with_reducible refine is_assign ?_); (refine At_plain hF (by (exact (rfl : _ = some (Value.slice _ _ _)))) ?_)) | with_reducible refine At_nil ?_)) | ((with_reducible refine is_At ?_); (first | with_reducible refine At_ret ?_ | with_reducible refine At_then_n ?_ | with_reducible refine At_go (by assumption) ?_))))
  exact At_ret1 rfl (rv_tmp (by decide)) (fun w' hw' => ⟨_, rfl, _, _, _, rfl, hl', hw'.sub (List.Sublist.cons_cons _ (List.nil_sublist _))⟩)
end Go.Proofs.Ythddaojdlfifeaa.P

/- robin.turned. -/
namespace Go.Proofs.Ythddaojdlfifeaa.P
open Go.RowKit Go.Proofs.YthddaojdlfifeaaW.PrintWords Go.Proofs.YthddaojdlfifeaaW.PrintLast Go.Proofs.YthddaojdlfifeaaW.PrintMore
open XW RegInv
attribute [local irreducible] Addr.add
set_option linter.unusedSimpArgs false
set_option linter.unusedVariables false

theorem C_of37 {w : World} {A : Option Nat} {c e : Nat} {l : List S37} (h : RowOk e 3 enc37 A c l w) : Kd.C k37 w (A.map fun b => ⟨b, 0, none⟩) l.length l := by
  obtain ⟨h1, h2, h3, h4⟩ := h
  refine ⟨rfl, by have : maxLen ≤ 9223372036854775807 := (by decide); omega, fun h0 => ?_⟩
  cases A with
  | none => obtain ⟨rfl, _⟩ := h4; simp at h0
  | some b =>
    obtain ⟨junk, hb, hl⟩ := h4
    refine ⟨⟨b, 0, none⟩, rfl, fun j x hx => ⟨enc37 x, rfl, k37_mk w x, fun i u hu => ?_⟩⟩
    have hj := (List.getElem?_eq_some_iff.1 hx).1
    have e : l.getD j default = x := by rw [List.getD_eq_getElem?_getD, hx]; rfl
    have := get_flat enc37_len default l j hj (j := i) (v := u) (by rw [e]; exact hu)
    rw [XW.add_plain, Nat.zero_add, show k37.sz = 3 from rfl]
    refine cell_of hb ?_
    rw [buf, List.getElem?_toArray, List.getElem?_append_left (List.getElem?_eq_some_iff.1 this).1]
    exact this
theorem C_own37 {base w : World} {R : List Res} {e : TypeId} {A : Option Nat} {c : Nat} {l : List S37} (hw : Mem base w R) (hm : Res.row e 3 enc37 A c l ∈ R) : Kd.C k37 w (A.map fun b => ⟨b, 0, none⟩) l.length l := C_of37 (hw.ok _ hm)
instance tb37 : TB Try.prog 37 := ⟨[(0, 1), (1, 1), (2, 1)], by
  obtain ⟨i, h1, h2, _⟩ := inf3
  exact ⟨_, Try.underlying37, fun W => by simp [Go.sizeOf, typeInfo, program, h1, h2, Sem.run_bind, Sem.run, Result.andThen]⟩⟩
/-- the return match of x in round r -/
def trn (r : Int) (x : S37) : S37 := ⟨r, x.f2, x.f1⟩
theorem E25 : Enters Try.prog 25 := enters Try.func25 (by kernel_rfl) rfl
set_option maxHeartbeats 4000000 in
theorem turned_rets (w0 : World) (A : Option Addr) (c : Nat) (l : List S37) (r : Int) (hr : Kd.C k37 w0 A l.length l) (hlen : l.length ≤ 1000000) :
    Rets Try.prog 25 #[.slice A l.length c, .int .i64 r] w0 fun u w' => ∃ A' c' l', u = rowV A' l.length c' ∧ (l'.Perm (l.map (trn r)) ∧ SrtL l') ∧ Mem w0 w' [.row 37 3 enc37 A' c' l'] := by
  have hF := wide_wide
  refine rets_at (n := 25) Try.func25 rfl Try.ntmps25 (by simp) ?_
  refine At.newNil 37 3 enc37 enc37_len ?_
  (repeat (first | ((with_reducible refine is_AL ?_); (first | ((with_reducible refine is_move ?_); (refine At_plain hF (by (first | exact (rfl : _ = some (Value.int _ _)) | exact (rfl : _ = some (Value.slice _ _ _)))) ?_)) | ((with_reducible refine is_assign ?_); (refine At_plain hF (by (exact (rfl : _ = some (Value.slice _ _ _)))) ?_)) | ((with_reducible refine is_call ?_); (refine At_len hF rfl ?_)) | with_reducible refine At_nil ?_)) | ((with_reducible refine is_At ?_); (first | with_reducible refine At_seq ?_; intro K hK | with_reducible refine At_block ?_ | with_reducible refine At_region ?_ | with_reducible refine At_then_n ?_ | with_reducible refine At_go (by assumption) ?_))))
  refine At_loop (fun st : Nat × Option Nat × Nat => [(0, .slice A l.length c), (1, .int .i64 r), (4, rowV st.2.1 st.1 st.2.2), (7, .slice A l.length c), (8, .int .i64 l.length), (9, .int .i64 st.1)]) (fun st => [.row 37 3 enc37 st.2.1 st.2.2 ((l.take st.1).map (trn r))]) (fun st => st.1 ≤ l.length) (fun st => l.length - st.1) (0, none, 0) ?_ ?_ (Nat.zero_le _) ?_
  · (repeat (first | exact List.Sublist.refl _ | exact List.Sublist.slnil | refine List.Sublist.cons_cons _ ?_ | refine List.Sublist.cons _ ?_))
  · (repeat (first | exact True.intro | (refine And.intro ?_ ?_; focus (show _ = (_ : Value); first | exact rfl | (refine Eq.trans (b := Value.int IntKind.i64 _) rfl (congrArg (Value.int IntKind.i64) ?_); omega)))))
  rintro ⟨i, A1, c1⟩ hi K hL ρ1
  simp only at hi
  try dsimp only
  (repeat (first | ((with_reducible refine is_AL ?_); (first | ((with_reducible refine is_bin ?_); (refine At_plain hF (by (exact (rfl : _ = some (Value.bool _)))) ?_)) | with_reducible refine At_nil ?_)) | ((with_reducible refine is_At ?_); (first | with_reducible refine At_seq ?_; intro K hK | with_reducible refine At_region ?_ | with_reducible refine At_then_n ?_ | with_reducible refine At_go (by assumption) ?_))))
  ((with_reducible refine is_cond ?_); (refine At_cond rfl ?_ ?_ <;> (intro hg; try (simp only [decide_eq_true_eq, decide_eq_false_iff_not, beq_iff_eq, bne_iff_ne, beq_eq_false_iff_ne, bne_eq_false_iff_eq, ne_eq, Bool.not_eq_true', Bool.not_eq_false', Bool.not_true, Bool.not_false, Decidable.not_not] at hg); try (exfalso; first | omega | exact hg True.intro))))
  · have hlt : i < l.length := by omega
    obtain ⟨ad, hA, hcell⟩ := C_flat (enc := enc37) (fun h => k37_open h) hr z37 i hlt
    have htk : l.take (i + 1) = l.take i ++ [l.getD i z37] := take_snocS l i z37 hlt
    generalize l.getD i z37 = x at hcell htk
    have hyl : ((l.take i).map (trn r)).length = i := by simp; omega
    (repeat (first | ((with_reducible refine is_AL ?_); ((with_reducible refine is_index ?_); (refine At_indexC hF rfl (by assumption) rfl (by omega) ?_))) | ((with_reducible refine is_At ?_); (first | with_reducible refine At_seq ?_; intro K hK | with_reducible refine At_block ?_ | with_reducible refine At_region ?_ | with_reducible refine At_skip ?_ | with_reducible refine At_then_n ?_ | with_reducible refine At_go (by assumption) ?_))))
    refine At_loadCS (vs := [.int .i64 x.f0, .int .i64 x.f1, .int .i64 x.f2]) hF (by exact rfl) (by exact rfl) hcell ?_
    clear hA hcell
    ((repeat (first | ((with_reducible refine is_AL ?_); (first | ((with_reducible refine is_move ?_); (refine At_plain hF (by (first | exact (rfl : _ = some (Value.int _ _)) | exact (rfl : _ = some (Value.slice _ _ _)))) ?_)) | ((with_reducible refine is_field ?_); (refine At_field hF rfl ?_)) | ((with_reducible refine is_load ?_); (refine At_load hF 0 (by exact rfl) rfl (by (exact (rfl : _ = some (Value.int _ _)))) ?_)) | ((with_reducible refine is_store ?_); (refine At_storeB_0 hF rfl rfl rfl rfl (by simp [Value.one1, epair]) ?_)) | with_reducible refine At_nil ?_)) | ((with_reducible refine is_At ?_); (first | with_reducible refine At_region ?_ | with_reducible refine At_then_n ?_ | with_reducible refine At_go (by assumption) ?_)))); ((with_reducible refine is_alloc ?_); (refine At_alloc hF (by (exact (rfl : _ = List.toArray (_ :: _)))) ?_; intro b4)); (repeat (first | ((with_reducible refine is_AL ?_); (first | ((with_reducible refine is_move ?_); (refine At_plain hF (by (first | exact (rfl : _ = some (Value.int _ _)) | exact (rfl : _ = some (Value.slice _ _ _)))) ?_)) | ((with_reducible refine is_field ?_); (refine At_field hF rfl ?_)) | ((with_reducible refine is_load ?_); (refine At_load hF 0 (by exact rfl) rfl (by (exact (rfl : _ = some (Value.int _ _)))) ?_)) | ((with_reducible refine is_store ?_); (refine At_storeB_0 hF rfl rfl rfl rfl (by simp [Value.one1, epair]) ?_)) | with_reducible refine At_nil ?_)) | ((with_reducible refine is_At ?_); (first | with_reducible refine At_region ?_ | with_reducible refine At_then_n ?_ | with_reducible refine At_go (by assumption) ?_)))))
    refine At_buildS hF (cs := #[.int .i64 r, .int .i64 x.f2, .int .i64 x.f1]) (by exact rfl) (by exact rfl) ?_
    (skip; ((with_reducible refine is_bslice ?_); (refine At_sliceA_1 hF (by decide) rfl rfl ?_; intro b6)); skip)
    refine At_append_2 hF 0 rfl rfl hyl.symm rfl (x0 := trn r x) rfl (by decide) (by simp [Value.one1]) (by simp only [TS.bytes]; omega) (by omega) ?_
    intro A2 c2
    rw [hyl, show (l.take i).map (trn r) ++ [trn r x] = (l.take (i + 1)).map (trn r) by rw [htk]; simp]
    (repeat (first | ((with_reducible refine is_AL ?_); (first | ((with_reducible refine is_move ?_); (refine At_plain hF (by (exact (rfl : _ = some (Value.int _ _)))) ?_)) | ((with_reducible refine is_bin ?_); ((with_reducible refine is_badd ?_); (refine At_add hF rfl rfl (by omega) ?_))) | ((with_reducible refine is_assign ?_); (refine At_plain hF (by (exact (rfl : _ = some (Value.slice _ _ _)))) ?_)) | with_reducible refine At_nil ?_)) | ((with_reducible refine is_At ?_); (first | with_reducible refine At_region ?_ | with_reducible refine At_then_n ?_ | with_reducible refine At_inb_n ?_ | with_reducible refine At_go (by assumption) ?_))))
    refine At.sub ?_ (hL (i + 1, A2, c2) _ (by simp only; omega) (by simp only; omega) ?_)
    · (repeat (first | exact List.Sublist.refl _ | exact List.Sublist.slnil | refine List.Sublist.cons_cons _ ?_ | refine List.Sublist.cons _ ?_))
    · (repeat (first | exact True.intro | (refine And.intro ?_ ?_; focus (show _ = (_ : Value); first | exact rfl | (refine Eq.trans (b := Value.int IntKind.i64 _) rfl (congrArg (Value.int IntKind.i64) ?_); omega)))))
  obtain rfl : i = l.length := by omega
  rw [List.take_length]
  (repeat (first | ((with_reducible refine is_AL ?_); ((with_reducible refine is_move ?_); (refine At_plain hF (by (exact (rfl : _ = some (Value.slice _ _ _)))) ?_))) | ((with_reducible refine is_At ?_); (first | with_reducible refine At_seq ?_; intro K hK | with_reducible refine At_region ?_ | with_reducible refine At_exit ?_ | with_reducible refine At_then_n ?_ | with_reducible refine At_then_e ?_ | with_reducible refine At_inb_e rfl ?_ | with_reducible refine At_go (by assumption) ?_))))
  have hml : (l.map (trn r)).length = l.length := by simp
  refine At_callM hF E26 rfl (Post := fun u Rs => ∃ A' c' l', u = rowV A' l.length c' ∧ (l'.Perm (l.map (trn r)) ∧ SrtL l') ∧ Rs = [.row 37 3 enc37 A' c' l']) (arg2 (by (first | exact (rfl : _ = (Value.int _ _)) | exact (rfl : _ = (Value.bool _)) | exact (rfl : _ = (Value.pointer _)) | exact (rfl : _ = (Value.slice _ _ _)) | exact (rfl : _ = (Value.map _)) | exact (rfl : _ = (Value.func _ _ _)) | exact (rfl : _ = (Value.tuple _)) | exact (rfl : _ = (Value.agg _)) | exact (rfl : _ = (Value.string _)) | exact (rfl : _ = (Value.nilFunc)) | exact (rfl : _ = (Value.nilIface)))) (by (first | exact (rfl : _ = (Value.int _ _)) | exact (rfl : _ = (Value.bool _)) | exact (rfl : _ = (Value.pointer _)) | exact (rfl : _ = (Value.slice _ _ _)) | exact (rfl : _ = (Value.map _)) | exact (rfl : _ = (Value.func _ _ _)) | exact (rfl : _ = (Value.tuple _)) | exact (rfl : _ = (Value.agg _)) | exact (rfl : _ = (Value.string _)) | exact (rfl : _ = (Value.nilFunc)) | exact (rfl : _ = (Value.nilIface))))) (fun w' hw' => ?_) ?_
  · have hc := C_own37 hw' (List.mem_cons_self ..)
    rw [hml] at hc
    have := sorted_rets w' _ c1 (l.map (trn r)) (by rw [hml]; exact hc) (by rw [hml]; exact hlen)
    rw [hml] at this
    refine this.mono ?_
    rintro _ w2 ⟨_, rfl, A', c', l', rfl, h1, h⟩
    exact ⟨_, rfl, _, ⟨A', c', l', rfl, h1, rfl⟩, h⟩
  rintro _ _ ⟨A', c', l', rfl, hl', rfl⟩
  simp only [List.cons_append, List.nil_append]
  (repeat (first | ((with_reducible refine is_AL ?_); (first | ((with_reducible refine is_assign ?_); (refine At_plain hF (by (exact (rfl : _ = some (Value.slice _ _ _)))) ?_)) | with_reducible refine At_nil ?_)) | ((with_reducible refine is_At ?_); (first | with_reducible refine At_ret ?_ | with_reducible refine At_then_n ?_ | with_reducible refine At_go (by assumption) ?_))))
  exact At_ret1 rfl (rv_tmp (by decide)) (fun w' hw' => ⟨_, rfl, _, _, _, rfl, hl', hw'.sub (List.Sublist.cons_cons _ (List.nil_sublist _))⟩)
end Go.Proofs.Ythddaojdlfifeaa.P

/- robin's circle: the closure that adds a meeting. -/
namespace Go.Proofs.Ythddaojdlfifeaa.P
open Go.RowKit Go.Proofs.YthddaojdlfifeaaW.PrintWords Go.Proofs.YthddaojdlfifeaaW.PrintLast Go.Proofs.YthddaojdlfifeaaW.PrintMore
open XW RegInv
attribute [local irreducible] Addr.add
set_option linter.unusedSimpArgs false
set_option linter.unusedVariables false

def addM (r a b : Int) (home : Bool) : S37 := if home then ⟨r, a, b⟩ else ⟨r, b, a⟩
theorem E37 : Enters Try.prog 37 := enters Try.func37 (by kernel_rfl) rfl
set_option maxHeartbeats 4000000 in
theorem add_rets {base w : World} {R : List Res} {bl br : Nat} {A : Option Nat} {c : Nat} {l : List S37} {r : Int} (a b : Int) (home : Bool) (hl : l.length ≤ 1000000) (hw : Mem base w (.obj bl (.cells #[rowV A l.length c] 26 (0, 0)) :: .obj br (.cells #[.int .i64 r] 3 (0, 0)) :: .row 37 3 enc37 A c l :: R)) :
    Rets Try.prog 37 #[.int .i64 a, .int .i64 b, .bool home, ip bl, ip br] w fun u w' => ∃ A' c', Mem base w' (.obj bl (.cells #[rowV A' (l ++ [addM r a b home]).length c'] 26 (0, 0)) :: .obj br (.cells #[.int .i64 r] 3 (0, 0)) :: .row 37 3 enc37 A' c' (l ++ [addM r a b home]) :: R) := by
  have hF := wide_wide
  refine rets_at' (n := 19) hw Try.func37 rfl Try.ntmps37 (by simp) ?_
  cases home with
  | true =>
    (repeat (first | ((with_reducible refine is_AL ?_); (first | ((with_reducible refine is_move ?_); (refine At_plain hF (by (first | exact (rfl : _ = some (Value.int _ _)) | exact (rfl : _ = some (Value.bool _)))) ?_)) | ((with_reducible refine is_un ?_); (refine At_plain hF (by (exact (rfl : _ = some (Value.bool _)))) ?_)) | ((with_reducible refine is_load ?_); (first | refine At_load hF 0 (by exact rfl) rfl (by (exact (rfl : _ = some (Value.slice _ _ _)))) ?_ | refine At_load hF 1 (by exact rfl) rfl (by (exact (rfl : _ = some (Value.int _ _)))) ?_)) | with_reducible refine At_nil ?_)) | ((with_reducible refine is_At ?_); (first | with_reducible refine At_seq ?_; intro K hK | with_reducible refine At_region ?_ | with_reducible refine At_skip ?_ | with_reducible refine At_then_n ?_ | with_reducible refine At_go (by assumption) ?_ | ((with_reducible refine is_cond ?_); (refine At_cond_f rfl ?_))))))
    refine At_buildS hF (cs := #[.int .i64 r, .int .i64 a, .int .i64 b]) (by exact rfl) (by exact rfl) ?_
    (skip; ((with_reducible refine is_bslice ?_); (refine At_sliceA_1 hF (by decide) rfl rfl ?_; intro b1)); skip)
    refine At_append_3 hF 0 rfl rfl rfl rfl (x0 := addM r a b true) rfl (by decide) (by simp [Value.one1]) (by simp only [TS.bytes]; omega) (by omega) ?_
    intro A2 c2
    rw [show l.length + 1 = (l ++ [addM r a b true]).length by simp]
    (repeat ((with_reducible refine is_AL ?_); (first | ((with_reducible refine is_store ?_); (refine At_store_1 hF rfl (by (exact (rfl : _ = (Value.slice _ _ _)))) (by (exact of_decide_eq_true rfl)) (by exact rfl) (by exact rfl) (by (exact (rfl : _ = List.toArray (_ :: _)))) ?_)) | with_reducible refine At_nil ?_)))
    exact At_fin0n rfl (fun w' hw' => ⟨_, rfl, A2, c2, hw'.sub (List.sublist_cons_self _ _)⟩)
  | false =>
    (repeat (first | ((with_reducible refine is_AL ?_); (first | ((with_reducible refine is_move ?_); (refine At_plain hF (by (first | exact (rfl : _ = some (Value.int _ _)) | exact (rfl : _ = some (Value.bool _)))) ?_)) | ((with_reducible refine is_assign ?_); (refine At_plain hF (by (exact (rfl : _ = some (Value.int _ _)))) ?_)) | ((with_reducible refine is_un ?_); (refine At_plain hF (by (exact (rfl : _ = some (Value.bool _)))) ?_)) | ((with_reducible refine is_load ?_); (first | refine At_load hF 0 (by exact rfl) rfl (by (exact (rfl : _ = some (Value.slice _ _ _)))) ?_ | refine At_load hF 1 (by exact rfl) rfl (by (exact (rfl : _ = some (Value.int _ _)))) ?_)) | with_reducible refine At_nil ?_)) | ((with_reducible refine is_At ?_); (first | with_reducible refine At_seq ?_; intro K hK | with_reducible refine At_region ?_ | with_reducible refine At_then_n ?_ | with_reducible refine At_go (by assumption) ?_ | ((with_reducible refine is_cond ?_); (refine At_cond_t rfl ?_))))))
    refine At_buildS hF (cs := #[.int .i64 r, .int .i64 b, .int .i64 a]) (by exact rfl) (by exact rfl) ?_
    (skip; ((with_reducible refine is_bslice ?_); (refine At_sliceA_1 hF (by decide) rfl rfl ?_; intro b1)); skip)
    refine At_append_3 hF 0 rfl rfl rfl rfl (x0 := addM r a b false) rfl (by decide) (by simp [Value.one1]) (by simp only [TS.bytes]; omega) (by omega) ?_
    intro A2 c2
    rw [show l.length + 1 = (l ++ [addM r a b false]).length by simp]
    (repeat ((with_reducible refine is_AL ?_); (first | ((with_reducible refine is_store ?_); (refine At_store_1 hF rfl (by (exact (rfl : _ = (Value.slice _ _ _)))) (by (exact of_decide_eq_true rfl)) (by exact rfl) (by exact rfl) (by (exact (rfl : _ = List.toArray (_ :: _)))) ?_)) | with_reducible refine At_nil ?_)))
    exact At_fin0n rfl (fun w' hw' => ⟨_, rfl, A2, c2, hw'.sub (List.sublist_cons_self _ _)⟩)
end Go.Proofs.Ythddaojdlfifeaa.P

/- robin's circle: the rounds, as an iterator. -/
namespace Go.Proofs.Ythddaojdlfifeaa.P
open Go.RowKit Go.Proofs.YthddaojdlfifeaaW.PrintWords Go.Proofs.YthddaojdlfifeaaW.PrintLast Go.Proofs.YthddaojdlfifeaaW.PrintMore
open XW RegInv
attribute [local irreducible] Addr.add
set_option linter.unusedSimpArgs false
set_option linter.unusedVariables false

theorem _root_.XW.Mem.rot3 {base w : World} {a b c : Res} {R : List Res} (h : Mem base w (a :: b :: c :: R)) : Mem base w (b :: c :: a :: R) := h.perm ((List.Perm.swap b a (c :: R)).trans ((List.Perm.swap c a R).cons b)).symm
/-- the meetings of round r, k of them (without the one of the odd team out) -/
def rndK (R r : Nat) : Nat → List S37
  | 0 => []
  | k + 1 => rndK R r k ++ [addM r (((r + (k + 1)) % R : Nat) : Int) (((r + R - (k + 1)) % R : Nat) : Int) ((k + 1) % 2 == 1)]
def rnd0 (n r : Nat) : List S37 := if n % 2 = 0 then [addM r ((n - 1 : Nat) : Int) r (r % 2 == 1)] else []
def rndL (n R r : Nat) : List S37 := rnd0 n r ++ rndK R r ((R - 1) / 2)
theorem rndK_len (R r k : Nat) : (rndK R r k).length = k := by induction k with
  | zero => rfl
  | succ k ih => simp [rndK, ih]
theorem rnd0_len (n r : Nat) : (rnd0 n r).length ≤ 1 := by unfold rnd0; split <;> simp
/-- what is handed over: the round, the row of its meetings -/
abbrev Rnd := Nat × (Option Nat × Nat) × List S37
def argsR (x : Rnd) : Array Value := #[.int .i64 x.1, rowV x.2.1.1 x.2.2.length x.2.1.2]
def GvR (x : Rnd) (Ri : List Res) : Prop := ∃ Ri', Ri = .row 37 3 enc37 x.2.1.1 x.2.1.2 x.2.2 :: Ri'
def okR (n R : Nat) (xs : List Rnd) : Prop := xs.length ≤ R ∧ ∀ (i : Nat) (x : Rnd), xs[i]? = some x → x.1 = i ∧ (x.2.2.Perm (rndL n R i) ∧ SrtL x.2.2)
theorem okR_snoc {n R : Nat} {xs : List Rnd} {x : Rnd} (h : okR n R xs) (hl : xs.length < R) (hx : x.1 = xs.length ∧ (x.2.2.Perm (rndL n R xs.length) ∧ SrtL x.2.2)) : okR n R (xs ++ [x]) := by
  refine ⟨by simp; omega, fun i y hy => ?_⟩
  rcases Nat.lt_trichotomy i xs.length with h1 | h1 | h1
  · rw [List.getElem?_append_left h1] at hy; exact h.2 i y hy
  · subst h1
    rw [List.getElem?_append_right (Nat.le_refl _)] at hy
    simp at hy; subst hy; exact hx
  · rw [List.getElem?_append_right (by omega)] at hy
    rw [List.getElem?_eq_none (by simp; omega)] at hy; cases hy
theorem E36 : Enters Try.prog 36 := enters Try.func36 (by kernel_rfl) rfl
set_option maxHeartbeats 4000000 in
theorem all_iter {F : Fence} (hF : Wide F) (ha : F.alive = false) (hro : F.round = none) (base : World) (bc n R : Nat) (hn : n ≤ 1000) (hn1 : 1 ≤ n) (hR : R ≤ 1001) (hR0 : 0 < R) (hR2 : R % 2 = 1) :
    IterOkG F Try.prog 36 #[ip bc] base [.obj bc (.cells #[.int .i64 n, .int .i64 R] 49 (0, 0))] argsR GvR (okR n R) (fun xs => okR n R xs ∧ xs.length = R) := by
  intro σ lp Rc φ ψ hy s0 h0 w hw
  refine callsIn_at (n := 60) hF hro hw Try.func36 rfl Try.ntmps36 (by simp) ?_
  simp only [List.cons_append, List.nil_append]
  (repeat (first | ((with_reducible refine is_AL ?_); (first | ((with_reducible refine is_move ?_); (refine At_plain hF (by (exact (rfl : _ = some (Value.int _ _)))) ?_)) | ((with_reducible refine is_field ?_); (refine At_field hF rfl ?_)) | ((with_reducible refine is_load ?_); (refine At_load hF 0 (by exact rfl) rfl (by (exact (rfl : _ = some (Value.int _ _)))) ?_)) | with_reducible refine At_nil ?_)) | ((with_reducible refine is_At ?_); (first | with_reducible refine At_seq ?_; intro K hK | with_reducible refine At_block ?_ | with_reducible refine At_region ?_ | with_reducible refine At_then_n ?_ | with_reducible refine At_go (by assumption) ?_))))
  refine At_loop (fun st : List Rnd × σ => [(0, .func (.yield lp) #[] #[]), (1, ip bc), (8, .int .i64 R), (9, .int .i64 st.1.length)]) (fun st => .obj bc (.cells #[.int .i64 n, .int .i64 R] 49 (0, 0)) :: Rc st.2) (fun st => okR n R st.1 ∧ φ st.1 st.2) (fun st => R - st.1.length) ([], s0) ?_ ?_ ⟨⟨by simp, by simp⟩, h0⟩ ?_
  · (repeat (first | exact List.Sublist.refl _ | exact List.Sublist.slnil | refine List.Sublist.cons_cons _ ?_ | refine List.Sublist.cons _ ?_))
  · (repeat (first | exact True.intro | (refine And.intro ?_ ?_; focus (show _ = (_ : Value); first | exact rfl | (refine Eq.trans (b := Value.int IntKind.i64 _) rfl (congrArg (Value.int IntKind.i64) ?_); omega)))))
  rintro ⟨xs, s⟩ ⟨hok, hφ⟩ K hL ρ1
  simp only at hok hφ
  try dsimp only
  (repeat (first | ((with_reducible refine is_AL ?_); (first | ((with_reducible refine is_bin ?_); (refine At_plain hF (by (exact (rfl : _ = some (Value.bool _)))) ?_)) | with_reducible refine At_nil ?_)) | ((with_reducible refine is_At ?_); (first | with_reducible refine At_seq ?_; intro K hK | with_reducible refine At_region ?_ | with_reducible refine At_then_n ?_ | with_reducible refine At_go (by assumption) ?_))))
  ((with_reducible refine is_cond ?_); (refine At_cond rfl ?_ ?_ <;> (intro hg; try (simp only [decide_eq_true_eq, decide_eq_false_iff_not, beq_iff_eq, bne_iff_ne, beq_eq_false_iff_ne, bne_eq_false_iff_eq, ne_eq, Bool.not_eq_true', Bool.not_eq_false', Bool.not_true, Bool.not_false, Decidable.not_not] at hg); try (exfalso; first | omega | exact hg True.intro))))
  · have hltR : xs.length < R := by omega
    ((repeat (first | ((with_reducible refine is_AL ?_); (first | ((with_reducible refine is_move ?_); (refine At_plain hF (by (exact (rfl : _ = some (Value.int _ _)))) ?_)) | ((with_reducible refine is_bin ?_); (first | ((with_reducible refine is_brem ?_); (refine At_rem hF rfl rfl (by omega) ?_)) | refine At_plain hF (by (exact (rfl : _ = some (Value.bool _)))) ?_)) | ((with_reducible refine is_assign ?_); (refine At_plain hF (by (exact (rfl : _ = some (Value.func _ _ _)))) ?_)) | ((with_reducible refine is_func ?_); (refine At_func2 hF (by (exact (rfl : _ = (Value.pointer _)))) (by (exact (rfl : _ = (Value.pointer _)))) ?_)) | ((with_reducible refine is_field ?_); (refine At_field hF rfl ?_)) | ((with_reducible refine is_load ?_); (refine At_load hF 2 (by exact rfl) rfl (by (exact (rfl : _ = some (Value.int _ _)))) ?_)) | ((with_reducible refine is_store ?_); (refine At_store_0 hF rfl (by (exact (rfl : _ = (Value.int _ _)))) (by (decide)) (by exact rfl) (by exact rfl) (by (exact (rfl : _ = List.toArray (_ :: _)))) ?_)) | with_reducible refine At_nil ?_)) | ((with_reducible refine is_At ?_); (first | with_reducible refine At_seq ?_; intro K hK | with_reducible refine At_block ?_ | with_reducible refine At_region ?_ | with_reducible refine At_skip ?_ | with_reducible refine At_then_n ?_ | with_reducible refine At_go (by assumption) ?_)))); ((with_reducible refine is_alloc ?_); (refine At_alloc hF (by (exact (rfl : _ = List.toArray (_ :: _)))) ?_; intro br)); (repeat (first | ((with_reducible refine is_AL ?_); (first | ((with_reducible refine is_move ?_); (refine At_plain hF (by (exact (rfl : _ = some (Value.int _ _)))) ?_)) | ((with_reducible refine is_bin ?_); (first | ((with_reducible refine is_brem ?_); (refine At_rem hF rfl rfl (by omega) ?_)) | refine At_plain hF (by (exact (rfl : _ = some (Value.bool _)))) ?_)) | ((with_reducible refine is_assign ?_); (refine At_plain hF (by (exact (rfl : _ = some (Value.func _ _ _)))) ?_)) | ((with_reducible refine is_func ?_); (refine At_func2 hF (by (exact (rfl : _ = (Value.pointer _)))) (by (exact (rfl : _ = (Value.pointer _)))) ?_)) | ((with_reducible refine is_field ?_); (refine At_field hF rfl ?_)) | ((with_reducible refine is_load ?_); (refine At_load hF 2 (by exact rfl) rfl (by (exact (rfl : _ = some (Value.int _ _)))) ?_)) | ((with_reducible refine is_store ?_); (refine At_store_0 hF rfl (by (exact (rfl : _ = (Value.int _ _)))) (by (decide)) (by exact rfl) (by exact rfl) (by (exact (rfl : _ = List.toArray (_ :: _)))) ?_)) | with_reducible refine At_nil ?_)) | ((with_reducible refine is_At ?_); (first | with_reducible refine At_seq ?_; intro K hK | with_reducible refine At_block ?_ | with_reducible refine At_region ?_ | with_reducible refine At_skip ?_ | with_reducible refine At_then_n ?_ | with_reducible refine At_go (by assumption) ?_)))); ((with_reducible refine is_alloc ?_); (refine At_alloc hF (by (exact (rfl : _ = List.toArray (_ :: _)))) ?_; intro bl)); (repeat (first | ((with_reducible refine is_AL ?_); (first | ((with_reducible refine is_move ?_); (refine At_plain hF (by (exact (rfl : _ = some (Value.int _ _)))) ?_)) | ((with_reducible refine is_bin ?_); (first | ((with_reducible refine is_brem ?_); (refine At_rem hF rfl rfl (by omega) ?_)) | refine At_plain hF (by (exact (rfl : _ = some (Value.bool _)))) ?_)) | ((with_reducible refine is_assign ?_); (refine At_plain hF (by (exact (rfl : _ = some (Value.func _ _ _)))) ?_)) | ((with_reducible refine is_func ?_); (refine At_func2 hF (by (exact (rfl : _ = (Value.pointer _)))) (by (exact (rfl : _ = (Value.pointer _)))) ?_)) | ((with_reducible refine is_field ?_); (refine At_field hF rfl ?_)) | ((with_reducible refine is_load ?_); (refine At_load hF 2 (by exact rfl) rfl (by (exact (rfl : _ = some (Value.int _ _)))) ?_)) | ((with_reducible refine is_store ?_); (refine At_store_0 hF rfl (by (exact (rfl : _ = (Value.int _ _)))) (by (decide)) (by exact rfl) (by exact rfl) (by (exact (rfl : _ = List.toArray (_ :: _)))) ?_)) | with_reducible refine At_nil ?_)) | ((with_reducible refine is_At ?_); (first | with_reducible refine At_seq ?_; intro K hK | with_reducible refine At_block ?_ | with_reducible refine At_region ?_ | with_reducible refine At_skip ?_ | with_reducible refine At_then_n ?_ | with_reducible refine At_go (by assumption) ?_)))))
    refine At.newNil 37 3 enc37 enc37_len ?_
    refine At_mergeE (σ := Option Nat × Nat) (fun st => [(0, .func (.yield lp) #[] #[]), (1, ip bc), (3, ip br), (4, ip bl), (5, .func (.func 37) #[] #[ip bl, ip br]), (8, .int .i64 R), (9, .int .i64 xs.length)]) (fun st => .obj bl (.cells #[rowV st.1 (rnd0 n xs.length).length st.2] 26 (0, 0)) :: .obj br (.cells #[.int .i64 xs.length] 3 (0, 0)) :: .row 37 3 enc37 st.1 st.2 (rnd0 n xs.length) :: .obj bc (.cells #[.int .i64 n, .int .i64 R] 49 (0, 0)) :: Rc s) (fun _ => True) ?_ ?_
    · intro K' hK'
      ((with_reducible refine is_cond ?_); (refine At_cond rfl ?_ ?_ <;> (intro hg; try (simp only [decide_eq_true_eq, decide_eq_false_iff_not, beq_iff_eq, bne_iff_ne, beq_eq_false_iff_ne, bne_eq_false_iff_eq, ne_eq, Bool.not_eq_true', Bool.not_eq_false', Bool.not_true, Bool.not_false, Decidable.not_not] at hg); try (exfalso; first | omega | exact hg True.intro))))
      · have he : n % 2 = 0 := by omega
        have hr0 : rnd0 n xs.length = [addM xs.length ((n - 1 : Nat) : Int) xs.length (xs.length % 2 == 1)] := by unfold rnd0; rw [if_pos he]
        (repeat (first | ((with_reducible refine is_AL ?_); (first | ((with_reducible refine is_move ?_); (refine At_plain hF (by (exact (rfl : _ = some (Value.func _ _ _)))) ?_)) | ((with_reducible refine is_bin ?_); (first | ((with_reducible refine is_bsub ?_); (refine At_sub hF rfl rfl (by omega) ?_)) | ((with_reducible refine is_brem ?_); (refine At_rem hF rfl rfl (by omega) ?_)) | refine At_plain hF (by (exact (rfl : _ = some (Value.bool _)))) ?_)) | ((with_reducible refine is_field ?_); (refine At_field hF rfl ?_)) | ((with_reducible refine is_load ?_); (first | refine At_load hF 2 (by exact rfl) rfl (by (exact (rfl : _ = some (Value.int _ _)))) ?_ | refine At_load hF 3 (by exact rfl) rfl (by (exact (rfl : _ = some (Value.int _ _)))) ?_)))) | ((with_reducible refine is_At ?_); (with_reducible refine At_region ?_))))
        refine At_callvG hF E37 ha rfl (vs := #[.int .i64 ((n : Int) - 1), .int .i64 xs.length, .bool ((xs.length : Int) % 2 == 1)]) (Post := fun _ Rs => ∃ A' c', Rs = .obj bl (.cells #[rowV A' (rnd0 n xs.length).length c'] 26 (0, 0)) :: .obj br (.cells #[.int .i64 xs.length] 3 (0, 0)) :: .row 37 3 enc37 A' c' (rnd0 n xs.length) :: .obj bc (.cells #[.int .i64 n, .int .i64 R] 49 (0, 0)) :: Rc s) (by simp only [List.map_toArray, List.map_cons, List.map_nil]; refine congrArg List.toArray (congr (congrArg List.cons (by exact rfl)) (congr (congrArg List.cons (by exact rfl)) (congr (congrArg List.cons (by exact rfl)) rfl)))) (by exact rfl) (fun w' hw' => ?_) ?_
        · have hm := hw'.rot3
          refine (add_rets (A := none) (c := 0) (l := []) ((n : Int) - 1) xs.length ((xs.length : Int) % 2 == 1) (by simp) hm).mono ?_
          rintro _ w2 ⟨_, rfl, A', c', h⟩
          have e2 : ((xs.length : Int) % 2 == 1) = (xs.length % 2 == 1) := by
            rw [Bool.eq_iff_iff]; simp; omega
          rw [e2, show (n : Int) - 1 = ((n - 1 : Nat) : Int) by omega, List.nil_append, ← hr0] at h
          exact ⟨_, rfl, _, ⟨A', c', rfl⟩, h⟩
        rintro _ _ ⟨A', c', rfl⟩
        (repeat (first | ((with_reducible refine is_AL ?_); (with_reducible refine At_nil ?_)) | ((with_reducible refine is_At ?_); (with_reducible refine At_then_n ?_))))
        refine At.sub ?_ (hK' (A', c') _ trivial ?_)
        · (repeat (first | exact List.Sublist.refl _ | exact List.Sublist.slnil | refine List.Sublist.cons_cons _ ?_ | refine List.Sublist.cons _ ?_))
        · (repeat (first | exact True.intro | (refine And.intro ?_ ?_; focus (show _ = (_ : Value); first | exact rfl | (refine Eq.trans (b := Value.int IntKind.i64 _) rfl (congrArg (Value.int IntKind.i64) ?_); omega)))))
      · have he : ¬ n % 2 = 0 := by omega
        have hr0 : rnd0 n xs.length = [] := by unfold rnd0; rw [if_neg he]
        (repeat ((with_reducible refine is_At ?_); (first | with_reducible refine At_skip ?_ | with_reducible refine At_then_n ?_)))
        rw [hr0] at hK'
        refine fun w' hw' => hK' (none, 0) _ trivial ?_ w' hw'.rot3
        (repeat (first | exact True.intro | (refine And.intro ?_ ?_; focus (show _ = (_ : Value); first | exact rfl | (refine Eq.trans (b := Value.int IntKind.i64 _) rfl (congrArg (Value.int IntKind.i64) ?_); omega)))))
    · rintro ⟨A1, c1⟩ ρ2 -
      try dsimp only
      (repeat (first | ((with_reducible refine is_AL ?_); (first | ((with_reducible refine is_assign ?_); (refine At_plain hF (by (exact (rfl : _ = some (Value.int _ _)))) ?_)) | with_reducible refine At_nil ?_)) | ((with_reducible refine is_At ?_); (first | with_reducible refine At_seq ?_; intro K hK | with_reducible refine At_block ?_ | with_reducible refine At_region ?_ | with_reducible refine At_then_n ?_ | with_reducible refine At_go (by assumption) ?_))))
      refine At_loop (fun st : Nat × Option Nat × Nat => [(0, .func (.yield lp) #[] #[]), (1, ip bc), (3, ip br), (4, ip bl), (5, .func (.func 37) #[] #[ip bl, ip br]), (6, .int .i64 (st.1 + 1 : Nat)), (8, .int .i64 R), (9, .int .i64 xs.length)]) (fun st => .obj bl (.cells #[rowV st.2.1 (rnd0 n xs.length ++ rndK R xs.length st.1).length st.2.2] 26 (0, 0)) :: .obj br (.cells #[.int .i64 xs.length] 3 (0, 0)) :: .row 37 3 enc37 st.2.1 st.2.2 (rnd0 n xs.length ++ rndK R xs.length st.1) :: .obj bc (.cells #[.int .i64 n, .int .i64 R] 49 (0, 0)) :: Rc s) (fun st => st.1 ≤ (R - 1) / 2) (fun st => R - st.1) (0, A1, c1) ?_ ?_ (Nat.zero_le _) ?_
      · simp only [rndK, List.append_nil]
        (repeat (first | exact List.Sublist.refl _ | exact List.Sublist.slnil | refine List.Sublist.cons_cons _ ?_ | refine List.Sublist.cons _ ?_))
      · (repeat (first | exact True.intro | (refine And.intro ?_ ?_; focus (show _ = (_ : Value); first | exact rfl | (refine Eq.trans (b := Value.int IntKind.i64 _) rfl (congrArg (Value.int IntKind.i64) ?_); omega)))))
      rintro ⟨k, A2, c2⟩ hk K2 hL2 ρ3
      simp only at hk
      try dsimp only
      (repeat (first | ((with_reducible refine is_AL ?_); (first | ((with_reducible refine is_move ?_); (refine At_plain hF (by (exact (rfl : _ = some (Value.int _ _)))) ?_)) | ((with_reducible refine is_bin ?_); (first | ((with_reducible refine is_bmul ?_); (refine At_mul hF rfl rfl (by omega) ?_)) | refine At_plain hF (by (exact (rfl : _ = some (Value.bool _)))) ?_)) | ((with_reducible refine is_field ?_); (refine At_field hF rfl ?_)) | ((with_reducible refine is_load ?_); (refine At_load hF 3 (by exact rfl) rfl (by (exact (rfl : _ = some (Value.int _ _)))) ?_)) | with_reducible refine At_nil ?_)) | ((with_reducible refine is_At ?_); (first | with_reducible refine At_seq ?_; intro K hK | with_reducible refine At_region ?_ | with_reducible refine At_then_n ?_ | with_reducible refine At_go (by assumption) ?_))))
      ((with_reducible refine is_cond ?_); (refine At_cond rfl ?_ ?_ <;> (intro hg; try (simp only [decide_eq_true_eq, decide_eq_false_iff_not, beq_iff_eq, bne_iff_ne, beq_eq_false_iff_ne, bne_eq_false_iff_eq, ne_eq, Bool.not_eq_true', Bool.not_eq_false', Bool.not_true, Bool.not_false, Decidable.not_not] at hg); try (exfalso; first | omega | exact hg True.intro))))
      · (repeat ((with_reducible refine is_At ?_); (first | with_reducible refine At_seq ?_; intro K hK | with_reducible refine At_block ?_ | with_reducible refine At_skip ?_ | with_reducible refine At_then_n ?_ | with_reducible refine At_go (by assumption) ?_)))
        refine At_draw hF 19 (by kernel_rfl) (by decide +kernel) ?_; simp only [List.take_succ_cons, List.take_zero, List.drop_succ_cons, List.drop_zero]; (repeat ((with_reducible refine is_AQc ?_); refine AQ_cons (by intro K Q hK; (repeat (first | ((with_reducible refine is_move ?_); (refine At_plain hF (by (first | exact (rfl : _ = some (Value.int _ _)) | exact (rfl : _ = some (Value.func _ _ _)))) ?_)) | ((with_reducible refine is_bin ?_); (first | ((with_reducible refine is_badd ?_); (refine At_add hF rfl rfl (by omega) ?_)) | ((with_reducible refine is_bsub ?_); (refine At_sub hF rfl rfl (by omega) ?_)) | ((with_reducible refine is_brem ?_); (refine At_rem hF rfl rfl (by omega) ?_)) | refine At_plain hF (by (exact (rfl : _ = some (Value.bool _)))) ?_)) | ((with_reducible refine is_field ?_); (refine At_field hF rfl ?_)) | ((with_reducible refine is_load ?_); (first | refine At_load hF 1 (by exact rfl) rfl (by (exact (rfl : _ = some (Value.int _ _)))) ?_ | refine At_load hF 3 (by exact rfl) rfl (by (exact (rfl : _ = some (Value.int _ _)))) ?_)))); exact At_nilK hK) ?_))
        (repeat ((with_reducible refine is_AQc ?_); refine AQ_cons (by intro K Q hK; skip; exact At_nilK hK) ?_)); refine AQ_done ?_
        refine At_callvG hF E37 ha rfl (vs := #[.int .i64 (((xs.length : Int) + ((k + 1 : Nat) : Int)) % (R : Int)), .int .i64 (((xs.length : Int) - ((k + 1 : Nat) : Int) + (R : Int)) % (R : Int)), .bool (((k + 1 : Nat) : Int) % 2 == 1)]) (Post := fun _ Rs => ∃ A' c', Rs = .obj bl (.cells #[rowV A' (rnd0 n xs.length ++ rndK R xs.length (k + 1)).length c'] 26 (0, 0)) :: .obj br (.cells #[.int .i64 xs.length] 3 (0, 0)) :: .row 37 3 enc37 A' c' (rnd0 n xs.length ++ rndK R xs.length (k + 1)) :: .obj bc (.cells #[.int .i64 n, .int .i64 R] 49 (0, 0)) :: Rc s) (by simp only [List.map_toArray, List.map_cons, List.map_nil]; refine congrArg List.toArray (congr (congrArg List.cons (by exact rfl)) (congr (congrArg List.cons (by exact rfl)) (congr (congrArg List.cons (by exact rfl)) rfl)))) (by exact rfl) (fun w' hw' => ?_) ?_
        · have hl9 : (rnd0 n xs.length ++ rndK R xs.length k).length ≤ 1000000 := by
            have := rnd0_len n xs.length
            simp only [List.length_append, rndK_len]; omega
          refine (add_rets (((xs.length : Int) + ((k + 1 : Nat) : Int)) % (R : Int)) (((xs.length : Int) - ((k + 1 : Nat) : Int) + (R : Int)) % (R : Int)) (((k + 1 : Nat) : Int) % 2 == 1) hl9 hw').mono ?_
          rintro _ w2 ⟨_, rfl, A', c', h⟩
          have e1 : ((xs.length : Int) + ((k + 1 : Nat) : Int)) % (R : Int) = (((xs.length + (k + 1)) % R : Nat) : Int) := by rw [← Int.natCast_add, ← Int.natCast_emod]
          have e2 : ((xs.length : Int) - ((k + 1 : Nat) : Int) + (R : Int)) % (R : Int) = (((xs.length + R - (k + 1)) % R : Nat) : Int) := by
            rw [show (xs.length : Int) - ((k + 1 : Nat) : Int) + (R : Int) = ((xs.length + R - (k + 1) : Nat) : Int) by omega, ← Int.natCast_emod]
          have e3 : (((k + 1 : Nat) : Int) % 2 == 1) = ((k + 1) % 2 == 1) := by rw [Bool.eq_iff_iff]; simp; omega
          rw [e1, e2, e3, List.append_assoc] at h
          exact ⟨_, rfl, _, ⟨A', c', rfl⟩, h⟩
        rintro _ _ ⟨A', c', rfl⟩
        (repeat (first | ((with_reducible refine is_AL ?_); (first | ((with_reducible refine is_move ?_); (refine At_plain hF (by (exact (rfl : _ = some (Value.int _ _)))) ?_)) | ((with_reducible refine is_bin ?_); ((with_reducible refine is_badd ?_); (refine At_add hF rfl rfl (by omega) ?_))) | ((with_reducible refine is_assign ?_); (refine At_plain hF (by (exact (rfl : _ = some (Value.int _ _)))) ?_)) | with_reducible refine At_nil ?_)) | ((with_reducible refine is_At ?_); (first | with_reducible refine At_region ?_ | with_reducible refine At_then_n ?_ | with_reducible refine At_inb_n ?_ | with_reducible refine At_go (by assumption) ?_))))
        refine At.sub ?_ (hL2 (k + 1, A', c') _ (by simp only; omega) (by simp only; omega) ?_)
        · (repeat (first | exact List.Sublist.refl _ | exact List.Sublist.slnil | refine List.Sublist.cons_cons _ ?_ | refine List.Sublist.cons _ ?_))
        · (repeat (first | exact True.intro | (refine And.intro ?_ ?_; focus (show _ = (_ : Value); first | exact rfl | (refine Eq.trans (b := Value.int IntKind.i64 _) rfl (congrArg (Value.int IntKind.i64) ?_); omega)))))
      obtain rfl : k = (R - 1) / 2 := by omega
      (repeat ((with_reducible refine is_At ?_); (first | with_reducible refine At_seq ?_; intro K hK | with_reducible refine At_exit ?_ | with_reducible refine At_then_n ?_ | with_reducible refine At_then_e ?_ | with_reducible refine At_inb_e rfl ?_ | with_reducible refine At_go (by assumption) ?_)))
      refine At_drawE hF 4 [0, 1, 2] [2] [3] (.obj bl (.cells #[rowV A2 (rnd0 n xs.length ++ rndK R xs.length ((R - 1) / 2)).length c2] 26 (0, 0)) :: .obj br (.cells #[.int .i64 xs.length] 3 (0, 0)) :: .row 37 3 enc37 A2 c2 (rnd0 n xs.length ++ rndK R xs.length ((R - 1) / 2)) :: .obj bc (.cells #[.int .i64 n, .int .i64 R] 49 (0, 0)) :: Rc s) (by kernel_rfl) (by decide +kernel) (by decide +kernel) ?_; simp only [List.drop_succ_cons, List.drop_zero]; (repeat ((with_reducible refine is_AQF ?_); first | refine AQF_early (by decide) (by exact (rfl : _ = some (Oper.mk _ _ _ _ _ _))) (by intro K Q hK; (repeat (first | ((with_reducible refine is_move ?_); (refine At_plain hF (by (exact (rfl : _ = some (Value.func _ _ _)))) ?_)) | ((with_reducible refine is_load ?_); (first | refine At_load hF 0 (by exact rfl) rfl (by (exact (rfl : _ = some (Value.slice _ _ _)))) ?_ | refine At_load hF 1 (by exact rfl) rfl (by (exact (rfl : _ = some (Value.int _ _)))) ?_)))); exact At_nilK hK) ?_ | refine AQF_late (by decide) (by exact (rfl : _ = some (Oper.mk _ _ _ _ _ _))) (by intro E K Q hK; simp only [List.cons_append, List.nil_append] at hK ⊢; (repeat (first | ((with_reducible refine is_move ?_); (refine At_plain hF (by (exact (rfl : _ = some (Value.func _ _ _)))) ?_)) | ((with_reducible refine is_load ?_); (first | refine At_load hF 0 (by exact rfl) rfl (by (exact (rfl : _ = some (Value.slice _ _ _)))) ?_ | refine At_load hF 1 (by exact rfl) rfl (by (exact (rfl : _ = some (Value.int _ _)))) ?_)))); exact At_nilK hK) ?_))
      (repeat ((with_reducible refine is_AQF ?_); first | refine AQF_early (by decide) (by exact (rfl : _ = some (Oper.mk _ _ _ _ _ _))) (by intro K Q hK; skip; exact At_nilK hK) ?_ | refine AQF_late (by decide) (by exact (rfl : _ = some (Oper.mk _ _ _ _ _ _))) (by intro E K Q hK; simp only [List.cons_append, List.nil_append] at hK ⊢; skip; exact At_nilK hK) ?_))
      refine AQF_done ?_
      (refine WAt_cons ?_ (by exact (rfl : _ = some (Oper.mk _ _ _ _ _ _))) ?_; (focus (repeat (first | exact List.Sublist.refl _ | exact List.Sublist.slnil | refine List.Sublist.cons_cons _ ?_ | refine List.Sublist.cons _ ?_))); intro K Q hK)
      have hl8 : (rnd0 n xs.length ++ rndK R xs.length ((R - 1) / 2)).length ≤ 1000000 := by
        have := rnd0_len n xs.length
        simp only [List.length_append, rndK_len]; omega
      refine At_callM hF E26 ha (Post := fun u Rs => ∃ A' c' l', u = rowV A' (rndL n R xs.length).length c' ∧ (l'.Perm (rndL n R xs.length) ∧ SrtL l') ∧ Rs = [.row 37 3 enc37 A' c' l']) (arg2 (by (first | exact (rfl : _ = (Value.int _ _)) | exact (rfl : _ = (Value.bool _)) | exact (rfl : _ = (Value.pointer _)) | exact (rfl : _ = (Value.slice _ _ _)) | exact (rfl : _ = (Value.map _)) | exact (rfl : _ = (Value.func _ _ _)) | exact (rfl : _ = (Value.tuple _)) | exact (rfl : _ = (Value.agg _)) | exact (rfl : _ = (Value.string _)) | exact (rfl : _ = (Value.nilFunc)) | exact (rfl : _ = (Value.nilIface)))) (by (first | exact (rfl : _ = (Value.int _ _)) | exact (rfl : _ = (Value.bool _)) | exact (rfl : _ = (Value.pointer _)) | exact (rfl : _ = (Value.slice _ _ _)) | exact (rfl : _ = (Value.map _)) | exact (rfl : _ = (Value.func _ _ _)) | exact (rfl : _ = (Value.tuple _)) | exact (rfl : _ = (Value.agg _)) | exact (rfl : _ = (Value.string _)) | exact (rfl : _ = (Value.nilFunc)) | exact (rfl : _ = (Value.nilIface))))) (fun w' hw' => ?_) ?_
      · have hc := C_own37 (e := 37) (A := A2) (c := c2) (l := rnd0 n xs.length ++ rndK R xs.length ((R - 1) / 2)) hw' (by simp)
        refine (sorted_rets w' _ c2 _ hc hl8).mono ?_
        rintro _ w2 ⟨_, rfl, A', c', l', rfl, h1, h⟩
        exact ⟨_, rfl, _, ⟨A', c', l', rfl, h1, rfl⟩, h⟩
      rintro _ _ ⟨A', c', l', rfl, hl', rfl⟩
      have hll : (rndL n R xs.length).length = l'.length := hl'.1.length_eq.symm
      rw [hll]
      refine At_nilK (hK _ _ ?_)
      (refine WAt_nil ?_ ?_; (focus (repeat (first | exact List.Sublist.refl _ | exact List.Sublist.slnil | refine List.Sublist.cons_cons _ ?_ | refine List.Sublist.cons _ ?_))))
      refine At_yieldG hF ha hy (.row 37 3 enc37 A' c' l' :: .obj bl (.cells #[rowV A2 (rnd0 n xs.length ++ rndK R xs.length ((R - 1) / 2)).length c2] 26 (0, 0)) :: .obj br (.cells #[.int .i64 xs.length] 3 (0, 0)) :: .row 37 3 enc37 A2 c2 (rnd0 n xs.length ++ rndK R xs.length ((R - 1) / 2)) :: [.obj bc (.cells #[.int .i64 n, .int .i64 R] 49 (0, 0))]) (xs := xs) (s := s) (xs.length, (A', c'), l') ⟨_, rfl⟩ hφ (okR_snoc hok hltR ⟨rfl, hl'⟩) rfl (by exact rfl) (arg2 (by (first | exact (rfl : _ = (Value.int _ _)) | exact (rfl : _ = (Value.bool _)) | exact (rfl : _ = (Value.pointer _)) | exact (rfl : _ = (Value.slice _ _ _)) | exact (rfl : _ = (Value.map _)) | exact (rfl : _ = (Value.func _ _ _)) | exact (rfl : _ = (Value.tuple _)) | exact (rfl : _ = (Value.agg _)) | exact (rfl : _ = (Value.string _)) | exact (rfl : _ = (Value.nilFunc)) | exact (rfl : _ = (Value.nilIface)))) (by (first | exact (rfl : _ = (Value.int _ _)) | exact (rfl : _ = (Value.bool _)) | exact (rfl : _ = (Value.pointer _)) | exact (rfl : _ = (Value.slice _ _ _)) | exact (rfl : _ = (Value.map _)) | exact (rfl : _ = (Value.func _ _ _)) | exact (rfl : _ = (Value.tuple _)) | exact (rfl : _ = (Value.agg _)) | exact (rfl : _ = (Value.string _)) | exact (rfl : _ = (Value.nilFunc)) | exact (rfl : _ = (Value.nilIface))))) ?_ ?_
      · intro s' hs'
        simp only [List.cons_append, List.nil_append]
        (repeat (first | ((with_reducible refine is_AL ?_); (first | ((with_reducible refine is_move ?_); (refine At_plain hF (by (exact (rfl : _ = some (Value.int _ _)))) ?_)) | ((with_reducible refine is_bin ?_); ((with_reducible refine is_badd ?_); (refine At_add hF rfl rfl (by omega) ?_))) | ((with_reducible refine is_un ?_); (refine At_plain hF (by (exact (rfl : _ = some (Value.bool _)))) ?_)) | with_reducible refine At_nil ?_)) | ((with_reducible refine is_At ?_); (first | with_reducible refine At_region ?_ | with_reducible refine At_skip ?_ | with_reducible refine At_then_n ?_ | with_reducible refine At_inb_n ?_ | with_reducible refine At_go (by assumption) ?_ | ((with_reducible refine is_cond ?_); (refine At_cond_f rfl ?_))))))
        refine At.sub ?_ (hL (xs ++ [(xs.length, (A', c'), l')], s') _ ⟨okR_snoc hok hltR ⟨rfl, hl'⟩, hs'⟩ (by simp only [List.length_append, List.length_cons, List.length_nil]; omega) ?_)
        · (repeat (first | exact List.Sublist.refl _ | exact List.Sublist.slnil | refine List.Sublist.cons_cons _ ?_ | refine List.Sublist.cons _ ?_))
        · simp only [List.length_append, List.length_cons, List.length_nil]
          (repeat (first | exact True.intro | (refine And.intro ?_ ?_; focus (show _ = (_ : Value); first | exact rfl | (refine Eq.trans (b := Value.int IntKind.i64 _) rfl (congrArg (Value.int IntKind.i64) ?_); omega)))))
      · intro s' hs'
        simp only [List.cons_append, List.nil_append]
        (repeat (first | ((with_reducible refine is_AL ?_); (first | ((with_reducible refine is_un ?_); (refine At_plain hF (by (exact (rfl : _ = some (Value.bool _)))) ?_)) | with_reducible refine At_nil ?_)) | ((with_reducible refine is_At ?_); (first | with_reducible refine At_ret ?_ | with_reducible refine At_then_n ?_ | with_reducible refine At_then_r ?_ | with_reducible refine At_inb_r ?_ | with_reducible refine At_go (by assumption) ?_ | ((with_reducible refine is_cond ?_); (refine At_cond_t rfl ?_))))))
        exact At_fin0 rfl (fun w' hw' => ⟨_, s', rfl, hw'.sub (by (repeat (first | exact List.Sublist.refl _ | exact List.Sublist.slnil | refine List.Sublist.cons_cons _ ?_ | refine List.Sublist.cons _ ?_))), .inr hs'⟩)
  obtain hl : xs.length = R := by have := hok.1; omega
  (repeat ((with_reducible refine is_At ?_); (first | with_reducible refine At_exit ?_ | with_reducible refine At_then_e ?_ | with_reducible refine At_inb_e rfl ?_)))
  exact At_fin0n rfl (fun w' hw' => ⟨_, s, rfl, hw', .inl ⟨xs, ⟨hok, hl⟩, hφ⟩⟩)
end Go.Proofs.Ythddaojdlfifeaa.P
