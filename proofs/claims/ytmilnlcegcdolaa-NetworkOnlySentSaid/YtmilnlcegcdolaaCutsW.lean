/- cuts and Cut: the program's. -/
import Derived.Test.YtmilnlcegcdolaaRdlvW
import Derived.Test.YtmilnlcegcdolaaXRangeX
namespace Go.Proofs.Ytmilnlcegcdolaa.P
open Go.RowKit Go.Proofs.YtmilnlcegcdolaaW.PrintWords
open XW RegInv
attribute [local irreducible] Addr.add
set_option linter.unusedSimpArgs false
set_option linter.unusedVariables false

abbrev ip (b : Nat) : Value := .pointer (some ⟨b, 0, none⟩)
def argsL (x : Int × Int) : Array Value := #[.agg #[.int .i64 x.1, .int .i64 x.2]]
/-- the links ahead of one -/
def rowF (x : Nat) : List (Int × Int) := (List.range' (x + 1) (23 - x)).map fun y : Nat => ((x : Int), (y : Int))
def flatL (x y : Nat) : List (Int × Int) := (List.range x).flatMap rowF ++ (List.range' (x + 1) (y - (x + 1))).map fun y : Nat => ((x : Int), (y : Int))
theorem range'_snoc (a k : Nat) : List.range' a (k + 1) = List.range' a k ++ [a + k] := by
  have := List.range'_concat (s := a) (n := k) (step := 1)
  simpa using this
theorem flat_y (x y : Nat) (h : x < y) : flatL x (y + 1) = flatL x y ++ [((x : Int), (y : Int))] := by
  unfold flatL
  rw [show y + 1 - (x + 1) = (y - (x + 1)) + 1 by omega, range'_snoc, List.map_append, ← List.append_assoc, show x + 1 + (y - (x + 1)) = y by omega]; rfl
theorem flat_x (x : Nat) (h : x < 24) : flatL (x + 1) (x + 1 + 1) = flatL x 24 := by
  unfold flatL
  rw [show x + 1 + 1 - (x + 1 + 1) = 0 by omega, List.range_succ, List.flatMap_append, show 24 - (x + 1) = 23 - x by omega]
  simp [rowF]
theorem flat_pre : ∀ x < 24, ∀ y ≤ 24, flatL x y <+: allL := by decide +kernel
theorem flat_all : flatL 24 25 = allL := by decide +kernel
theorem allL_len : allL.length = 276 := by decide +kernel
theorem cutsL_len (a : List (Int × Int)) (l : Int × Int) (on : Bool) : (cutsL a l on).length ≤ 276 := by
  rw [← allL_len]; exact List.length_filter_le _ _
theorem E46 : Enters Try.prog 46 := enters Try.func46 (by kernel_rfl) rfl
theorem E39 : Enters Try.prog 39 := enters Try.func39 (by kernel_rfl) rfl
theorem E20 : Enters Try.prog 20 := enters Try.func20 (by kernel_rfl) rfl
def ritK (B : Option Addr) (d : Nat) (a : List (Int × Int)) (l : Int × Int) (on : Bool) (b3 b4 b5 : Nat) : List Res := [.obj b5 (.cells #[.bool on] 4), .obj b4 (.cells #[.int .i64 l.1, .int .i64 l.2] 58), .obj b3 (.cells #[.slice B a.length d] 23)]
set_option maxHeartbeats 4000000 in
theorem cuts_rets (B : Option Addr) (d : Nat) (a : List (Int × Int)) (l : Int × Int) (on : Bool) (w : World) : Rets Try.prog 39 #[.slice B a.length d, lv l, .bool on] w fun u w' => ∃ Rs, (∃ b3 b4 b5, u = .func (.func 46) #[] #[ip b4, ip b5, ip b3] ∧ Rs = ritK B d a l on b3 b4 b5) ∧ Mem w w' Rs := by
  have hF := wide_wide
  refine rets_at (n := 8) Try.func39 rfl Try.ntmps39 (by simp) ?_
  unfold lv
  ((repeat (first | ((with_reducible refine is_AL ?_); (first | ((with_reducible refine is_assign ?_); (refine At_plain hF (by (first | exact (rfl : _ = some (Value.func _ _ _)) | exact (rfl : _ = some (Value.nilFunc)))) ?_)) | ((with_reducible refine is_func ?_); (refine At_func3 hF (by (exact (rfl : _ = (Value.pointer _)))) (by (exact (rfl : _ = (Value.pointer _)))) (by (exact (rfl : _ = (Value.pointer _)))) ?_)) | with_reducible refine At_nil ?_)) | ((with_reducible refine is_At ?_); (first | with_reducible refine At_seq ?_; intro K hK | with_reducible refine At_region ?_ | with_reducible refine At_ret ?_ | with_reducible refine At_then_n ?_ | with_reducible refine At_go (by assumption) ?_)))); ((with_reducible refine is_box ?_); (first | (refine At_boxA hF rfl ?_; intro b3) | (refine At_box1 hF (by (first | exact (rfl : _ = (Value.bool _)) | exact (rfl : _ = (Value.slice _ _ _)))) rfl ?_; intro b3))); (repeat (first | ((with_reducible refine is_AL ?_); (first | ((with_reducible refine is_assign ?_); (refine At_plain hF (by (first | exact (rfl : _ = some (Value.func _ _ _)) | exact (rfl : _ = some (Value.nilFunc)))) ?_)) | ((with_reducible refine is_func ?_); (refine At_func3 hF (by (exact (rfl : _ = (Value.pointer _)))) (by (exact (rfl : _ = (Value.pointer _)))) (by (exact (rfl : _ = (Value.pointer _)))) ?_)) | with_reducible refine At_nil ?_)) | ((with_reducible refine is_At ?_); (first | with_reducible refine At_seq ?_; intro K hK | with_reducible refine At_region ?_ | with_reducible refine At_ret ?_ | with_reducible refine At_then_n ?_ | with_reducible refine At_go (by assumption) ?_)))); ((with_reducible refine is_box ?_); (first | (refine At_boxA hF rfl ?_; intro b4) | (refine At_box1 hF (by (first | exact (rfl : _ = (Value.bool _)) | exact (rfl : _ = (Value.slice _ _ _)))) rfl ?_; intro b4))); (repeat (first | ((with_reducible refine is_AL ?_); (first | ((with_reducible refine is_assign ?_); (refine At_plain hF (by (first | exact (rfl : _ = some (Value.func _ _ _)) | exact (rfl : _ = some (Value.nilFunc)))) ?_)) | ((with_reducible refine is_func ?_); (refine At_func3 hF (by (exact (rfl : _ = (Value.pointer _)))) (by (exact (rfl : _ = (Value.pointer _)))) (by (exact (rfl : _ = (Value.pointer _)))) ?_)) | with_reducible refine At_nil ?_)) | ((with_reducible refine is_At ?_); (first | with_reducible refine At_seq ?_; intro K hK | with_reducible refine At_region ?_ | with_reducible refine At_ret ?_ | with_reducible refine At_then_n ?_ | with_reducible refine At_go (by assumption) ?_)))); ((with_reducible refine is_box ?_); (first | (refine At_boxA hF rfl ?_; intro b5) | (refine At_box1 hF (by (first | exact (rfl : _ = (Value.bool _)) | exact (rfl : _ = (Value.slice _ _ _)))) rfl ?_; intro b5))); (repeat (first | ((with_reducible refine is_AL ?_); (first | ((with_reducible refine is_assign ?_); (refine At_plain hF (by (first | exact (rfl : _ = some (Value.func _ _ _)) | exact (rfl : _ = some (Value.nilFunc)))) ?_)) | ((with_reducible refine is_func ?_); (refine At_func3 hF (by (exact (rfl : _ = (Value.pointer _)))) (by (exact (rfl : _ = (Value.pointer _)))) (by (exact (rfl : _ = (Value.pointer _)))) ?_)) | with_reducible refine At_nil ?_)) | ((with_reducible refine is_At ?_); (first | with_reducible refine At_seq ?_; intro K hK | with_reducible refine At_region ?_ | with_reducible refine At_ret ?_ | with_reducible refine At_then_n ?_ | with_reducible refine At_go (by assumption) ?_)))))
  exact At_ret1 rfl (rv_tmp (by decide)) (fun w' hw' => ⟨_, rfl, _, ⟨b3, b4, b5, by rfl, rfl⟩, hw'⟩)
set_option maxHeartbeats 8000000 in
theorem cuts_iter {F : Fence} (hF : Wide F) (ha : F.alive = false) (hro : F.round = none) (base : World) (B : Option Addr) (d : Nat) (a : List (Int × Int)) (l : Int × Int) (on : Bool) (b3 b4 b5 : Nat) (hal : Kd.C kL base B a.length a) :
    IterOk F Try.prog 46 #[ip b4, ip b5, ip b3] base (ritK B d a l on b3 b4 b5) argsL (fun xs => xs <+: cutsL a l on) (fun xs => xs = cutsL a l on) := by
  intro σ lp Rc φ ψ hy s0 h0 w hw
  have hct := fun x w' hb => contains_rets B d a x w' (Kd.C_below (w := base) hal hb)
  refine callsIn_at (n := 43) hF hro hw Try.func46 rfl Try.ntmps46 (by simp) ?_
  simp only [ritK, List.cons_append, List.nil_append]
  (repeat (first | ((with_reducible refine is_AL ?_); (first | ((with_reducible refine is_move ?_); (refine At_plain hF (by (exact (rfl : _ = some (Value.int _ _)))) ?_)) | with_reducible refine At_nil ?_)) | ((with_reducible refine is_At ?_); (first | with_reducible refine At_seq ?_; intro K hK | with_reducible refine At_block ?_ | with_reducible refine At_region ?_ | with_reducible refine At_then_n ?_ | with_reducible refine At_go (by assumption) ?_))))
  refine At_loop (fun st : Nat × σ => [(0, .func (.yield lp) #[] #[]), (1, ip b4), (2, ip b5), (3, ip b3), (8, .int .i64 st.1)])
    (fun st => .obj b5 (.cells #[.bool on] 4) :: .obj b4 (.cells #[.int .i64 l.1, .int .i64 l.2] 58) :: .obj b3 (.cells #[.slice B a.length d] 23) :: Rc st.2)
    (fun st => st.1 ≤ 24 ∧ φ ((flatL st.1 (st.1 + 1)).filter (keepL a l on)) st.2) (fun st => 24 - st.1) (0, s0) ?_ ?_ ⟨by simp, by simpa [flatL] using h0⟩ ?_
  · (repeat (first | exact List.Sublist.refl _ | exact List.Sublist.slnil | refine List.Sublist.cons_cons _ ?_ | refine List.Sublist.cons _ ?_))
  · (repeat (first | exact True.intro | (refine And.intro ?_ ?_; focus (show _ = (_ : Value); first | exact rfl | (refine Eq.trans (b := Value.int IntKind.i64 _) rfl (congrArg (Value.int IntKind.i64) ?_); omega)))))
  rintro ⟨x, s⟩ ⟨hx, hφ⟩ K hL ρ0
  simp only at hx hφ
  try dsimp only
  (repeat (first | ((with_reducible refine is_AL ?_); (first | ((with_reducible refine is_bin ?_); (refine At_plain hF (by (exact (rfl : _ = some (Value.bool _)))) ?_)) | with_reducible refine At_nil ?_)) | ((with_reducible refine is_At ?_); (first | with_reducible refine At_seq ?_; intro K hK | with_reducible refine At_region ?_ | with_reducible refine At_then_n ?_ | with_reducible refine At_go (by assumption) ?_))))
  ((with_reducible refine is_cond ?_); (refine At_cond rfl ?_ ?_ <;> (intro hg; try (simp only [decide_eq_true_eq, decide_eq_false_iff_not, beq_iff_eq, bne_iff_ne, beq_eq_false_iff_ne, bne_eq_false_iff_eq, ne_eq, Bool.not_eq_true', Bool.not_eq_false', Bool.not_true, Bool.not_false, Decidable.not_not] at hg); try (exfalso; first | omega | exact hg True.intro))))
  · have hx24 : x < 24 := by omega
    (repeat (first | ((with_reducible refine is_AL ?_); (first | ((with_reducible refine is_move ?_); (refine At_plain hF (by (exact (rfl : _ = some (Value.int _ _)))) ?_)) | ((with_reducible refine is_bin ?_); ((with_reducible refine is_badd ?_); (refine At_add hF rfl rfl (by omega) ?_))) | ((with_reducible refine is_assign ?_); (refine At_plain hF (by (exact (rfl : _ = some (Value.int _ _)))) ?_)) | with_reducible refine At_nil ?_)) | ((with_reducible refine is_At ?_); (first | with_reducible refine At_seq ?_; intro K hK | with_reducible refine At_block ?_ | with_reducible refine At_region ?_ | with_reducible refine At_skip ?_ | with_reducible refine At_then_n ?_ | with_reducible refine At_go (by assumption) ?_))))
    refine At_loop (fun st : Nat × σ => [(0, .func (.yield lp) #[] #[]), (1, ip b4), (2, ip b5), (3, ip b3), (8, .int .i64 x), (5, .int .i64 x), (6, .int .i64 st.1)])
      (fun st => .obj b5 (.cells #[.bool on] 4) :: .obj b4 (.cells #[.int .i64 l.1, .int .i64 l.2] 58) :: .obj b3 (.cells #[.slice B a.length d] 23) :: Rc st.2)
      (fun st => x < st.1 ∧ st.1 ≤ 24 ∧ φ ((flatL x st.1).filter (keepL a l on)) st.2) (fun st => 24 - st.1) (x + 1, s) ?_ ?_ ⟨Nat.lt_succ_self _, hx24, hφ⟩ ?_
    · (repeat (first | exact List.Sublist.refl _ | exact List.Sublist.slnil | refine List.Sublist.cons_cons _ ?_ | refine List.Sublist.cons _ ?_))
    · (repeat (first | exact True.intro | (refine And.intro ?_ ?_; focus (show _ = (_ : Value); first | exact rfl | (refine Eq.trans (b := Value.int IntKind.i64 _) rfl (congrArg (Value.int IntKind.i64) ?_); omega)))))
    rintro ⟨y, s⟩ ⟨hxy, hy24, hφ⟩ K2 hL2 ρ1
    simp only at hxy hy24 hφ
    try dsimp only
    (repeat (first | ((with_reducible refine is_AL ?_); (first | ((with_reducible refine is_move ?_); (refine At_plain hF (by (exact (rfl : _ = some (Value.int _ _)))) ?_)) | ((with_reducible refine is_bin ?_); (refine At_plain hF (by (exact (rfl : _ = some (Value.bool _)))) ?_)) | with_reducible refine At_nil ?_)) | ((with_reducible refine is_At ?_); (first | with_reducible refine At_seq ?_; intro K hK | with_reducible refine At_region ?_ | with_reducible refine At_then_n ?_ | with_reducible refine At_go (by assumption) ?_))))
    ((with_reducible refine is_cond ?_); (refine At_cond rfl ?_ ?_ <;> (intro hg; try (simp only [decide_eq_true_eq, decide_eq_false_iff_not, beq_iff_eq, bne_iff_ne, beq_eq_false_iff_ne, bne_eq_false_iff_eq, ne_eq, Bool.not_eq_true', Bool.not_eq_false', Bool.not_true, Bool.not_false, Decidable.not_not] at hg); try (exfalso; first | omega | exact hg True.intro))))
    · have hy' : y < 24 := by omega
      have hfy := flat_y x y hxy
      have hfp : ∀ b, keepL a l on ((x : Int), (y : Int)) = b → (flatL x (y + 1)).filter (keepL a l on) = (flatL x y).filter (keepL a l on) ++ (if b then [((x : Int), (y : Int))] else []) := fun b hb => by
        rw [hfy, List.filter_append]; congr 1
        cases b <;> simp [hb]
      have hkl : keepL a l on ((x : Int), (y : Int)) = if ((x : Int), (y : Int)) = l then on else decide (((x : Int), (y : Int)) ∈ a) := rfl
      have hpre : (flatL x (y + 1)).filter (keepL a l on) <+: cutsL a l on := (flat_pre x hx24 (y + 1) (by omega)).filter _
      ((repeat (first | ((with_reducible refine is_AL ?_); (first | ((with_reducible refine is_move ?_); (refine At_plain hF (by (exact (rfl : _ = some (Value.int _ _)))) ?_)) | ((with_reducible refine is_load ?_); (first | refine At_loadB hF 0 rfl rfl rfl ?_ | refine At_loadB hF 2 rfl rfl rfl ?_)) | ((with_reducible refine is_build ?_); (refine At_buildPair hF (by decide) rfl rfl rfl ?_)) | ((with_reducible refine is_store ?_); (refine At_storeB_0 hF rfl rfl rfl rfl (by simp [Value.one1, epair]) ?_)) | with_reducible refine At_nil ?_)) | ((with_reducible refine is_At ?_); (first | with_reducible refine At_seq ?_; intro K hK | with_reducible refine At_block ?_ | with_reducible refine At_region ?_ | with_reducible refine At_skip ?_ | with_reducible refine At_then_n ?_ | with_reducible refine At_go (by assumption) ?_)))); ((with_reducible refine is_alloc ?_); (refine At_alloc hF (by (exact (rfl : _ = List.toArray (_ :: _)))) ?_; intro b7)); (repeat (first | ((with_reducible refine is_AL ?_); (first | ((with_reducible refine is_move ?_); (refine At_plain hF (by (exact (rfl : _ = some (Value.int _ _)))) ?_)) | ((with_reducible refine is_load ?_); (first | refine At_loadB hF 0 rfl rfl rfl ?_ | refine At_loadB hF 2 rfl rfl rfl ?_)) | ((with_reducible refine is_build ?_); (refine At_buildPair hF (by decide) rfl rfl rfl ?_)) | ((with_reducible refine is_store ?_); (refine At_storeB_0 hF rfl rfl rfl rfl (by simp [Value.one1, epair]) ?_)) | with_reducible refine At_nil ?_)) | ((with_reducible refine is_At ?_); (first | with_reducible refine At_seq ?_; intro K hK | with_reducible refine At_block ?_ | with_reducible refine At_region ?_ | with_reducible refine At_skip ?_ | with_reducible refine At_then_n ?_ | with_reducible refine At_go (by assumption) ?_)))))
      refine At_eqL hF Try.underlying58 eg58 ((x : Int), (y : Int)) l (by exact rfl) (by exact rfl) ?_
      by_cases he : ((x : Int), (y : Int)) = l
      · rw [if_pos he] at hkl
        rw [decide_eq_true he]
        cases on with
        | true =>
          (repeat ((with_reducible refine is_AL ?_); (first | ((with_reducible refine is_guarded ?_); (refine At_guard_t rfl (by decide) rfl ?_)) | ((with_reducible refine is_move ?_); (refine At_plain hF (by (exact (rfl : _ = some (Value.bool _)))) ?_)) | ((with_reducible refine is_pick ?_); (refine At_plain hF (by (exact (rfl : _ = some (Value.bool _)))) ?_)) | ((with_reducible refine is_un ?_); (refine At_plain hF (by (exact (rfl : _ = some (Value.bool _)))) ?_)) | ((with_reducible refine is_load ?_); (first | refine At_load hF 1 (by exact rfl) rfl (by (exact (rfl : _ = some (Value.bool _)))) ?_ | refine At_loadB hF 0 rfl rfl rfl ?_ | refine At_loadB hF 2 rfl rfl rfl ?_)))))
          refine At_neL hF Try.underlying58 eg58 ((x : Int), (y : Int)) l (by exact rfl) (by exact rfl) ?_
          rw [decide_eq_true he]
          (repeat (first | ((with_reducible refine is_AL ?_); (first | ((with_reducible refine is_guarded ?_); (first | refine At_guard_t rfl (by decide) rfl ?_ | refine At_guard_f hF rfl (by decide) rfl rfl ?_)) | ((with_reducible refine is_move ?_); (refine At_plain hF (by (first | exact (rfl : _ = some (Value.bool _)) | exact (rfl : _ = some (Value.func _ _ _)))) ?_)) | ((with_reducible refine is_pick ?_); (refine At_plain hF (by (exact (rfl : _ = some (Value.bool _)))) ?_)) | ((with_reducible refine is_load ?_); (refine At_loadB hF 0 rfl rfl rfl ?_)) | with_reducible refine At_nil ?_)) | ((with_reducible refine is_At ?_); (first | with_reducible refine At_seq ?_; intro K hK | with_reducible refine At_region ?_ | with_reducible refine At_skip ?_ | with_reducible refine At_then_n ?_ | with_reducible refine At_go (by assumption) ?_ | ((with_reducible refine is_cond ?_); (refine At_cond_f rfl ?_))))))
          have hnx := hfp _ hkl
          rw [if_pos rfl] at hnx
          rw [hnx] at hpre
          refine At_yield hF ha hy [.obj b7 (.cells #[.int .i64 x, .int .i64 y] 58), .obj b5 (.cells #[.bool true] 4), .obj b4 (.cells #[.int .i64 l.1, .int .i64 l.2] 58), .obj b3 (.cells #[.slice B a.length d] 23)] ((x : Int), (y : Int)) hφ hpre rfl rfl (arg1 (by (first | exact (rfl : _ = (Value.int _ _)) | exact (rfl : _ = (Value.bool _)) | exact (rfl : _ = (Value.pointer _)) | exact (rfl : _ = (Value.slice _ _ _)) | exact (rfl : _ = (Value.map _)) | exact (rfl : _ = (Value.func _ _ _)) | exact (rfl : _ = (Value.tuple _)) | exact (rfl : _ = (Value.agg _)) | exact (rfl : _ = (Value.string _)) | exact (rfl : _ = (Value.nilFunc)) | exact (rfl : _ = (Value.nilIface))))) ?_ ?_
          · intro s' hs'
            rw [← hnx] at hs'
            simp only [List.cons_append, List.nil_append]
            (repeat (first | ((with_reducible refine is_AL ?_); (first | ((with_reducible refine is_move ?_); (refine At_plain hF (by (exact (rfl : _ = some (Value.int _ _)))) ?_)) | ((with_reducible refine is_bin ?_); ((with_reducible refine is_badd ?_); (refine At_add hF rfl rfl (by omega) ?_))) | ((with_reducible refine is_assign ?_); (refine At_plain hF (by (exact (rfl : _ = some (Value.int _ _)))) ?_)) | ((with_reducible refine is_un ?_); (refine At_plain hF (by (exact (rfl : _ = some (Value.bool _)))) ?_)) | with_reducible refine At_nil ?_)) | ((with_reducible refine is_At ?_); (first | with_reducible refine At_region ?_ | with_reducible refine At_skip ?_ | with_reducible refine At_then_n ?_ | with_reducible refine At_inb_n ?_ | with_reducible refine At_go (by assumption) ?_ | ((with_reducible refine is_cond ?_); (refine At_cond_f rfl ?_))))))
            refine At.sub ?_ (hL2 (y + 1, s') _ ⟨by omega, by omega, hs'⟩ (by simp only; omega) ?_)
            · (repeat (first | exact List.Sublist.refl _ | exact List.Sublist.slnil | refine List.Sublist.cons_cons _ ?_ | refine List.Sublist.cons _ ?_))
            · (repeat (first | exact True.intro | (refine And.intro ?_ ?_; focus (show _ = (_ : Value); first | exact rfl | (refine Eq.trans (b := Value.int IntKind.i64 _) rfl (congrArg (Value.int IntKind.i64) ?_); omega)))))
          · intro s' hs'
            simp only [List.cons_append, List.nil_append]
            (repeat (first | ((with_reducible refine is_AL ?_); (first | ((with_reducible refine is_un ?_); (refine At_plain hF (by (exact (rfl : _ = some (Value.bool _)))) ?_)) | with_reducible refine At_nil ?_)) | ((with_reducible refine is_At ?_); (first | with_reducible refine At_ret ?_ | with_reducible refine At_then_n ?_ | with_reducible refine At_then_r ?_ | with_reducible refine At_inb_r ?_ | with_reducible refine At_go (by assumption) ?_ | ((with_reducible refine is_cond ?_); (refine At_cond_t rfl ?_))))))
            refine At_fin0n rfl ?_
            exact At.sub (List.sublist_cons_self _ _) (fun w' hw' => ⟨_, s', rfl, hw', .inr hs'⟩)
        | false =>
          (repeat (first | ((with_reducible refine is_AL ?_); (first | ((with_reducible refine is_guarded ?_); (first | refine At_guard_t rfl (by decide) rfl ?_ | refine At_guard_f hF rfl (by decide) rfl rfl ?_ | refine At_guard_u hF rfl (by decide) rfl ?_)) | ((with_reducible refine is_move ?_); (refine At_plain hF (by (first | exact (rfl : _ = some (Value.int _ _)) | exact (rfl : _ = some (Value.bool _)))) ?_)) | ((with_reducible refine is_bin ?_); ((with_reducible refine is_badd ?_); (refine At_add hF rfl rfl (by omega) ?_))) | ((with_reducible refine is_assign ?_); (refine At_plain hF (by (exact (rfl : _ = some (Value.int _ _)))) ?_)) | ((with_reducible refine is_pick ?_); (refine At_plain hF (by (exact (rfl : _ = some (Value.bool _)))) ?_)) | ((with_reducible refine is_un ?_); (refine At_plain hF (by (exact (rfl : _ = some (Value.bool _)))) ?_)) | ((with_reducible refine is_load ?_); (refine At_load hF 1 (by exact rfl) rfl (by (exact (rfl : _ = some (Value.bool _)))) ?_)) | with_reducible refine At_nil ?_)) | ((with_reducible refine is_At ?_); (first | with_reducible refine At_region ?_ | with_reducible refine At_exit ?_ | with_reducible refine At_then_n ?_ | with_reducible refine At_then_e ?_ | with_reducible refine At_inb_e rfl ?_ | with_reducible refine At_go (by assumption) ?_ | ((with_reducible refine is_cond ?_); (refine At_cond_t rfl ?_))))))
          refine At.sub ?_ (hL2 (y + 1, s) _ ⟨by omega, by omega, by rw [hfp _ hkl, if_neg (by simp), List.append_nil]; exact hφ⟩ (by simp only; omega) ?_)
          · (repeat (first | exact List.Sublist.refl _ | exact List.Sublist.slnil | refine List.Sublist.cons_cons _ ?_ | refine List.Sublist.cons _ ?_))
          · (repeat (first | exact True.intro | (refine And.intro ?_ ?_; focus (show _ = (_ : Value); first | exact rfl | (refine Eq.trans (b := Value.int IntKind.i64 _) rfl (congrArg (Value.int IntKind.i64) ?_); omega)))))
      · rw [if_neg he] at hkl
        rw [decide_eq_false he]
        (repeat ((with_reducible refine is_AL ?_); (first | ((with_reducible refine is_guarded ?_); (first | refine At_guard_t rfl (by decide) rfl ?_ | refine At_guard_f hF rfl (by decide) rfl rfl ?_)) | ((with_reducible refine is_move ?_); (refine At_plain hF (by (exact (rfl : _ = some (Value.bool _)))) ?_)) | ((with_reducible refine is_pick ?_); (refine At_plain hF (by (exact (rfl : _ = some (Value.bool _)))) ?_)) | ((with_reducible refine is_load ?_); (first | refine At_loadB hF 0 rfl rfl rfl ?_ | refine At_loadB hF 2 rfl rfl rfl ?_)))))
        refine At_neL hF Try.underlying58 eg58 ((x : Int), (y : Int)) l (by exact rfl) (by exact rfl) ?_
        rw [decide_eq_false he]
        (repeat ((with_reducible refine is_AL ?_); (first | ((with_reducible refine is_guarded ?_); (refine At_guard_t rfl (by decide) rfl ?_)) | ((with_reducible refine is_move ?_); (refine At_plain hF (by (exact (rfl : _ = some (Value.bool _)))) ?_)) | ((with_reducible refine is_load ?_); (first | refine At_load hF 3 (by exact rfl) rfl (by (exact (rfl : _ = some (Value.slice _ _ _)))) ?_ | refine At_loadB hF 0 rfl rfl rfl ?_)))))
        refine At_callB hF E36 ha (arg2 (by (first | exact (rfl : _ = (Value.int _ _)) | exact (rfl : _ = (Value.bool _)) | exact (rfl : _ = (Value.pointer _)) | exact (rfl : _ = (Value.slice _ _ _)) | exact (rfl : _ = (Value.map _)) | exact (rfl : _ = (Value.func _ _ _)) | exact (rfl : _ = (Value.tuple _)) | exact (rfl : _ = (Value.agg _)) | exact (rfl : _ = (Value.string _)) | exact (rfl : _ = (Value.nilFunc)) | exact (rfl : _ = (Value.nilIface)))) (by (first | exact (rfl : _ = (Value.int _ _)) | exact (rfl : _ = (Value.bool _)) | exact (rfl : _ = (Value.pointer _)) | exact (rfl : _ = (Value.slice _ _ _)) | exact (rfl : _ = (Value.map _)) | exact (rfl : _ = (Value.func _ _ _)) | exact (rfl : _ = (Value.tuple _)) | exact (rfl : _ = (Value.agg _)) | exact (rfl : _ = (Value.string _)) | exact (rfl : _ = (Value.nilFunc)) | exact (rfl : _ = (Value.nilIface))))) (fun w' hw' => hct ((x : Int), (y : Int)) w' hw'.below) ?_
        by_cases hm : ((x : Int), (y : Int)) ∈ a
        · rw [decide_eq_true hm] at hkl ⊢
          (repeat (first | ((with_reducible refine is_AL ?_); (first | ((with_reducible refine is_guarded ?_); (refine At_guard_t rfl (by decide) rfl ?_)) | ((with_reducible refine is_move ?_); (refine At_plain hF (by (exact (rfl : _ = some (Value.func _ _ _)))) ?_)) | ((with_reducible refine is_pick ?_); (refine At_plain hF (by (exact (rfl : _ = some (Value.bool _)))) ?_)) | ((with_reducible refine is_un ?_); (refine At_plain hF (by (exact (rfl : _ = some (Value.bool _)))) ?_)) | ((with_reducible refine is_load ?_); (refine At_loadB hF 0 rfl rfl rfl ?_)) | with_reducible refine At_nil ?_)) | ((with_reducible refine is_At ?_); (first | with_reducible refine At_seq ?_; intro K hK | with_reducible refine At_region ?_ | with_reducible refine At_skip ?_ | with_reducible refine At_then_n ?_ | with_reducible refine At_go (by assumption) ?_ | ((with_reducible refine is_cond ?_); (refine At_cond_f rfl ?_))))))
          have hnx := hfp _ hkl
          rw [if_pos rfl] at hnx
          rw [hnx] at hpre
          refine At_yield hF ha hy [.obj b7 (.cells #[.int .i64 x, .int .i64 y] 58), .obj b5 (.cells #[.bool on] 4), .obj b4 (.cells #[.int .i64 l.1, .int .i64 l.2] 58), .obj b3 (.cells #[.slice B a.length d] 23)] ((x : Int), (y : Int)) hφ hpre rfl rfl (arg1 (by (first | exact (rfl : _ = (Value.int _ _)) | exact (rfl : _ = (Value.bool _)) | exact (rfl : _ = (Value.pointer _)) | exact (rfl : _ = (Value.slice _ _ _)) | exact (rfl : _ = (Value.map _)) | exact (rfl : _ = (Value.func _ _ _)) | exact (rfl : _ = (Value.tuple _)) | exact (rfl : _ = (Value.agg _)) | exact (rfl : _ = (Value.string _)) | exact (rfl : _ = (Value.nilFunc)) | exact (rfl : _ = (Value.nilIface))))) ?_ ?_
          · intro s' hs'
            rw [← hnx] at hs'
            simp only [List.cons_append, List.nil_append]
            (repeat (first | ((with_reducible refine is_AL ?_); (first | ((with_reducible refine is_move ?_); (refine At_plain hF (by (exact (rfl : _ = some (Value.int _ _)))) ?_)) | ((with_reducible refine is_bin ?_); ((with_reducible refine is_badd ?_); (refine At_add hF rfl rfl (by omega) ?_))) | ((with_reducible refine is_assign ?_); (refine At_plain hF (by (exact (rfl : _ = some (Value.int _ _)))) ?_)) | ((with_reducible refine is_un ?_); (refine At_plain hF (by (exact (rfl : _ = some (Value.bool _)))) ?_)) | with_reducible refine At_nil ?_)) | ((with_reducible refine is_At ?_); (first | with_reducible refine At_region ?_ | with_reducible refine At_skip ?_ | with_reducible refine At_then_n ?_ | with_reducible refine At_inb_n ?_ | with_reducible refine At_go (by assumption) ?_ | ((with_reducible refine is_cond ?_); (refine At_cond_f rfl ?_))))))
            refine At.sub ?_ (hL2 (y + 1, s') _ ⟨by omega, by omega, hs'⟩ (by simp only; omega) ?_)
            · (repeat (first | exact List.Sublist.refl _ | exact List.Sublist.slnil | refine List.Sublist.cons_cons _ ?_ | refine List.Sublist.cons _ ?_))
            · (repeat (first | exact True.intro | (refine And.intro ?_ ?_; focus (show _ = (_ : Value); first | exact rfl | (refine Eq.trans (b := Value.int IntKind.i64 _) rfl (congrArg (Value.int IntKind.i64) ?_); omega)))))
          · intro s' hs'
            simp only [List.cons_append, List.nil_append]
            (repeat (first | ((with_reducible refine is_AL ?_); (first | ((with_reducible refine is_un ?_); (refine At_plain hF (by (exact (rfl : _ = some (Value.bool _)))) ?_)) | with_reducible refine At_nil ?_)) | ((with_reducible refine is_At ?_); (first | with_reducible refine At_ret ?_ | with_reducible refine At_then_n ?_ | with_reducible refine At_then_r ?_ | with_reducible refine At_inb_r ?_ | with_reducible refine At_go (by assumption) ?_ | ((with_reducible refine is_cond ?_); (refine At_cond_t rfl ?_))))))
            refine At_fin0n rfl ?_
            exact At.sub (List.sublist_cons_self _ _) (fun w' hw' => ⟨_, s', rfl, hw', .inr hs'⟩)
        · rw [decide_eq_false hm] at hkl ⊢
          (repeat (first | ((with_reducible refine is_AL ?_); (first | ((with_reducible refine is_guarded ?_); (refine At_guard_t rfl (by decide) rfl ?_)) | ((with_reducible refine is_move ?_); (refine At_plain hF (by (exact (rfl : _ = some (Value.int _ _)))) ?_)) | ((with_reducible refine is_bin ?_); ((with_reducible refine is_badd ?_); (refine At_add hF rfl rfl (by omega) ?_))) | ((with_reducible refine is_assign ?_); (refine At_plain hF (by (exact (rfl : _ = some (Value.int _ _)))) ?_)) | ((with_reducible refine is_pick ?_); (refine At_plain hF (by (exact (rfl : _ = some (Value.bool _)))) ?_)) | ((with_reducible refine is_un ?_); (refine At_plain hF (by (exact (rfl : _ = some (Value.bool _)))) ?_)) | with_reducible refine At_nil ?_)) | ((with_reducible refine is_At ?_); (first | with_reducible refine At_region ?_ | with_reducible refine At_exit ?_ | with_reducible refine At_then_n ?_ | with_reducible refine At_then_e ?_ | with_reducible refine At_inb_e rfl ?_ | with_reducible refine At_go (by assumption) ?_ | ((with_reducible refine is_cond ?_); (refine At_cond_t rfl ?_))))))
          refine At.sub ?_ (hL2 (y + 1, s) _ ⟨by omega, by omega, by rw [hfp _ hkl, if_neg (by simp), List.append_nil]; exact hφ⟩ (by simp only; omega) ?_)
          · (repeat (first | exact List.Sublist.refl _ | exact List.Sublist.slnil | refine List.Sublist.cons_cons _ ?_ | refine List.Sublist.cons _ ?_))
          · (repeat (first | exact True.intro | (refine And.intro ?_ ?_; focus (show _ = (_ : Value); first | exact rfl | (refine Eq.trans (b := Value.int IntKind.i64 _) rfl (congrArg (Value.int IntKind.i64) ?_); omega)))))
    · obtain rfl : y = 24 := by omega
      (repeat (first | ((with_reducible refine is_AL ?_); (first | ((with_reducible refine is_move ?_); (refine At_plain hF (by (exact (rfl : _ = some (Value.int _ _)))) ?_)) | ((with_reducible refine is_bin ?_); ((with_reducible refine is_badd ?_); (refine At_add hF rfl rfl (by omega) ?_))) | with_reducible refine At_nil ?_)) | ((with_reducible refine is_At ?_); (first | with_reducible refine At_region ?_ | with_reducible refine At_exit ?_ | with_reducible refine At_then_n ?_ | with_reducible refine At_then_e ?_ | with_reducible refine At_inb_n ?_ | with_reducible refine At_inb_e rfl ?_ | with_reducible refine At_go (by assumption) ?_))))
      refine At.sub ?_ (hL (x + 1, s) _ ⟨by omega, by rw [flat_x x hx24]; exact hφ⟩ (by simp only; omega) ?_)
      · (repeat (first | exact List.Sublist.refl _ | exact List.Sublist.slnil | refine List.Sublist.cons_cons _ ?_ | refine List.Sublist.cons _ ?_))
      · (repeat (first | exact True.intro | (refine And.intro ?_ ?_; focus (show _ = (_ : Value); first | exact rfl | (refine Eq.trans (b := Value.int IntKind.i64 _) rfl (congrArg (Value.int IntKind.i64) ?_); omega)))))
  · obtain rfl : x = 24 := by omega
    rw [flat_all] at hφ
    (repeat ((with_reducible refine is_At ?_); (first | with_reducible refine At_exit ?_ | with_reducible refine At_then_e ?_ | with_reducible refine At_inb_e rfl ?_)))
    refine At_fin0n rfl ?_
    exact (fun w' hw' => ⟨_, s, rfl, hw', .inl ⟨_, rfl, hφ⟩⟩)
end Go.Proofs.Ytmilnlcegcdolaa.P
