import Derived.Test.YtecgklfcblpkdaaNums
import Derived.Test.YtecgklfcblpkdaaGSane
import Derived.Test.YtecgklfcblpkdaaXStr
import Derived.Test.YtecgklfcblpkdaaXGuard
import Derived.Test.YtecgklfcblpkdaaXDrawF
/- Patterns that are cut in two: plain. -/
namespace Go.Proofs.Ytecgklfcblpkdaa.P
open Go.RowKit Go.Proofs.YtecgklfcblpkdaaW.PrintWords Go.Proofs.YtecgklfcblpkdaaW.PrintLast Go.Proofs.YtecgklfcblpkdaaW.PrintMore
open XW
set_option linter.unusedSimpArgs false
set_option linter.unusedVariables false

def takeP (k : Nat) (p : List (List Int)) : List (List Int) := p.map (·.take k)
def dropP (k : Nat) (p : List (List Int)) : List (List Int) := p.map (·.drop k)
theorem takeP_get (k : Nat) (p : List (List Int)) (i : Nat) : (takeP k p).getD i [] = (p.getD i []).take k := by
  rw [List.getD_eq_getElem?_getD, List.getD_eq_getElem?_getD, takeP, List.getElem?_map]
  cases p[i]? <;> simp
theorem dropP_get (k : Nat) (p : List (List Int)) (i : Nat) : (dropP k p).getD i [] = (p.getD i []).drop k := by
  rw [List.getD_eq_getElem?_getD, List.getD_eq_getElem?_getD, dropP, List.getElem?_map]
  cases p[i]? <;> simp
theorem takeP_len (k : Nat) (p : List (List Int)) : (takeP k p).length = p.length := List.length_map ..
theorem dropP_len (k : Nat) (p : List (List Int)) : (dropP k p).length = p.length := List.length_map ..
theorem takeP_ok {k : Nat} {p : List (List Int)} (h : patOk p) : patOk (takeP k p) := by
  refine ⟨by rw [takeP_len]; exact h.1, fun l hl => ?_⟩
  obtain ⟨l, hl', rfl⟩ := List.mem_map.1 hl
  obtain ⟨a, b, c⟩ := h.2 l hl'
  refine ⟨by rw [takeP_get, List.length_take, List.length_take, a], by rw [List.length_take]; omega, fun x hx => c x (List.mem_of_mem_take hx)⟩
theorem dropP_ok {k : Nat} {p : List (List Int)} (h : patOk p) : patOk (dropP k p) := by
  refine ⟨by rw [dropP_len]; exact h.1, fun l hl => ?_⟩
  obtain ⟨l, hl', rfl⟩ := List.mem_map.1 hl
  obtain ⟨a, b, c⟩ := h.2 l hl'
  refine ⟨by rw [dropP_get, List.length_drop, List.length_drop, a], by rw [List.length_drop]; omega, fun x hx => c x (List.mem_of_mem_drop hx)⟩
theorem cntB_take (l : List Int) (k : Nat) : ∀ j, j ≤ k → cntB (l.take k) j = cntB l j
  | 0, _ => rfl
  | j + 1, h => by
    rw [cntB, cntB, cntB_take l k j (by omega)]
    have e : ∀ i, i < k → (l.take k).getD i 0 = l.getD i 0 := fun i hi => by
      rw [List.getD_eq_getElem?_getD, List.getD_eq_getElem?_getD, List.getElem?_take, if_pos hi]
    rw [e j (by omega), e (j - 1) (by omega)]
def moreB (l : List Int) (k : Nat) : Int := if 0 < k ∧ k < l.length ∧ l.getD k 0 ≠ 0 ∧ l.getD (k - 1) 0 = l.getD k 0 then 1 else 0
theorem cntB_drop (l : List Int) (k : Nat) (hk : k < l.length) : ∀ j, cntB l (k + 1 + j) = cntB l k + moreB l k + cntB (l.drop k) (j + 1)
  | 0 => by
    have e1 : cntB (l.drop k) (0 + 1) = 0 := by rw [cntB, if_neg (by omega)]; rfl
    rw [e1]
    show cntB l (k + 1) = _
    rw [cntB, moreB]
    by_cases h : 0 < k ∧ l.getD k 0 ≠ 0 ∧ l.getD k 0 = l.getD (k - 1) 0
    · rw [if_pos h, if_pos ⟨h.1, hk, h.2.1, h.2.2.symm⟩]; omega
    · rw [if_neg h, if_neg (fun h' => h ⟨h'.1, h'.2.2.1, h'.2.2.2.symm⟩)]; omega
  | j + 1 => by
    have e : ∀ i, (l.drop k).getD i 0 = l.getD (k + i) 0 := fun i => by
      rw [List.getD_eq_getElem?_getD, List.getD_eq_getElem?_getD, List.getElem?_drop]
    rw [← Nat.add_assoc, cntB, cntB_drop l k hk j, cntB.eq_2 (l.drop k) (j + 1), e, e]
    rw [show k + 1 + j - 1 = k + j by omega, show k + (j + 1) = k + 1 + j by omega, show k + (j + 1 - 1) = k + j by omega]
    rw [Int.add_assoc]
    congr 2
    by_cases h : l.getD (k + 1 + j) 0 ≠ 0 ∧ l.getD (k + 1 + j) 0 = l.getD (k + j) 0
    · rw [if_pos ⟨by omega, h⟩, if_pos ⟨by omega, h⟩]
    · rw [if_neg (fun h' => h h'.2), if_neg (fun h' => h h'.2)]
theorem brk_cut (l : List Int) (k : Nat) (hk : k ≤ l.length) : brk l = brk (l.take k) + brk (l.drop k) + moreB l k := by
  unfold brk
  rw [List.length_take, Nat.min_eq_left hk, cntB_take l k k (Nat.le_refl _), List.length_drop]
  rcases Nat.lt_or_ge k l.length with h | h
  · have := cntB_drop l k h (l.length - k - 1)
    rw [show k + 1 + (l.length - k - 1) = l.length by omega, show l.length - k - 1 + 1 = l.length - k by omega] at this
    omega
  · have e : k = l.length := by omega
    subst e
    rw [Nat.sub_self, moreB, if_neg (by omega)]
    show cntB l l.length = cntB l l.length + 0 + 0
    omega
theorem brk_bd (l : List Int) : 0 ≤ brk l ∧ brk l ≤ l.length := cntB_bd l l.length
theorem brF_get {p : List (List Int)} (i : Nat) (h : i < p.length) : (p.map brk).getD i 0 = brk (p.getD i []) := by
  rw [List.getD_eq_getElem?_getD, List.getD_eq_getElem?_getD, List.getElem?_map, List.getElem?_eq_getElem h]; rfl
end Go.Proofs.Ytecgklfcblpkdaa.P

/- PatternsCut: the law's walk. -/
namespace Go.Proofs.Ytecgklfcblpkdaa.P
open Go.RowKit Go.Proofs.YtecgklfcblpkdaaW.PrintWords Go.Proofs.YtecgklfcblpkdaaW.PrintLast Go.Proofs.YtecgklfcblpkdaaW.PrintMore
open XW RegInv
attribute [local irreducible] Addr.add
set_option linter.unusedSimpArgs false
set_option linter.unusedVariables false

theorem E10c : Enters Try.prog 10 := enters Try.func10 (by kernel_rfl) rfl
theorem E11c : Enters Try.prog 11 := enters Try.func11 (by kernel_rfl) rfl
theorem E14c : Enters Try.prog 14 := enters Try.func14 (by kernel_rfl) rfl
theorem few_retsc {A : Option Addr} {c : Nat} {p : List (List Int)} {b : Bool} {k : Nat} (h : fastiref21_Few.f k [] p = some b) (w : World) (hr : Kd.C KL w A p.length p) (hc : p.length ≤ c) : Rets Try.prog 11 #[.slice none 0 0, .slice A p.length c] w fun u w' => u = .bool b ∧ Below w.heap.size w w' :=
  (fastiref21_Few.calls k none 0 [] A c p b w (C44_nil w) (Nat.le_refl _) hr hc h).mono (by rintro e w'' ⟨rfl, hb⟩; exact ⟨_, rfl, rfl, hb.below⟩)
theorem br_rets {w : World} {A : Option Addr} {c : Nat} {p : List (List Int)} (hC : Kd.C KL w A p.length p) (hc : p.length ≤ c) :
    Rets Try.prog 14 #[.slice A p.length c] w fun u w' => (∃ A' c', u = .tuple #[.slice A' (brF p).1.length c', .int .i64 (brF p).2] ∧ (brF p).1.length ≤ c' ∧ Kd.C KI w' A' (brF p).1.length (brF p).1) ∧ Below w.heap.size w w' := by
  obtain ⟨K, hK⟩ := br_ev p hC.2.1
  exact br_lit hC hc _ _ K (hK K (Nat.le_refl _))
/-- a slice by where it lies, its length, its room -/
def hdv (x : Option Addr × Nat × Nat) : Value := .slice x.1 x.2.1 x.2.2
/-- the rows of a matrix, told at once -/
theorem heads {w : World} {A : Option Addr} {n : Nat} {p : List (List Int)} (h : Kd.C KL w A n p) : ∃ g : Nat → Option Addr × Nat, ∀ i, i < n → ∃ ad, A = some ad ∧ w.cell? (ad.add i) = some (.slice (g i).1 (p.getD i []).length (g i).2) ∧ (p.getD i []).length ≤ (g i).2 ∧ Kd.C KI w (g i).1 (p.getD i []).length (p.getD i []) := by
  have : ∀ i : Nat, ∃ x : Option Addr × Nat, i < n → ∃ ad, A = some ad ∧ w.cell? (ad.add i) = some (.slice x.1 (p.getD i []).length x.2) ∧ (p.getD i []).length ≤ x.2 ∧ Kd.C KI w x.1 (p.getD i []).length (p.getD i []) := fun i => by
    by_cases hi : i < n
    · obtain ⟨ad, A0, c0, h1, h2, h3, h4⟩ := CL h i hi
      exact ⟨(A0, c0), fun _ => ⟨ad, h1, h2, h3, h4⟩⟩
    · exact ⟨(none, 0), fun h => absurd h hi⟩
  exact Classical.axiomOfChoice this
theorem KL_row {base w : World} {R : List Res} {e : TypeId} {A : Option Nat} {c : Nat} {hs : List (Option Addr × Nat × Nat)} (q : List (List Int)) (hw : Mem base w R) (hm : Res.row e 1 (sc hdv) A c hs ∈ R) (hl : hs.length = q.length) (hx : ∀ j, j < q.length → (hs.getD j default).2.1 = (q.getD j []).length ∧ (q.getD j []).length ≤ (hs.getD j default).2.2 ∧ Kd.C KI w (hs.getD j default).1 (q.getD j []).length (q.getD j [])) :
    Kd.C KL w (A.map fun b => ⟨b, 0, none⟩) q.length q := by
  have h0 : RowOk e 1 (sc hdv) A c hs w := hw.ok _ hm
  obtain ⟨_, h1, h2, h3⟩ := h0
  refine ⟨rfl, by have := h2; unfold maxLen at this; omega, fun hp => ?_⟩
  cases A with
  | none => have := h3.1; subst this; simp at hl; omega
  | some b =>
    obtain ⟨junk, hb, _⟩ := h3
    refine ⟨_, rfl, fun j y hj => ?_⟩
    have hlt : j < q.length := (List.getElem?_eq_some_iff.1 hj).1
    have hy : q.getD j [] = y := by rw [List.getD_eq_getElem?_getD, hj]; rfl
    obtain ⟨e1, e2, e3⟩ := hx j hlt
    rw [hy] at e1 e2 e3
    refine ⟨[hdv (hs.getD j default)], rfl, ⟨_, _, by rw [hdv, e1], e2, e3⟩, fun i u hu => ?_⟩
    have hi0 : i = 0 := by have := (List.getElem?_eq_some_iff.1 hu).1; simpa using this
    subst hi0
    simp at hu
    subst hu
    have hcell := buf_get1 (junk := junk) hdv default (l := hs) (k := j) (by omega)
    rw [XW.add_plain]
    refine cell_of hb ?_
    rw [show 0 + (j * Kd.sz (Kd.slice 3 (Kd.int .i64)) + 0) = j by show 0 + (j * 1 + 0) = j; omega]
    exact hcell
theorem KI_cut {w : World} {A : Option Addr} {xs : List Int} (h : Kd.C KI w A xs.length xs) (l h' m : Nat) (hl : l ≤ h') (hh : h' ≤ xs.length) (hm : h' ≤ m) : Kd.C KI w (cutA A l m 1) (h' - l) ((xs.drop l).take (h' - l)) := by
  refine ⟨by rw [List.length_take, List.length_drop]; omega, by have := h.2.1; omega, fun hp => ?_⟩
  obtain ⟨ad, hA, hc⟩ := h.2.2 (by omega)
  refine ⟨ad.add l, ?_, fun j y hj => ?_⟩
  · unfold cutA; rw [if_neg (by omega), hA, Nat.mul_one]; rfl
  · have hlt := (List.getElem?_eq_some_iff.1 hj).1
    rw [List.length_take, List.length_drop] at hlt
    rw [cut_take _ _ _ _ (by omega)] at hj
    obtain ⟨c, h1, h2, h3⟩ := hc (l + j) y hj
    refine ⟨c, h1, h2, fun i u hu => ?_⟩
    have := h3 i u hu
    rw [addr_add_add]
    rwa [show (l + j) * Kd.sz (Kd.int .i64) + i = l + (j * Kd.sz (Kd.int .i64) + i) by show (l + j) * 1 + i = l + (j * 1 + i); omega] at this
theorem At.rebase {base : World} {R : List Res} {Φ : World → Prop} (h : ∀ w, Mem base w R → At w [] Φ) : At base R Φ := fun w hw => h w hw w (Mem.start w)
theorem range_snocM {β : Type} (f : Nat → β) (i : Nat) : (List.range (i + 1)).map f = (List.range i).map f ++ [f i] := by rw [List.range_succ, List.map_append]; rfl
theorem getD_rangeM {β : Type} (f : Nat → β) (n j : Nat) (d : β) (h : j < n) : ((List.range n).map f).getD j d = f j := by
  rw [List.getD_eq_getElem?_getD, List.getElem?_map, List.getElem?_range h]; rfl
set_option maxHeartbeats 16000000 in
theorem cut_law (A : Option Addr) (c : Nat) (p : List (List Int)) (a : Int) (w0 : World) (hr0 : Kd.C KL w0 A p.length p) (hc : p.length ≤ c) (ha : 0 ≤ a ∧ a ≤ 255) :
    Rets Try.prog 8 #[.slice A p.length c, .int .u8 a] w0 fun u w' => u = .bool true ∧ Below w0.heap.size w0 w' := by
  have hF := wide_wide
  have hmx := hr0.2.1
  obtain ⟨bf, Kf, hKf⟩ := few_ev [] p
  refine rets_at (n := 151) Try.func8 rfl Try.ntmps8 (by simp) ?_
  (repeat (first | ((with_reducible refine is_AL ?_); (first | ((with_reducible refine is_assign ?_); (refine At_plain hF (by (exact (rfl : _ = some (Value.bool _)))) ?_)) | with_reducible refine At_nil ?_)) | ((with_reducible refine is_At ?_); (first | with_reducible refine At_seq ?_; intro K hK | with_reducible refine At_region ?_ | with_reducible refine At_then_n ?_ | with_reducible refine At_go (by assumption) ?_))))
  refine At_callB hF E10c rfl (vs := #[]) (by simp) (fun w' hw' => sane_rets w') ?_
  (repeat (first | ((with_reducible refine is_AL ?_); (first | ((with_reducible refine is_move ?_); (refine At_plain hF (by (exact (rfl : _ = some (Value.slice _ _ _)))) ?_)) | ((with_reducible refine is_un ?_); (refine At_plain hF (by (exact (rfl : _ = some (Value.bool _)))) ?_)) | with_reducible refine At_nil ?_)) | ((with_reducible refine is_At ?_); (first | with_reducible refine At_seq ?_; intro K hK | with_reducible refine At_region ?_ | with_reducible refine At_skip ?_ | with_reducible refine At_then_n ?_ | with_reducible refine At_go (by assumption) ?_ | ((with_reducible refine is_cond ?_); (refine At_cond_f rfl ?_))))))
  refine At_callB hF E11c rfl (arg2 (by (first | exact (rfl : _ = (Value.int _ _)) | exact (rfl : _ = (Value.bool _)) | exact (rfl : _ = (Value.pointer _)) | exact (rfl : _ = (Value.slice _ _ _)) | exact (rfl : _ = (Value.map _)) | exact (rfl : _ = (Value.func _ _ _)) | exact (rfl : _ = (Value.tuple _)) | exact (rfl : _ = (Value.agg _)) | exact (rfl : _ = (Value.string _)) | exact (rfl : _ = (Value.nilFunc)) | exact (rfl : _ = (Value.nilIface)))) (by (first | exact (rfl : _ = (Value.int _ _)) | exact (rfl : _ = (Value.bool _)) | exact (rfl : _ = (Value.pointer _)) | exact (rfl : _ = (Value.slice _ _ _)) | exact (rfl : _ = (Value.map _)) | exact (rfl : _ = (Value.func _ _ _)) | exact (rfl : _ = (Value.tuple _)) | exact (rfl : _ = (Value.agg _)) | exact (rfl : _ = (Value.string _)) | exact (rfl : _ = (Value.nilFunc)) | exact (rfl : _ = (Value.nilIface))))) (fun w' hw' => few_retsc (hKf Kf (Nat.le_refl _)) w' (Kd.C_below hr0 hw'.below) hc) ?_
  cases bf with
  | false =>
    (repeat (first | ((with_reducible refine is_AL ?_); (first | ((with_reducible refine is_assign ?_); (refine At_plain hF (by (exact (rfl : _ = some (Value.bool _)))) ?_)) | ((with_reducible refine is_un ?_); (refine At_plain hF (by (exact (rfl : _ = some (Value.bool _)))) ?_)) | with_reducible refine At_nil ?_)) | ((with_reducible refine is_At ?_); (first | with_reducible refine At_seq ?_; intro K hK | with_reducible refine At_region ?_ | with_reducible refine At_ret ?_ | with_reducible refine At_then_n ?_ | with_reducible refine At_then_r ?_ | with_reducible refine At_go (by assumption) ?_ | ((with_reducible refine is_cond ?_); (refine At_cond_t rfl ?_))))))
    exact At_ret1 rfl (rv_tmp (by decide)) (fun w' hw' => ⟨_, rfl, rfl, hw'.below⟩)
  | true =>
  (repeat (first | ((with_reducible refine is_AL ?_); (first | ((with_reducible refine is_move ?_); (refine At_plain hF (by (exact (rfl : _ = some (Value.slice _ _ _)))) ?_)) | ((with_reducible refine is_un ?_); (refine At_plain hF (by (exact (rfl : _ = some (Value.bool _)))) ?_)) | with_reducible refine At_nil ?_)) | ((with_reducible refine is_At ?_); (first | with_reducible refine At_seq ?_; intro K hK | with_reducible refine At_region ?_ | with_reducible refine At_skip ?_ | with_reducible refine At_then_n ?_ | with_reducible refine At_go (by assumption) ?_ | ((with_reducible refine is_cond ?_); (refine At_cond_f rfl ?_))))))
  refine At_callK hF E14c rfl (arg1 (by (first | exact (rfl : _ = (Value.int _ _)) | exact (rfl : _ = (Value.bool _)) | exact (rfl : _ = (Value.pointer _)) | exact (rfl : _ = (Value.slice _ _ _)) | exact (rfl : _ = (Value.map _)) | exact (rfl : _ = (Value.func _ _ _)) | exact (rfl : _ = (Value.tuple _)) | exact (rfl : _ = (Value.agg _)) | exact (rfl : _ = (Value.string _)) | exact (rfl : _ = (Value.nilFunc)) | exact (rfl : _ = (Value.nilIface))))) (fun w hw => br_rets (Kd.C_below hr0 hw.below) hc) ?_
  rintro _ w hb1 ⟨A', c', rfl, hc', hCL⟩
  have hr := Kd.C_below hr0 hb1
  by_cases hok : patOk p
  rotate_left
  · have hv : brF p = ([], 210) := by rw [brF, if_neg hok]
    rw [hv]
    (repeat (first | ((with_reducible refine is_AL ?_); (first | ((with_reducible refine is_guarded ?_); (refine At_guard_f hF rfl (by decide) rfl rfl ?_)) | ((with_reducible refine is_move ?_); (refine At_plain hF (by (first | exact (rfl : _ = some (Value.int _ _)) | exact (rfl : _ = some (Value.bool _)) | exact (rfl : _ = some (Value.tuple _)))) ?_)) | ((with_reducible refine is_bin ?_); (refine At_plain hF (by (exact (rfl : _ = some (Value.bool _)))) ?_)) | ((with_reducible refine is_assign ?_); (refine At_plain hF (by (first | exact (rfl : _ = some (Value.int _ _)) | exact (rfl : _ = some (Value.bool _)) | exact (rfl : _ = some (Value.slice _ _ _)))) ?_)) | ((with_reducible refine is_pick ?_); (refine At_plain hF (by (exact (rfl : _ = some (Value.bool _)))) ?_)) | ((with_reducible refine is_extract ?_); (refine At_plain hF (by (first | exact (rfl : _ = some (Value.int _ _)) | exact (rfl : _ = some (Value.slice _ _ _)))) ?_)) | with_reducible refine At_nil ?_)) | ((with_reducible refine is_At ?_); (first | with_reducible refine At_seq ?_; intro K hK | with_reducible refine At_region ?_ | with_reducible refine At_ret ?_ | with_reducible refine At_then_n ?_ | with_reducible refine At_then_r ?_ | with_reducible refine At_go (by assumption) ?_ | ((with_reducible refine is_cond ?_); (refine At_cond_t rfl ?_))))))
    exact At_ret1 rfl (rv_tmp (by decide)) (fun w' hw' => ⟨_, rfl, rfl, hb1.trans (Below.mono hw'.below hb1.size)⟩)
  have hv : brF p = (p.map brk, 0) := by rw [brF, if_pos hok]
  rw [hv] at hc' hCL ⊢
  dsimp only at hc' hCL ⊢
  have hml : (p.map brk).length = p.length := List.length_map ..
  rw [hml] at hc' hCL ⊢
  have hp20 := hok.1
  by_cases hp0 : p.length = 0
  · rw [hp0]
    (repeat (first | ((with_reducible refine is_AL ?_); (first | ((with_reducible refine is_guarded ?_); (refine At_guard_t rfl (by decide) rfl ?_)) | ((with_reducible refine is_move ?_); (refine At_plain hF (by (first | exact (rfl : _ = some (Value.int _ _)) | exact (rfl : _ = some (Value.bool _)) | exact (rfl : _ = some (Value.slice _ _ _)) | exact (rfl : _ = some (Value.tuple _)))) ?_)) | ((with_reducible refine is_bin ?_); (refine At_plain hF (by (exact (rfl : _ = some (Value.bool _)))) ?_)) | ((with_reducible refine is_assign ?_); (refine At_plain hF (by (first | exact (rfl : _ = some (Value.int _ _)) | exact (rfl : _ = some (Value.bool _)) | exact (rfl : _ = some (Value.slice _ _ _)))) ?_)) | ((with_reducible refine is_pick ?_); (refine At_plain hF (by (exact (rfl : _ = some (Value.bool _)))) ?_)) | ((with_reducible refine is_extract ?_); (refine At_plain hF (by (first | exact (rfl : _ = some (Value.int _ _)) | exact (rfl : _ = some (Value.slice _ _ _)))) ?_)) | ((with_reducible refine is_call ?_); (refine At_len hF rfl ?_)) | with_reducible refine At_nil ?_)) | ((with_reducible refine is_At ?_); (first | with_reducible refine At_seq ?_; intro K hK | with_reducible refine At_region ?_ | with_reducible refine At_ret ?_ | with_reducible refine At_then_n ?_ | with_reducible refine At_then_r ?_ | with_reducible refine At_go (by assumption) ?_ | ((with_reducible refine is_cond ?_); (refine At_cond_t rfl ?_))))))
    exact At_ret1 rfl (rv_tmp (by decide)) (fun w' hw' => ⟨_, rfl, rfl, hb1.trans (Below.mono hw'.below hb1.size)⟩)
  have hwa : IntKind.i64.wrap a = a := wrap64_in (by omega) (by omega)
  obtain ⟨g, hg0⟩ := heads hr
  obtain ⟨ad0, hA0, hcell0, hg00, hrow0⟩ := hg0 0 (by omega)
  have hlen : ∀ i, i < p.length → (p.getD i []).length = (p.getD 0 []).length := fun i hi => (hok.2 _ (getD_mem' hi)).1
  have hW : (p.getD 0 []).length ≤ 64 := (hok.2 _ (getD_mem' (by omega))).2.1
  obtain ⟨W, hWe⟩ : ∃ W, W = (p.getD 0 []).length := ⟨_, rfl⟩
  rw [← hWe] at hW hlen hg00 hcell0
  (repeat' (first | ((with_reducible refine is_AL ?_); (first | ((with_reducible refine is_guarded ?_); (refine At_guard_t rfl (by decide) rfl ?_)) | ((with_reducible refine is_move ?_); (refine At_plain hF (by (first | exact (rfl : _ = some (Value.int _ _)) | exact (rfl : _ = some (Value.bool _)) | exact (rfl : _ = some (Value.slice _ _ _)) | exact (rfl : _ = some (Value.tuple _)))) ?_)) | ((with_reducible refine is_bin ?_); (refine At_plain hF (by (exact (rfl : _ = some (Value.bool _)))) ?_)) | ((with_reducible refine is_assign ?_); (refine At_plain hF (by (first | exact (rfl : _ = some (Value.int _ _)) | exact (rfl : _ = some (Value.slice _ _ _)))) ?_)) | ((with_reducible refine is_pick ?_); (refine At_plain hF (by (exact (rfl : _ = some (Value.bool _)))) ?_)) | ((with_reducible refine is_extract ?_); (refine At_plain hF (by (first | exact (rfl : _ = some (Value.int _ _)) | exact (rfl : _ = some (Value.slice _ _ _)))) ?_)) | ((with_reducible refine is_call ?_); (refine At_len hF rfl ?_)) | with_reducible refine At_nil ?_)) | ((with_reducible refine is_At ?_); (first | with_reducible refine At_seq ?_; intro K hK | with_reducible refine At_region ?_ | with_reducible refine At_skip ?_ | with_reducible refine At_then_n ?_ | with_reducible refine At_go (by assumption) ?_)) | ((with_reducible refine is_cond ?_); (refine At_cond rfl ?_ ?_ <;> (intro hg; try (simp only [decide_eq_true_eq, decide_eq_false_iff_not, beq_iff_eq, bne_iff_ne, beq_eq_false_iff_ne, bne_eq_false_iff_eq, ne_eq, Bool.not_eq_true', Bool.not_eq_false', Bool.not_true, Bool.not_false, Decidable.not_not] at hg); try (exfalso; first | omega | exact hg True.intro))))))
  refine At_conv hF Try.underlying5 Try.underlying3 (by exact rfl) ?_
  rw [hwa]
  (repeat ((with_reducible refine is_AL ?_); (first | ((with_reducible refine is_move ?_); (refine At_plain hF (by (exact (rfl : _ = some (Value.slice _ _ _)))) ?_)) | ((with_reducible refine is_index ?_); (refine At_indexC1i hF rfl (by assumption) rfl rfl (by omega) (by omega) ?_)))))
  refine At_loadC hF (by exact rfl) hcell0 ?_
  (repeat (first | ((with_reducible refine is_AL ?_); (first | ((with_reducible refine is_move ?_); (refine At_plain hF (by (first | exact (rfl : _ = some (Value.int _ _)) | exact (rfl : _ = some (Value.slice _ _ _)))) ?_)) | ((with_reducible refine is_bin ?_); (first | ((with_reducible refine is_badd ?_); (refine At_add hF rfl rfl (by omega) ?_)) | ((with_reducible refine is_brem ?_); (refine At_rem hF rfl rfl (by omega) ?_)))) | ((with_reducible refine is_assign ?_); (refine At_plain hF (by (first | exact (rfl : _ = some (Value.int _ _)) | exact (rfl : _ = some (Value.slice _ _ _)))) ?_)) | ((with_reducible refine is_call ?_); (refine At_len hF rfl ?_)) | with_reducible refine At_nil ?_)) | ((with_reducible refine is_At ?_); (first | with_reducible refine At_seq ?_; intro K hK | with_reducible refine At_block ?_ | with_reducible refine At_region ?_ | with_reducible refine At_then_n ?_ | with_reducible refine At_go (by assumption) ?_))))
  have hk0 : 0 ≤ a % ((W : Int) + 1) := Int.emod_nonneg _ (by omega)
  have hk1 : a % ((W : Int) + 1) < W + 1 := Int.emod_lt_of_pos _ (by omega)
  generalize a % ((W : Int) + 1) = I at *
  obtain ⟨k, rfl⟩ : ∃ k : Nat, I = k := ⟨I.toNat, by omega⟩
  refine At.newNil 29 1 (sc hdv) (fun _ => rfl) ?_
  refine At.newNil 29 1 (sc hdv) (fun _ => rfl) ?_
  refine At_loop (fun st : Nat × (Option Nat × Nat) × (Option Nat × Nat) => [(0, .slice A p.length c), (5, .slice A' p.length c'), (7, .int .i64 k), (8, rowV st.2.1.1 st.1 st.2.1.2), (9, rowV st.2.2.1 st.1 st.2.2.2), (44, .slice A p.length c), (45, .int .i64 p.length), (46, .int .i64 st.1)])
    (fun st => [.row 29 1 (sc hdv) st.2.1.1 st.2.1.2 ((List.range st.1).map fun j => (cutA (g j).1 0 (g j).2 1, k, (g j).2)), .row 29 1 (sc hdv) st.2.2.1 st.2.2.2 ((List.range st.1).map fun j => (cutA (g j).1 k (g j).2 1, W - k, (g j).2 - k))])
    (fun st => st.1 ≤ p.length) (fun st => p.length - st.1) (0, (none, 0), (none, 0)) ?_ ?_ (Nat.zero_le _) ?_
  · (repeat (first | exact List.Sublist.refl _ | exact List.Sublist.slnil | refine List.Sublist.cons_cons _ ?_ | refine List.Sublist.cons _ ?_))
  · (repeat (first | exact True.intro | (refine And.intro ?_ ?_; focus (show _ = (_ : Value); first | exact rfl | (refine Eq.trans (b := Value.int IntKind.i64 _) rfl (congrArg (Value.int IntKind.i64) ?_); omega)))))
  rintro ⟨i, ⟨a1, c1⟩, ⟨a2, c2⟩⟩ hi K hL ρ1
  simp only at hi
  try dsimp only
  (repeat (first | ((with_reducible refine is_AL ?_); (first | ((with_reducible refine is_bin ?_); (refine At_plain hF (by (exact (rfl : _ = some (Value.bool _)))) ?_)) | with_reducible refine At_nil ?_)) | ((with_reducible refine is_At ?_); (first | with_reducible refine At_seq ?_; intro K hK | with_reducible refine At_region ?_ | with_reducible refine At_then_n ?_ | with_reducible refine At_go (by assumption) ?_))))
  ((with_reducible refine is_cond ?_); (refine At_cond rfl ?_ ?_ <;> (intro hg; try (simp only [decide_eq_true_eq, decide_eq_false_iff_not, beq_iff_eq, bne_iff_ne, beq_eq_false_iff_ne, bne_eq_false_iff_eq, ne_eq, Bool.not_eq_true', Bool.not_eq_false', Bool.not_true, Bool.not_false, Decidable.not_not] at hg); try (exfalso; first | omega | exact hg True.intro))))
  · have hlt : i < p.length := by omega
    obtain ⟨adi, hAi, hcelli, hgi, hrowi⟩ := hg0 i hlt
    obtain rfl : ad0 = adi := by rw [hA0] at hAi; exact Option.some.inj hAi
    have hli := hlen i hlt
    rw [hli] at hcelli hgi hrowi
    (repeat (first | ((with_reducible refine is_AL ?_); ((with_reducible refine is_index ?_); (refine At_indexC1 hF rfl (by assumption) rfl rfl (by omega) ?_))) | ((with_reducible refine is_At ?_); (first | with_reducible refine At_seq ?_; intro K hK | with_reducible refine At_block ?_ | with_reducible refine At_region ?_ | with_reducible refine At_skip ?_ | with_reducible refine At_then_n ?_ | with_reducible refine At_go (by assumption) ?_))))
    refine At_loadC hF (by exact rfl) hcelli ?_
    (repeat (first | ((with_reducible refine is_AL ?_); (first | ((with_reducible refine is_assign ?_); (refine At_plain hF (by (exact (rfl : _ = some (Value.slice _ _ _)))) ?_)) | with_reducible refine At_nil ?_)) | ((with_reducible refine is_At ?_); (first | with_reducible refine At_then_n ?_ | with_reducible refine At_go (by assumption) ?_))))
    refine At_drawF hF 12 [0, 1, 2, 3, 6, 7, 8, 9] [] [4, 5, 10, 11] ([]) (by kernel_rfl) (by decide +kernel) (by decide +kernel) ?_; simp only [List.drop_succ_cons, List.drop_zero]; (repeat ((with_reducible refine is_AQF ?_); first | refine AQF_early (by decide) (by exact (rfl : _ = some (Oper.mk _ _ _ _ _ _))) (by intro K Q hK; (repeat ((with_reducible refine is_move ?_); (refine At_plain hF (by (first | exact (rfl : _ = some (Value.int _ _)) | exact (rfl : _ = some (Value.slice _ _ _)))) ?_))); exact At_nilK hK) ?_ | refine AQF_late (by decide) (by exact (rfl : _ = some (Oper.mk _ _ _ _ _ _))) (by intro E K Q hK; simp only [List.cons_append, List.nil_append] at hK ⊢; (repeat ((with_reducible refine is_move ?_); (refine At_plain hF (by (first | exact (rfl : _ = some (Value.int _ _)) | exact (rfl : _ = some (Value.slice _ _ _)))) ?_))); exact At_nilK hK) ?_))
    refine AQF_late (by decide) (by exact (rfl : _ = some (Oper.mk _ _ _ _ _ _))) (by intro E K Q hK; simp only [List.cons_append, List.nil_append] at hK ⊢; refine At_cut_h hF (by exact rfl) (by exact rfl) (by omega) ?_; exact At_nilK hK) ?_
    (repeat ((with_reducible refine is_AQF ?_); first | refine AQF_early (by decide) (by exact (rfl : _ = some (Oper.mk _ _ _ _ _ _))) (by intro K Q hK; (repeat ((with_reducible refine is_move ?_); (refine At_plain hF (by (first | exact (rfl : _ = some (Value.int _ _)) | exact (rfl : _ = some (Value.slice _ _ _)))) ?_))); exact At_nilK hK) ?_ | refine AQF_late (by decide) (by exact (rfl : _ = some (Oper.mk _ _ _ _ _ _))) (by intro E K Q hK; simp only [List.cons_append, List.nil_append] at hK ⊢; (repeat ((with_reducible refine is_move ?_); (refine At_plain hF (by (first | exact (rfl : _ = some (Value.int _ _)) | exact (rfl : _ = some (Value.slice _ _ _)))) ?_))); exact At_nilK hK) ?_))
    refine AQF_late (by decide) (by exact (rfl : _ = some (Oper.mk _ _ _ _ _ _))) (by intro E K Q hK; simp only [List.cons_append, List.nil_append] at hK ⊢; refine At_cut_l hF (by exact rfl) (by exact rfl) (by omega) ?_; exact At_nilK hK) ?_
    refine AQF_doneF ?_
    refine FAt_step (l := [4, 10]) (by (repeat (first | exact List.Sublist.refl _ | exact List.Sublist.slnil | refine List.Sublist.cons_cons _ ?_ | refine List.Sublist.cons _ ?_))) (by decide +kernel) ?_
    refine AT_all ?_ ?_
    · refine FAt_op (by exact (rfl : _ = some (Oper.mk _ _ _ _ _ _))) ?_
      intro K Q' hK
      (refine At_slice1_1 hF (by decide) (v0 := hdv (cutA (g i).1 0 (g i).2 1, k, (g i).2)) (by exact rfl) rfl ?_; intro b4)
      refine At_nilK (hK _ _ ?_)
      refine FAt_step (l := [5, 10]) (by (repeat (first | exact List.Sublist.refl _ | exact List.Sublist.slnil | refine List.Sublist.cons_cons _ ?_ | refine List.Sublist.cons _ ?_))) (by decide +kernel) ?_
      refine AT_all ?_ ?_
      · refine FAt_op (by exact (rfl : _ = some (Oper.mk _ _ _ _ _ _))) ?_
        intro K Q' hK
        (first | refine At_append_1 hF 0 rfl rfl (by simp) rfl (x0 := (cutA (g i).1 0 (g i).2 1, k, (g i).2)) rfl (by decide) (by simp [Value.one1, hdv]) (by simp only [TS.bytes, List.length_map, List.length_range]; omega) (by simp only [List.length_map, List.length_range]; omega) ?_ | refine At_append_2 hF 0 rfl rfl (by simp) rfl (x0 := (cutA (g i).1 0 (g i).2 1, k, (g i).2)) rfl (by decide) (by simp [Value.one1, hdv]) (by simp only [TS.bytes, List.length_map, List.length_range]; omega) (by simp only [List.length_map, List.length_range]; omega) ?_ | refine At_append_2 hF 1 rfl rfl (by simp) rfl (x0 := (cutA (g i).1 0 (g i).2 1, k, (g i).2)) rfl (by decide) (by simp [Value.one1, hdv]) (by simp only [TS.bytes, List.length_map, List.length_range]; omega) (by simp only [List.length_map, List.length_range]; omega) ?_)
        intro A5 c5
        refine At_nilK (hK _ _ ?_)
        refine FAt_step (l := [10]) (by (repeat (first | exact List.Sublist.refl _ | exact List.Sublist.slnil | refine List.Sublist.cons_cons _ ?_ | refine List.Sublist.cons _ ?_))) (by decide +kernel) ?_
        refine AT_all1 ?_
        · refine FAt_op (by exact (rfl : _ = some (Oper.mk _ _ _ _ _ _))) ?_
          intro K Q' hK
          (refine At_slice1_1 hF (by decide) (v0 := hdv (cutA (g i).1 k (g i).2 1, W - k, (g i).2 - k)) (by exact rfl) rfl ?_; intro b10)
          refine At_nilK (hK _ _ ?_)
          refine FAt_step (l := [11]) (by (repeat (first | exact List.Sublist.refl _ | exact List.Sublist.slnil | refine List.Sublist.cons_cons _ ?_ | refine List.Sublist.cons _ ?_))) (by decide +kernel) ?_
          refine AT_all1 ?_
          · refine FAt_op (by exact (rfl : _ = some (Oper.mk _ _ _ _ _ _))) ?_
            intro K Q' hK
            (first | refine At_append_3 hF 0 rfl rfl (by simp) rfl (x0 := (cutA (g i).1 k (g i).2 1, W - k, (g i).2 - k)) rfl (by decide) (by simp [Value.one1, hdv]) (by simp only [TS.bytes, List.length_map, List.length_range]; omega) (by simp only [List.length_map, List.length_range]; omega) ?_ | refine At_append_3 hF 1 rfl rfl (by simp) rfl (x0 := (cutA (g i).1 k (g i).2 1, W - k, (g i).2 - k)) rfl (by decide) (by simp [Value.one1, hdv]) (by simp only [TS.bytes, List.length_map, List.length_range]; omega) (by simp only [List.length_map, List.length_range]; omega) ?_)
            intro A11 c11
            refine At_nilK (hK _ _ ?_)
            refine FAt_done (by (repeat (first | exact List.Sublist.refl _ | exact List.Sublist.slnil | refine List.Sublist.cons_cons _ ?_ | refine List.Sublist.cons _ ?_))) (by decide +kernel) ?_
            rw [← range_snocM (fun j => (cutA (g j).1 0 (g j).2 1, k, (g j).2)) i, ← range_snocM (fun j => (cutA (g j).1 k (g j).2 1, W - k, (g j).2 - k)) i]
            simp only [List.length_map, List.length_range]
            (repeat (first | ((with_reducible refine is_AL ?_); (first | ((with_reducible refine is_move ?_); (refine At_plain hF (by (exact (rfl : _ = some (Value.int _ _)))) ?_)) | ((with_reducible refine is_bin ?_); ((with_reducible refine is_badd ?_); (refine At_add hF rfl rfl (by omega) ?_))) | ((with_reducible refine is_assign ?_); (refine At_plain hF (by (exact (rfl : _ = some (Value.slice _ _ _)))) ?_)) | with_reducible refine At_nil ?_)) | ((with_reducible refine is_At ?_); (first | with_reducible refine At_region ?_ | with_reducible refine At_then_n ?_ | with_reducible refine At_inb_n ?_ | with_reducible refine At_go (by assumption) ?_))))
            refine At.sub ?_ (hL (i + 1, (A5, c5), (A11, c11)) _ hlt (by simp only; omega) ?_)
            · (repeat (first | exact List.Sublist.refl _ | exact List.Sublist.slnil | refine List.Sublist.cons_cons _ ?_ | refine List.Sublist.cons _ ?_))
            · (repeat (first | exact True.intro | (refine And.intro ?_ ?_; focus (show _ = (_ : Value); first | exact rfl | (refine Eq.trans (b := Value.int IntKind.i64 _) rfl (congrArg (Value.int IntKind.i64) ?_); omega)))))
      refine AT_all1 ?_
      · refine FAt_op (by exact (rfl : _ = some (Oper.mk _ _ _ _ _ _))) ?_
        intro K Q' hK
        (refine At_slice1_1 hF (by decide) (v0 := hdv (cutA (g i).1 k (g i).2 1, W - k, (g i).2 - k)) (by exact rfl) rfl ?_; intro b10)
        refine At_nilK (hK _ _ ?_)
        refine FAt_step (l := [5]) (by (repeat (first | exact List.Sublist.refl _ | exact List.Sublist.slnil | refine List.Sublist.cons_cons _ ?_ | refine List.Sublist.cons _ ?_))) (by decide +kernel) ?_
        refine AT_all1 ?_
        · refine FAt_op (by exact (rfl : _ = some (Oper.mk _ _ _ _ _ _))) ?_
          intro K Q' hK
          (first | refine At_append_1 hF 0 rfl rfl (by simp) rfl (x0 := (cutA (g i).1 0 (g i).2 1, k, (g i).2)) rfl (by decide) (by simp [Value.one1, hdv]) (by simp only [TS.bytes, List.length_map, List.length_range]; omega) (by simp only [List.length_map, List.length_range]; omega) ?_ | refine At_append_2 hF 0 rfl rfl (by simp) rfl (x0 := (cutA (g i).1 0 (g i).2 1, k, (g i).2)) rfl (by decide) (by simp [Value.one1, hdv]) (by simp only [TS.bytes, List.length_map, List.length_range]; omega) (by simp only [List.length_map, List.length_range]; omega) ?_ | refine At_append_2 hF 1 rfl rfl (by simp) rfl (x0 := (cutA (g i).1 0 (g i).2 1, k, (g i).2)) rfl (by decide) (by simp [Value.one1, hdv]) (by simp only [TS.bytes, List.length_map, List.length_range]; omega) (by simp only [List.length_map, List.length_range]; omega) ?_)
          intro A5 c5
          refine At_nilK (hK _ _ ?_)
          refine FAt_step (l := [11]) (by (repeat (first | exact List.Sublist.refl _ | exact List.Sublist.slnil | refine List.Sublist.cons_cons _ ?_ | refine List.Sublist.cons _ ?_))) (by decide +kernel) ?_
          refine AT_all1 ?_
          · refine FAt_op (by exact (rfl : _ = some (Oper.mk _ _ _ _ _ _))) ?_
            intro K Q' hK
            (first | refine At_append_3 hF 0 rfl rfl (by simp) rfl (x0 := (cutA (g i).1 k (g i).2 1, W - k, (g i).2 - k)) rfl (by decide) (by simp [Value.one1, hdv]) (by simp only [TS.bytes, List.length_map, List.length_range]; omega) (by simp only [List.length_map, List.length_range]; omega) ?_ | refine At_append_3 hF 1 rfl rfl (by simp) rfl (x0 := (cutA (g i).1 k (g i).2 1, W - k, (g i).2 - k)) rfl (by decide) (by simp [Value.one1, hdv]) (by simp only [TS.bytes, List.length_map, List.length_range]; omega) (by simp only [List.length_map, List.length_range]; omega) ?_)
            intro A11 c11
            refine At_nilK (hK _ _ ?_)
            refine FAt_done (by (repeat (first | exact List.Sublist.refl _ | exact List.Sublist.slnil | refine List.Sublist.cons_cons _ ?_ | refine List.Sublist.cons _ ?_))) (by decide +kernel) ?_
            rw [← range_snocM (fun j => (cutA (g j).1 0 (g j).2 1, k, (g j).2)) i, ← range_snocM (fun j => (cutA (g j).1 k (g j).2 1, W - k, (g j).2 - k)) i]
            simp only [List.length_map, List.length_range]
            (repeat (first | ((with_reducible refine is_AL ?_); (first | ((with_reducible refine is_move ?_); (refine At_plain hF (by (exact (rfl : _ = some (Value.int _ _)))) ?_)) | ((with_reducible refine is_bin ?_); ((with_reducible refine is_badd ?_); (refine At_add hF rfl rfl (by omega) ?_))) | ((with_reducible refine is_assign ?_); (refine At_plain hF (by (exact (rfl : _ = some (Value.slice _ _ _)))) ?_)) | with_reducible refine At_nil ?_)) | ((with_reducible refine is_At ?_); (first | with_reducible refine At_region ?_ | with_reducible refine At_then_n ?_ | with_reducible refine At_inb_n ?_ | with_reducible refine At_go (by assumption) ?_))))
            refine At.sub ?_ (hL (i + 1, (A5, c5), (A11, c11)) _ hlt (by simp only; omega) ?_)
            · (repeat (first | exact List.Sublist.refl _ | exact List.Sublist.slnil | refine List.Sublist.cons_cons _ ?_ | refine List.Sublist.cons _ ?_))
            · (repeat (first | exact True.intro | (refine And.intro ?_ ?_; focus (show _ = (_ : Value); first | exact rfl | (refine Eq.trans (b := Value.int IntKind.i64 _) rfl (congrArg (Value.int IntKind.i64) ?_); omega)))))
    refine AT_all1 ?_
    · refine FAt_op (by exact (rfl : _ = some (Oper.mk _ _ _ _ _ _))) ?_
      intro K Q' hK
      (refine At_slice1_1 hF (by decide) (v0 := hdv (cutA (g i).1 k (g i).2 1, W - k, (g i).2 - k)) (by exact rfl) rfl ?_; intro b10)
      refine At_nilK (hK _ _ ?_)
      refine FAt_step (l := [4]) (by (repeat (first | exact List.Sublist.refl _ | exact List.Sublist.slnil | refine List.Sublist.cons_cons _ ?_ | refine List.Sublist.cons _ ?_))) (by decide +kernel) ?_
      refine AT_all1 ?_
      · refine FAt_op (by exact (rfl : _ = some (Oper.mk _ _ _ _ _ _))) ?_
        intro K Q' hK
        (refine At_slice1_1 hF (by decide) (v0 := hdv (cutA (g i).1 0 (g i).2 1, k, (g i).2)) (by exact rfl) rfl ?_; intro b4)
        refine At_nilK (hK _ _ ?_)
        refine FAt_step (l := [5]) (by (repeat (first | exact List.Sublist.refl _ | exact List.Sublist.slnil | refine List.Sublist.cons_cons _ ?_ | refine List.Sublist.cons _ ?_))) (by decide +kernel) ?_
        refine AT_all1 ?_
        · refine FAt_op (by exact (rfl : _ = some (Oper.mk _ _ _ _ _ _))) ?_
          intro K Q' hK
          (first | refine At_append_1 hF 0 rfl rfl (by simp) rfl (x0 := (cutA (g i).1 0 (g i).2 1, k, (g i).2)) rfl (by decide) (by simp [Value.one1, hdv]) (by simp only [TS.bytes, List.length_map, List.length_range]; omega) (by simp only [List.length_map, List.length_range]; omega) ?_ | refine At_append_2 hF 0 rfl rfl (by simp) rfl (x0 := (cutA (g i).1 0 (g i).2 1, k, (g i).2)) rfl (by decide) (by simp [Value.one1, hdv]) (by simp only [TS.bytes, List.length_map, List.length_range]; omega) (by simp only [List.length_map, List.length_range]; omega) ?_ | refine At_append_2 hF 1 rfl rfl (by simp) rfl (x0 := (cutA (g i).1 0 (g i).2 1, k, (g i).2)) rfl (by decide) (by simp [Value.one1, hdv]) (by simp only [TS.bytes, List.length_map, List.length_range]; omega) (by simp only [List.length_map, List.length_range]; omega) ?_)
          intro A5 c5
          refine At_nilK (hK _ _ ?_)
          refine FAt_step (l := [11]) (by (repeat (first | exact List.Sublist.refl _ | exact List.Sublist.slnil | refine List.Sublist.cons_cons _ ?_ | refine List.Sublist.cons _ ?_))) (by decide +kernel) ?_
          refine AT_all1 ?_
          · refine FAt_op (by exact (rfl : _ = some (Oper.mk _ _ _ _ _ _))) ?_
            intro K Q' hK
            (first | refine At_append_3 hF 0 rfl rfl (by simp) rfl (x0 := (cutA (g i).1 k (g i).2 1, W - k, (g i).2 - k)) rfl (by decide) (by simp [Value.one1, hdv]) (by simp only [TS.bytes, List.length_map, List.length_range]; omega) (by simp only [List.length_map, List.length_range]; omega) ?_ | refine At_append_3 hF 1 rfl rfl (by simp) rfl (x0 := (cutA (g i).1 k (g i).2 1, W - k, (g i).2 - k)) rfl (by decide) (by simp [Value.one1, hdv]) (by simp only [TS.bytes, List.length_map, List.length_range]; omega) (by simp only [List.length_map, List.length_range]; omega) ?_)
            intro A11 c11
            refine At_nilK (hK _ _ ?_)
            refine FAt_done (by (repeat (first | exact List.Sublist.refl _ | exact List.Sublist.slnil | refine List.Sublist.cons_cons _ ?_ | refine List.Sublist.cons _ ?_))) (by decide +kernel) ?_
            rw [← range_snocM (fun j => (cutA (g j).1 0 (g j).2 1, k, (g j).2)) i, ← range_snocM (fun j => (cutA (g j).1 k (g j).2 1, W - k, (g j).2 - k)) i]
            simp only [List.length_map, List.length_range]
            (repeat (first | ((with_reducible refine is_AL ?_); (first | ((with_reducible refine is_move ?_); (refine At_plain hF (by (exact (rfl : _ = some (Value.int _ _)))) ?_)) | ((with_reducible refine is_bin ?_); ((with_reducible refine is_badd ?_); (refine At_add hF rfl rfl (by omega) ?_))) | ((with_reducible refine is_assign ?_); (refine At_plain hF (by (exact (rfl : _ = some (Value.slice _ _ _)))) ?_)) | with_reducible refine At_nil ?_)) | ((with_reducible refine is_At ?_); (first | with_reducible refine At_region ?_ | with_reducible refine At_then_n ?_ | with_reducible refine At_inb_n ?_ | with_reducible refine At_go (by assumption) ?_))))
            refine At.sub ?_ (hL (i + 1, (A5, c5), (A11, c11)) _ hlt (by simp only; omega) ?_)
            · (repeat (first | exact List.Sublist.refl _ | exact List.Sublist.slnil | refine List.Sublist.cons_cons _ ?_ | refine List.Sublist.cons _ ?_))
            · (repeat (first | exact True.intro | (refine And.intro ?_ ?_; focus (show _ = (_ : Value); first | exact rfl | (refine Eq.trans (b := Value.int IntKind.i64 _) rfl (congrArg (Value.int IntKind.i64) ?_); omega)))))
  obtain rfl : i = p.length := by omega
  clear hL
  refine At.rebase fun w1 hw1 => ?_
  have hb2 : Below w.heap.size w w1 := hw1.below
  have hT : Kd.C KL w1 (a1.map fun b => ⟨b, 0, none⟩) (takeP k p).length (takeP k p) := KL_row (takeP k p) hw1 (List.mem_cons_self ..) (by rw [takeP_len]; simp) (fun j hj => by
    rw [takeP_len] at hj
    obtain ⟨_, _, _, h3, h4⟩ := hg0 j hj
    have hlj := hlen j hj
    rw [takeP_get, getD_rangeM _ _ _ _ hj]
    have h5 := KI_cut (Kd.C_below h4 hb2) 0 k (g j).2 (by omega) (by omega) (by omega)
    rw [Nat.sub_zero, List.drop_zero] at h5
    have h6 : ((p.getD j []).take k).length = k := by rw [List.length_take]; omega
    exact ⟨h6.symm, by show _ ≤ (g j).2; omega, by rw [h6]; exact h5⟩)
  have hD : Kd.C KL w1 (a2.map fun b => ⟨b, 0, none⟩) (dropP k p).length (dropP k p) := KL_row (dropP k p) hw1 (List.mem_cons_of_mem _ (List.mem_cons_self ..)) (by rw [dropP_len]; simp) (fun j hj => by
    rw [dropP_len] at hj
    obtain ⟨_, _, _, h3, h4⟩ := hg0 j hj
    have hlj := hlen j hj
    rw [dropP_get, getD_rangeM _ _ _ _ hj]
    have h5 := KI_cut (Kd.C_below h4 hb2) k W (g j).2 (by omega) (by omega) (by omega)
    have h6 : ((p.getD j []).drop k).length = W - k := by rw [List.length_drop]; omega
    rw [List.take_of_length_le (by omega)] at h5
    exact ⟨h6.symm, by show _ ≤ (g j).2 - k; omega, by rw [h6]; exact h5⟩)
  have hlT : p.length ≤ c1 := by
    have h := hw1.ok _ (List.mem_cons_self ..)
    have := h.2.1
    simpa using this
  have hlD : p.length ≤ c2 := by
    have h := hw1.ok _ (List.mem_cons_of_mem _ (List.mem_cons_self ..))
    have := h.2.1
    simpa using this
  clear hw1
  (repeat (first | ((with_reducible refine is_AL ?_); ((with_reducible refine is_move ?_); (refine At_plain hF (by (exact (rfl : _ = some (Value.slice _ _ _)))) ?_))) | ((with_reducible refine is_At ?_); (first | with_reducible refine At_seq ?_; intro K hK | with_reducible refine At_region ?_ | with_reducible refine At_exit ?_ | with_reducible refine At_then_n ?_ | with_reducible refine At_then_e ?_ | with_reducible refine At_inb_e rfl ?_ | with_reducible refine At_go (by assumption) ?_))))
  refine At_callK hF E14c rfl (arg1 (by (first | exact (rfl : _ = (Value.int _ _)) | exact (rfl : _ = (Value.bool _)) | exact (rfl : _ = (Value.pointer _)) | exact (rfl : _ = (Value.slice _ _ _)) | exact (rfl : _ = (Value.map _)) | exact (rfl : _ = (Value.func _ _ _)) | exact (rfl : _ = (Value.tuple _)) | exact (rfl : _ = (Value.agg _)) | exact (rfl : _ = (Value.string _)) | exact (rfl : _ = (Value.nilFunc)) | exact (rfl : _ = (Value.nilIface))))) (fun w hw => by
    have := br_rets (Kd.C_below hT hw.below) (by rw [takeP_len]; exact hlT)
    rw [takeP_len] at this
    exact this) ?_
  rintro _ w2 hb3 ⟨A3, c3, rfl, hc3, hC3⟩
  have hv3 : brF (takeP k p) = ((takeP k p).map brk, 0) := by rw [brF, if_pos (takeP_ok hok)]
  rw [hv3] at hc3 hC3 ⊢
  dsimp only at hc3 hC3 ⊢
  have hml3 : ((takeP k p).map brk).length = p.length := by rw [List.length_map, takeP_len]
  rw [hml3] at hc3 hC3 ⊢
  (repeat (first | ((with_reducible refine is_AL ?_); (first | ((with_reducible refine is_move ?_); (refine At_plain hF (by (first | exact (rfl : _ = some (Value.slice _ _ _)) | exact (rfl : _ = some (Value.tuple _)))) ?_)) | ((with_reducible refine is_assign ?_); (refine At_plain hF (by (first | exact (rfl : _ = some (Value.int _ _)) | exact (rfl : _ = some (Value.slice _ _ _)))) ?_)) | ((with_reducible refine is_extract ?_); (refine At_plain hF (by (first | exact (rfl : _ = some (Value.int _ _)) | exact (rfl : _ = some (Value.slice _ _ _)))) ?_)) | with_reducible refine At_nil ?_)) | ((with_reducible refine is_At ?_); (first | with_reducible refine At_seq ?_; intro K hK | with_reducible refine At_region ?_ | with_reducible refine At_then_n ?_ | with_reducible refine At_go (by assumption) ?_))))
  refine At_callK hF E14c rfl (arg1 (by (first | exact (rfl : _ = (Value.int _ _)) | exact (rfl : _ = (Value.bool _)) | exact (rfl : _ = (Value.pointer _)) | exact (rfl : _ = (Value.slice _ _ _)) | exact (rfl : _ = (Value.map _)) | exact (rfl : _ = (Value.func _ _ _)) | exact (rfl : _ = (Value.tuple _)) | exact (rfl : _ = (Value.agg _)) | exact (rfl : _ = (Value.string _)) | exact (rfl : _ = (Value.nilFunc)) | exact (rfl : _ = (Value.nilIface))))) (fun w hw => by
    have := br_rets (Kd.C_below (Kd.C_below hD hb3) hw.below) (by rw [dropP_len]; exact hlD)
    rw [dropP_len] at this
    exact this) ?_
  rintro _ w3 hb4 ⟨A4, c4, rfl, hc4, hC4⟩
  have hv4 : brF (dropP k p) = ((dropP k p).map brk, 0) := by rw [brF, if_pos (dropP_ok hok)]
  rw [hv4] at hc4 hC4 ⊢
  dsimp only at hc4 hC4 ⊢
  have hml4 : ((dropP k p).map brk).length = p.length := by rw [List.length_map, dropP_len]
  rw [hml4] at hc4 hC4 ⊢
  have hB3 : Below w.heap.size w w3 := (hb2.trans (hb3.mono hb2.size)).trans (hb4.mono (Nat.le_trans hb2.size hb3.size))
  have hrF := Kd.C_below hr hB3
  have hC0 := Kd.C_below hCL hB3
  have hC3' := Kd.C_below hC3 hb4
  obtain ⟨g', hg'⟩ := heads hrF
  clear hT hD hC3 hCL hg0 hrow0 hcell0 hA0 hg00
  (repeat' (first | ((with_reducible refine is_AL ?_); (first | ((with_reducible refine is_guarded ?_); (refine At_guard_t rfl (by decide) rfl ?_)) | ((with_reducible refine is_move ?_); (refine At_plain hF (by (first | exact (rfl : _ = some (Value.int _ _)) | exact (rfl : _ = some (Value.bool _)) | exact (rfl : _ = some (Value.slice _ _ _)) | exact (rfl : _ = some (Value.tuple _)))) ?_)) | ((with_reducible refine is_bin ?_); (refine At_plain hF (by (exact (rfl : _ = some (Value.bool _)))) ?_)) | ((with_reducible refine is_assign ?_); (refine At_plain hF (by (first | exact (rfl : _ = some (Value.int _ _)) | exact (rfl : _ = some (Value.slice _ _ _)))) ?_)) | ((with_reducible refine is_pick ?_); (refine At_plain hF (by (exact (rfl : _ = some (Value.bool _)))) ?_)) | ((with_reducible refine is_extract ?_); (refine At_plain hF (by (first | exact (rfl : _ = some (Value.int _ _)) | exact (rfl : _ = some (Value.slice _ _ _)))) ?_)) | ((with_reducible refine is_call ?_); (refine At_len hF rfl ?_)) | with_reducible refine At_nil ?_)) | ((with_reducible refine is_At ?_); (first | with_reducible refine At_seq ?_; intro K hK | with_reducible refine At_block ?_ | with_reducible refine At_region ?_ | with_reducible refine At_skip ?_ | with_reducible refine At_then_n ?_ | with_reducible refine At_go (by assumption) ?_)) | (first | ((with_reducible refine is_guarded ?_); (refine At_guard hF rfl (by decide) rfl ?_ ?_ <;> (intro hg; try (simp only [decide_eq_true_eq, decide_eq_false_iff_not, beq_iff_eq, bne_iff_ne, beq_eq_false_iff_ne, bne_eq_false_iff_eq, ne_eq, Bool.not_eq_true', Bool.not_eq_false', Bool.not_true, Bool.not_false, Decidable.not_not] at hg); try (exfalso; first | omega | exact hg True.intro)))) | ((with_reducible refine is_cond ?_); (refine At_cond rfl ?_ ?_ <;> (intro hg; try (simp only [decide_eq_true_eq, decide_eq_false_iff_not, beq_iff_eq, bne_iff_ne, beq_eq_false_iff_ne, bne_eq_false_iff_eq, ne_eq, Bool.not_eq_true', Bool.not_eq_false', Bool.not_true, Bool.not_false, Decidable.not_not] at hg); try (exfalso; first | omega | exact hg True.intro)))))))
  refine At_loop (fun i : Nat => [(0, .slice A p.length c), (5, .slice A' p.length c'), (7, .int .i64 k), (12, .slice A3 p.length c3), (14, .slice A4 p.length c4), (100, .slice A p.length c), (101, .int .i64 p.length), (102, .int .i64 i)])
    (fun _ => []) (fun i => i ≤ p.length) (fun i => p.length - i) 0 ?_ ?_ (Nat.zero_le _) ?_
  · (repeat (first | exact List.Sublist.refl _ | exact List.Sublist.slnil | refine List.Sublist.cons_cons _ ?_ | refine List.Sublist.cons _ ?_))
  · (repeat (first | exact True.intro | (refine And.intro ?_ ?_; focus (show _ = (_ : Value); first | exact rfl | (refine Eq.trans (b := Value.int IntKind.i64 _) rfl (congrArg (Value.int IntKind.i64) ?_); omega)))))
  intro i hi K hL ρ2
  try dsimp only
  (repeat (first | ((with_reducible refine is_AL ?_); (first | ((with_reducible refine is_bin ?_); (refine At_plain hF (by (exact (rfl : _ = some (Value.bool _)))) ?_)) | with_reducible refine At_nil ?_)) | ((with_reducible refine is_At ?_); (first | with_reducible refine At_seq ?_; intro K hK | with_reducible refine At_region ?_ | with_reducible refine At_then_n ?_ | with_reducible refine At_go (by assumption) ?_))))
  ((with_reducible refine is_cond ?_); (refine At_cond rfl ?_ ?_ <;> (intro hg; try (simp only [decide_eq_true_eq, decide_eq_false_iff_not, beq_iff_eq, bne_iff_ne, beq_eq_false_iff_ne, bne_eq_false_iff_eq, ne_eq, Bool.not_eq_true', Bool.not_eq_false', Bool.not_true, Bool.not_false, Decidable.not_not] at hg); try (exfalso; first | omega | exact hg True.intro))))
  · have hlt : i < p.length := by omega
    obtain ⟨adi, hAi, hcelli, hgi, hrowi⟩ := hg' i hlt
    have hli := hlen i hlt
    obtain ⟨row, hrow⟩ : ∃ row, row = p.getD i [] := ⟨_, rfl⟩
    have hcut := brk_cut row k (by rw [hrow, hli]; omega)
    have hx0 := brF_get (p := p) i hlt
    have hx3 := brF_get (p := takeP k p) i (by rw [takeP_len]; exact hlt)
    have hx4 := brF_get (p := dropP k p) i (by rw [dropP_len]; exact hlt)
    rw [takeP_get] at hx3
    rw [dropP_get] at hx4
    rw [← hrow] at hli hcelli hgi hrowi hx0 hx3 hx4
    rw [hli] at hcelli hgi hrowi
    obtain ⟨ad5, hA5, hc5⟩ := CI hC0 i hlt
    obtain ⟨ad6, hA6, hc6⟩ := CI hC3' i hlt
    obtain ⟨ad7, hA7, hc7⟩ := CI hC4 i hlt
    rw [hx0] at hc5
    rw [hx3] at hc6
    rw [hx4] at hc7
    have hb1 := brk_bd row
    have hb2 := brk_bd (row.take k)
    have hb3 := brk_bd (row.drop k)
    rw [hli] at hb1
    rw [List.length_take] at hb2
    rw [List.length_drop] at hb3
    have hmb : moreB row k = if 0 < k ∧ k < W ∧ row.getD k 0 ≠ 0 ∧ row.getD (k - 1) 0 = row.getD k 0 then 1 else 0 := by rw [moreB, hli]
    clear hx0 hx3 hx4 hrow
    (repeat (first | ((with_reducible refine is_AL ?_); (first | ((with_reducible refine is_move ?_); (refine At_plain hF (by (exact (rfl : _ = some (Value.int _ _)))) ?_)) | ((with_reducible refine is_index ?_); (refine At_indexC1 hF rfl (by assumption) rfl rfl (by omega) ?_)))) | ((with_reducible refine is_At ?_); (first | with_reducible refine At_seq ?_; intro K hK | with_reducible refine At_block ?_ | with_reducible refine At_region ?_ | with_reducible refine At_skip ?_ | with_reducible refine At_then_n ?_ | with_reducible refine At_go (by assumption) ?_))))
    refine At_loadC hF (by exact rfl) hcelli ?_
    (repeat (first | ((with_reducible refine is_AL ?_); (first | ((with_reducible refine is_assign ?_); (refine At_plain hF (by (first | exact (rfl : _ = some (Value.int _ _)) | exact (rfl : _ = some (Value.slice _ _ _)))) ?_)) | with_reducible refine At_nil ?_)) | ((with_reducible refine is_At ?_); (first | with_reducible refine At_seq ?_; intro K hK | with_reducible refine At_region ?_ | with_reducible refine At_then_n ?_ | with_reducible refine At_go (by assumption) ?_))))
    refine At_merge [(0, .slice A p.length c), (5, .slice A' p.length c'), (7, .int .i64 k), (12, .slice A3 p.length c3), (14, .slice A4 p.length c4), (100, .slice A p.length c), (101, .int .i64 p.length), (102, .int .i64 i), (16, .int .i64 i), (18, .int .i64 0), (133, .bool (decide (0 < k ∧ k < W ∧ row.getD k 0 ≠ 0 ∧ row.getD (k - 1) 0 = row.getD k 0)))] [] ?_ ?_
    · intro K' hK'
      clear hb1 hb2 hb3 hc5 hc6 hc7 hcut hmb
      refine At_draw hF 27 (by kernel_rfl) (by decide +kernel) ?_; simp only [List.take_succ_cons, List.take_zero, List.drop_succ_cons, List.drop_zero]; (repeat ((with_reducible refine is_AQc ?_); refine AQ_cons (by intro K Q hK; (repeat (first | ((with_reducible refine is_move ?_); (refine At_plain hF (by (first | exact (rfl : _ = some (Value.int _ _)) | exact (rfl : _ = some (Value.bool _)))) ?_)) | ((with_reducible refine is_bin ?_); (refine At_plain hF (by (exact (rfl : _ = some (Value.bool _)))) ?_)))); exact At_nilK hK) ?_))
      by_cases h0 : 0 < k
      · rw [show decide ((k : Int) > 0) = true from decide_eq_true (by omega)]
        (repeat ((with_reducible refine is_AQc ?_); refine AQ_cons (by intro K Q hK; (repeat (first | ((with_reducible refine is_guarded ?_); (refine At_guard_t rfl (by decide) rfl ?_)) | ((with_reducible refine is_move ?_); (refine At_plain hF (by (first | exact (rfl : _ = some (Value.int _ _)) | exact (rfl : _ = some (Value.bool _)) | exact (rfl : _ = some (Value.slice _ _ _)))) ?_)) | ((with_reducible refine is_bin ?_); (refine At_plain hF (by (exact (rfl : _ = some (Value.bool _)))) ?_)) | ((with_reducible refine is_pick ?_); (refine At_plain hF (by (exact (rfl : _ = some (Value.bool _)))) ?_)) | ((with_reducible refine is_call ?_); (refine At_len hF rfl ?_)))); exact At_nilK hK) ?_))
        by_cases h1 : k < W
        · obtain ⟨adr, hAr, hcr⟩ := CI hrowi k h1
          obtain ⟨adr2, hAr2, hcr2⟩ := CI hrowi (k - 1) (by omega)
          obtain rfl : adr = adr2 := by rw [hAr] at hAr2; exact Option.some.inj hAr2
          rw [show k - 1 = ((k : Int) - 1).toNat by omega] at hcr2 hK'
          rw [show decide ((k : Int) < W) = true from decide_eq_true (by omega)]
          (repeat ((with_reducible refine is_AQc ?_); refine AQ_cons (by intro K Q hK; (repeat (first | ((with_reducible refine is_guarded ?_); (refine At_guard_t rfl (by decide) rfl ?_)) | ((with_reducible refine is_move ?_); (refine At_plain hF (by (first | exact (rfl : _ = some (Value.int _ _)) | exact (rfl : _ = some (Value.slice _ _ _)))) ?_)) | ((with_reducible refine is_index ?_); (refine At_indexC1 hF rfl (by assumption) rfl rfl (by omega) ?_)))); exact At_nilK hK) ?_))
          refine AQ_cons (by intro K Q hK; refine At_guard_t rfl (by decide) rfl ?_; refine At_loadC hF (by exact rfl) hcr ?_; exact At_nilK hK) ?_
          (repeat ((with_reducible refine is_AQc ?_); refine AQ_cons (by intro K Q hK; (repeat (first | ((with_reducible refine is_guarded ?_); (refine At_guard_t rfl (by decide) rfl ?_)) | ((with_reducible refine is_move ?_); (refine At_plain hF (by (exact (rfl : _ = some (Value.bool _)))) ?_)) | ((with_reducible refine is_bin ?_); (refine At_plain hF (by (exact (rfl : _ = some (Value.bool _)))) ?_)) | ((with_reducible refine is_pick ?_); (refine At_plain hF (by (exact (rfl : _ = some (Value.bool _)))) ?_)))); exact At_nilK hK) ?_))
          by_cases h2 : row.getD k 0 = 0
          · rw [show (row.getD k 0 != 0) = false by rw [h2]; rfl]
            rw [decide_eq_false (fun h => h.2.2.1 h2)] at hK'
            (repeat ((with_reducible refine is_AQc ?_); refine AQ_cons (by intro K Q hK; (repeat (first | ((with_reducible refine is_guarded ?_); (refine At_guard_f hF rfl (by decide) rfl rfl ?_)) | ((with_reducible refine is_pick ?_); (refine At_plain hF (by (exact (rfl : _ = some (Value.bool _)))) ?_)))); exact At_nilK hK) ?_)); refine AQ_done ?_
            (repeat (first | ((with_reducible refine is_AL ?_); (with_reducible refine At_nil ?_)) | ((with_reducible refine is_At ?_); (with_reducible refine At_then_n ?_))))
            refine At.sub (List.nil_sublist _) (hK' _ ?_)
            (repeat (first | exact True.intro | (refine And.intro ?_ ?_; focus (show _ = (_ : Value); first | exact rfl | (refine Eq.trans (b := Value.int IntKind.i64 _) rfl (congrArg (Value.int IntKind.i64) ?_); omega)))))
          · rw [show (row.getD k 0 != 0) = true from bne_iff_ne.2 h2]
            (repeat ((with_reducible refine is_AQc ?_); refine AQ_cons (by intro K Q hK; (repeat (first | ((with_reducible refine is_guarded ?_); (refine At_guard_t rfl (by decide) rfl ?_)) | ((with_reducible refine is_move ?_); (refine At_plain hF (by (first | exact (rfl : _ = some (Value.int _ _)) | exact (rfl : _ = some (Value.slice _ _ _)))) ?_)) | ((with_reducible refine is_bin ?_); ((with_reducible refine is_bsub ?_); (refine At_sub hF rfl rfl (by omega) ?_))) | ((with_reducible refine is_index ?_); (refine At_indexC1i hF rfl (by assumption) rfl rfl (by omega) (by omega) ?_)))); exact At_nilK hK) ?_))
            refine AQ_cons (by intro K Q hK; refine At_guard_t rfl (by decide) rfl ?_; refine At_loadC hF (by exact rfl) hcr2 ?_; exact At_nilK hK) ?_
            (repeat ((with_reducible refine is_AQc ?_); refine AQ_cons (by intro K Q hK; (repeat (first | ((with_reducible refine is_guarded ?_); (refine At_guard_t rfl (by decide) rfl ?_)) | ((with_reducible refine is_move ?_); (refine At_plain hF (by (first | exact (rfl : _ = some (Value.int _ _)) | exact (rfl : _ = some (Value.slice _ _ _)))) ?_)) | ((with_reducible refine is_index ?_); (refine At_indexC1 hF rfl (by assumption) rfl rfl (by omega) ?_)))); exact At_nilK hK) ?_))
            refine AQ_cons (by intro K Q hK; refine At_guard_t rfl (by decide) rfl ?_; refine At_loadC hF (by exact rfl) hcr ?_; exact At_nilK hK) ?_
            by_cases h3 : row.getD ((k : Int) - 1).toNat 0 = row.getD k 0
            · rw [decide_eq_true ⟨h0, h1, h2, h3⟩] at hK'
              rw [h3]
              have e : (row.getD k 0 == row.getD k 0) = true := by simp
              (repeat ((with_reducible refine is_AQc ?_); refine AQ_cons (by intro K Q hK; (repeat (first | ((with_reducible refine is_guarded ?_); (refine At_guard_t rfl (by decide) rfl ?_)) | ((with_reducible refine is_bin ?_); (refine At_plain hF (by (exact (rfl : _ = some (Value.bool _)))) ?_)) | ((with_reducible refine is_pick ?_); (refine At_plain hF (by (exact (rfl : _ = some (Value.bool _)))) ?_)))); exact At_nilK hK) ?_)); refine AQ_done ?_
              rw [e]
              (repeat (first | ((with_reducible refine is_AL ?_); (with_reducible refine At_nil ?_)) | ((with_reducible refine is_At ?_); (with_reducible refine At_then_n ?_))))
              refine At.sub (List.nil_sublist _) (hK' _ ?_)
              (repeat (first | exact True.intro | (refine And.intro ?_ ?_; focus (show _ = (_ : Value); first | exact rfl | (refine Eq.trans (b := Value.int IntKind.i64 _) rfl (congrArg (Value.int IntKind.i64) ?_); omega)))))
            · rw [decide_eq_false (fun h => h3 h.2.2.2)] at hK'
              have e : (row.getD ((k : Int) - 1).toNat 0 == row.getD k 0) = false := by simpa using h3
              (repeat ((with_reducible refine is_AQc ?_); refine AQ_cons (by intro K Q hK; (repeat (first | ((with_reducible refine is_guarded ?_); (refine At_guard_t rfl (by decide) rfl ?_)) | ((with_reducible refine is_bin ?_); (refine At_plain hF (by (exact (rfl : _ = some (Value.bool _)))) ?_)) | ((with_reducible refine is_pick ?_); (refine At_plain hF (by (exact (rfl : _ = some (Value.bool _)))) ?_)))); exact At_nilK hK) ?_)); refine AQ_done ?_
              rw [e]
              (repeat (first | ((with_reducible refine is_AL ?_); (with_reducible refine At_nil ?_)) | ((with_reducible refine is_At ?_); (with_reducible refine At_then_n ?_))))
              refine At.sub (List.nil_sublist _) (hK' _ ?_)
              (repeat (first | exact True.intro | (refine And.intro ?_ ?_; focus (show _ = (_ : Value); first | exact rfl | (refine Eq.trans (b := Value.int IntKind.i64 _) rfl (congrArg (Value.int IntKind.i64) ?_); omega)))))
        · rw [show decide ((k : Int) < W) = false from decide_eq_false (by omega)]
          rw [decide_eq_false (fun h => h1 h.2.1)] at hK'
          (repeat ((with_reducible refine is_AQc ?_); refine AQ_cons (by intro K Q hK; (repeat (first | ((with_reducible refine is_guarded ?_); (refine At_guard_f hF rfl (by decide) rfl rfl ?_)) | ((with_reducible refine is_move ?_); (refine At_plain hF (by (exact (rfl : _ = some (Value.bool _)))) ?_)) | ((with_reducible refine is_pick ?_); (refine At_plain hF (by (exact (rfl : _ = some (Value.bool _)))) ?_)))); exact At_nilK hK) ?_)); refine AQ_done ?_
          (repeat (first | ((with_reducible refine is_AL ?_); (with_reducible refine At_nil ?_)) | ((with_reducible refine is_At ?_); (with_reducible refine At_then_n ?_))))
          refine At.sub (List.nil_sublist _) (hK' _ ?_)
          (repeat (first | exact True.intro | (refine And.intro ?_ ?_; focus (show _ = (_ : Value); first | exact rfl | (refine Eq.trans (b := Value.int IntKind.i64 _) rfl (congrArg (Value.int IntKind.i64) ?_); omega)))))
      · rw [show decide ((k : Int) > 0) = false from decide_eq_false (by omega)]
        rw [decide_eq_false (fun h => h0 h.1)] at hK'
        (repeat ((with_reducible refine is_AQc ?_); refine AQ_cons (by intro K Q hK; (repeat (first | ((with_reducible refine is_guarded ?_); (refine At_guard_f hF rfl (by decide) rfl rfl ?_)) | ((with_reducible refine is_move ?_); (refine At_plain hF (by (exact (rfl : _ = some (Value.bool _)))) ?_)) | ((with_reducible refine is_pick ?_); (refine At_plain hF (by (exact (rfl : _ = some (Value.bool _)))) ?_)))); exact At_nilK hK) ?_)); refine AQ_done ?_
        (repeat (first | ((with_reducible refine is_AL ?_); (with_reducible refine At_nil ?_)) | ((with_reducible refine is_At ?_); (with_reducible refine At_then_n ?_))))
        refine At.sub (List.nil_sublist _) (hK' _ ?_)
        (repeat (first | exact True.intro | (refine And.intro ?_ ?_; focus (show _ = (_ : Value); first | exact rfl | (refine Eq.trans (b := Value.int IntKind.i64 _) rfl (congrArg (Value.int IntKind.i64) ?_); omega)))))
    intro ρ3
    try dsimp only
    generalize brk row = y5 at *
    generalize brk (row.take k) = y6 at *
    generalize brk (row.drop k) = y7 at *
    have hm1 : min k row.length ≤ 64 := by rw [hli]; omega
    have hm2 : row.length - k ≤ 64 := by rw [hli]; omega
    have hb2' : 0 ≤ y6 ∧ y6 ≤ 64 := by omega
    have hb3' : 0 ≤ y7 ∧ y7 ≤ 64 := by omega
    clear hb2 hb3 hm1 hm2
    by_cases hm : 0 < k ∧ k < W ∧ row.getD k 0 ≠ 0 ∧ row.getD (k - 1) 0 = row.getD k 0
    · rw [if_pos hm] at hmb
      rw [decide_eq_true hm]
      clear hm
      rw [hmb] at hcut
      (repeat (first | ((with_reducible refine is_AL ?_); (first | ((with_reducible refine is_assign ?_); (refine At_plain hF (by (exact (rfl : _ = some (Value.int _ _)))) ?_)) | with_reducible refine At_nil ?_)) | ((with_reducible refine is_At ?_); (first | with_reducible refine At_seq ?_; intro K hK | with_reducible refine At_region ?_ | with_reducible refine At_then_n ?_ | with_reducible refine At_go (by assumption) ?_ | ((with_reducible refine is_cond ?_); (refine At_cond_t rfl ?_))))))
      refine At_draw hF 16 (by kernel_rfl) (by decide +kernel) ?_; simp only [List.take_succ_cons, List.take_zero, List.drop_succ_cons, List.drop_zero]; (repeat ((with_reducible refine is_AQc ?_); refine AQ_cons (by intro K Q hK; (repeat (first | ((with_reducible refine is_move ?_); (refine At_plain hF (by (first | exact (rfl : _ = some (Value.int _ _)) | exact (rfl : _ = some (Value.slice _ _ _)))) ?_)) | ((with_reducible refine is_index ?_); (refine At_indexC1 hF rfl (by assumption) rfl rfl (by omega) ?_)))); exact At_nilK hK) ?_))
      refine AQ_cons (by intro K Q hK; refine At_loadC hF (by exact rfl) hc5 ?_; exact At_nilK hK) ?_
      (repeat ((with_reducible refine is_AQc ?_); refine AQ_cons (by intro K Q hK; (repeat (first | ((with_reducible refine is_move ?_); (refine At_plain hF (by (first | exact (rfl : _ = some (Value.int _ _)) | exact (rfl : _ = some (Value.slice _ _ _)))) ?_)) | ((with_reducible refine is_index ?_); (refine At_indexC1 hF rfl (by assumption) rfl rfl (by omega) ?_)))); exact At_nilK hK) ?_))
      refine AQ_cons (by intro K Q hK; refine At_loadC hF (by exact rfl) hc6 ?_; exact At_nilK hK) ?_
      (repeat ((with_reducible refine is_AQc ?_); refine AQ_cons (by intro K Q hK; (repeat (first | ((with_reducible refine is_move ?_); (refine At_plain hF (by (first | exact (rfl : _ = some (Value.int _ _)) | exact (rfl : _ = some (Value.slice _ _ _)))) ?_)) | ((with_reducible refine is_index ?_); (refine At_indexC1 hF rfl (by assumption) rfl rfl (by omega) ?_)))); exact At_nilK hK) ?_))
      refine AQ_cons (by intro K Q hK; refine At_loadC hF (by exact rfl) hc7 ?_; exact At_nilK hK) ?_
      (repeat ((with_reducible refine is_AQc ?_); refine AQ_cons (by intro K Q hK; (repeat (first | ((with_reducible refine is_move ?_); (refine At_plain hF (by (exact (rfl : _ = some (Value.int _ _)))) ?_)) | ((with_reducible refine is_bin ?_); (first | ((with_reducible refine is_badd ?_); (refine At_add hF rfl rfl (by omega) ?_)) | refine At_plain hF (by (exact (rfl : _ = some (Value.bool _)))) ?_)))); exact At_nilK hK) ?_)); refine AQ_done ?_
      rw [show (y5 != y6 + y7 + 1) = false from bne_eq_false_iff_eq.2 (by omega)]
      (repeat (first | ((with_reducible refine is_AL ?_); (first | ((with_reducible refine is_move ?_); (refine At_plain hF (by (exact (rfl : _ = some (Value.int _ _)))) ?_)) | ((with_reducible refine is_bin ?_); ((with_reducible refine is_badd ?_); (refine At_add hF rfl rfl (by omega) ?_))) | with_reducible refine At_nil ?_)) | ((with_reducible refine is_At ?_); (first | with_reducible refine At_region ?_ | with_reducible refine At_skip ?_ | with_reducible refine At_then_n ?_ | with_reducible refine At_inb_n ?_ | with_reducible refine At_go (by assumption) ?_ | ((with_reducible refine is_cond ?_); (refine At_cond_f rfl ?_))))))
      refine At.sub (List.nil_sublist _) (hL (i + 1) _ hlt (by omega) ?_)
      (repeat (first | exact True.intro | (refine And.intro ?_ ?_; focus (show _ = (_ : Value); first | exact rfl | (refine Eq.trans (b := Value.int IntKind.i64 _) rfl (congrArg (Value.int IntKind.i64) ?_); omega)))))
    · rw [if_neg hm] at hmb
      rw [decide_eq_false hm]
      clear hm
      rw [hmb] at hcut
      (repeat ((with_reducible refine is_At ?_); (first | with_reducible refine At_seq ?_; intro K hK | with_reducible refine At_skip ?_ | with_reducible refine At_then_n ?_ | with_reducible refine At_go (by assumption) ?_ | ((with_reducible refine is_cond ?_); (refine At_cond_f rfl ?_)))))
      refine At_draw hF 16 (by kernel_rfl) (by decide +kernel) ?_; simp only [List.take_succ_cons, List.take_zero, List.drop_succ_cons, List.drop_zero]; (repeat ((with_reducible refine is_AQc ?_); refine AQ_cons (by intro K Q hK; (repeat (first | ((with_reducible refine is_move ?_); (refine At_plain hF (by (first | exact (rfl : _ = some (Value.int _ _)) | exact (rfl : _ = some (Value.slice _ _ _)))) ?_)) | ((with_reducible refine is_index ?_); (refine At_indexC1 hF rfl (by assumption) rfl rfl (by omega) ?_)))); exact At_nilK hK) ?_))
      refine AQ_cons (by intro K Q hK; refine At_loadC hF (by exact rfl) hc5 ?_; exact At_nilK hK) ?_
      (repeat ((with_reducible refine is_AQc ?_); refine AQ_cons (by intro K Q hK; (repeat (first | ((with_reducible refine is_move ?_); (refine At_plain hF (by (first | exact (rfl : _ = some (Value.int _ _)) | exact (rfl : _ = some (Value.slice _ _ _)))) ?_)) | ((with_reducible refine is_index ?_); (refine At_indexC1 hF rfl (by assumption) rfl rfl (by omega) ?_)))); exact At_nilK hK) ?_))
      refine AQ_cons (by intro K Q hK; refine At_loadC hF (by exact rfl) hc6 ?_; exact At_nilK hK) ?_
      (repeat ((with_reducible refine is_AQc ?_); refine AQ_cons (by intro K Q hK; (repeat (first | ((with_reducible refine is_move ?_); (refine At_plain hF (by (first | exact (rfl : _ = some (Value.int _ _)) | exact (rfl : _ = some (Value.slice _ _ _)))) ?_)) | ((with_reducible refine is_index ?_); (refine At_indexC1 hF rfl (by assumption) rfl rfl (by omega) ?_)))); exact At_nilK hK) ?_))
      refine AQ_cons (by intro K Q hK; refine At_loadC hF (by exact rfl) hc7 ?_; exact At_nilK hK) ?_
      (repeat ((with_reducible refine is_AQc ?_); refine AQ_cons (by intro K Q hK; (repeat (first | ((with_reducible refine is_move ?_); (refine At_plain hF (by (exact (rfl : _ = some (Value.int _ _)))) ?_)) | ((with_reducible refine is_bin ?_); (first | ((with_reducible refine is_badd ?_); (refine At_add hF rfl rfl (by omega) ?_)) | refine At_plain hF (by (exact (rfl : _ = some (Value.bool _)))) ?_)))); exact At_nilK hK) ?_)); refine AQ_done ?_
      rw [show (y5 != y6 + y7 + 0) = false from bne_eq_false_iff_eq.2 (by omega)]
      (repeat (first | ((with_reducible refine is_AL ?_); (first | ((with_reducible refine is_move ?_); (refine At_plain hF (by (exact (rfl : _ = some (Value.int _ _)))) ?_)) | ((with_reducible refine is_bin ?_); ((with_reducible refine is_badd ?_); (refine At_add hF rfl rfl (by omega) ?_))) | with_reducible refine At_nil ?_)) | ((with_reducible refine is_At ?_); (first | with_reducible refine At_region ?_ | with_reducible refine At_skip ?_ | with_reducible refine At_then_n ?_ | with_reducible refine At_inb_n ?_ | with_reducible refine At_go (by assumption) ?_ | ((with_reducible refine is_cond ?_); (refine At_cond_f rfl ?_))))))
      refine At.sub (List.nil_sublist _) (hL (i + 1) _ hlt (by omega) ?_)
      (repeat (first | exact True.intro | (refine And.intro ?_ ?_; focus (show _ = (_ : Value); first | exact rfl | (refine Eq.trans (b := Value.int IntKind.i64 _) rfl (congrArg (Value.int IntKind.i64) ?_); omega)))))
  obtain rfl : i = p.length := by omega
  (repeat (first | ((with_reducible refine is_AL ?_); (first | ((with_reducible refine is_assign ?_); (refine At_plain hF (by (exact (rfl : _ = some (Value.bool _)))) ?_)) | with_reducible refine At_nil ?_)) | ((with_reducible refine is_At ?_); (first | with_reducible refine At_seq ?_; intro K hK | with_reducible refine At_region ?_ | with_reducible refine At_ret ?_ | with_reducible refine At_exit ?_ | with_reducible refine At_then_n ?_ | with_reducible refine At_then_e ?_ | with_reducible refine At_inb_e rfl ?_ | with_reducible refine At_go (by assumption) ?_))))
  exact At_ret1 rfl (rv_tmp (by decide)) (fun w' hw' => ⟨_, rfl, rfl, (hb1.trans (hB3.mono hb1.size)).trans (Below.mono hw'.below (Nat.le_trans hb1.size hB3.size))⟩)
theorem u8_inc {a : Int} (h : (Lit.int .u8 a).wf = true) : 0 ≤ a ∧ a ≤ 255 := by
  simp only [Lit.wf, Bool.and_eq_true, decide_eq_true_eq] at h
  exact h
theorem law_PatternsCut.calls (A : Option Addr) (c : Nat) (p : List (List Int)) (a : Int) (r : Bool) (w : World) (hr : Kd.C KL w A p.length p) (hc : p.length ≤ c) (h : r = true ∧ (Lit.int .u8 a).wf = true) :
    Calls Try.prog 8 #[.slice A p.length c, .int .u8 a] w fun e w' => e = .returned (.bool r) ∧ Below w.heap.size w w' := by
  obtain ⟨rfl, ha⟩ := h
  exact (cut_law A c p a w hr hc (u8_inc ha)).mono (by rintro e w' ⟨u, rfl, rfl, hb⟩; exact ⟨rfl, hb⟩)
end Go.Proofs.Ytecgklfcblpkdaa.P
