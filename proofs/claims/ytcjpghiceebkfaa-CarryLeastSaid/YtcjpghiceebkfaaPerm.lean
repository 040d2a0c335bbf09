import Derived.Test.YtcjpghiceebkfaaP4
import Derived.Test.YtcjpghiceebkfaaGLoads
import Derived.Test.YtcjpghiceebkfaaXB
/- fastiref22.Right, plain: it is what foes accepts. -/
namespace Go.Proofs.Ytcjpghiceebkfaa.P
open Go.RowKit Go.Proofs.YtcjpghiceebkfaaW.PrintWords Go.Proofs.YtcjpghiceebkfaaW.PrintLast Go.Proofs.YtcjpghiceebkfaaW.PrintMore
open XW
set_option linter.unusedSimpArgs false
set_option linter.unusedVariables false
theorem w64 {x : Int} (h : -9223372036854775808 ≤ x ∧ x ≤ 9223372036854775807) : wrap64 x = x := by unfold wrap64; omega
def bix (n : Nat) (r t : Int) : Int := r * n + t
theorem bix_bd {n : Nat} (hn : n ≤ 20) {r t : Int} (hr : 0 ≤ r ∧ r ≤ 63) (ht : 0 ≤ t ∧ t < n) : 0 ≤ bix n r t ∧ bix n r t < 64 * n ∧ bix n r t ≤ 1280 ∧ 0 ≤ r * n ∧ r * n ≤ 1260 := by
 have h1 := Int.mul_nonneg hr.1 (by omega : (0 : Int) ≤ n)
 have h2 := Int.mul_le_mul_of_nonneg_right hr.2 (by omega : (0 : Int) ≤ n)
 unfold bix; omega
theorem bix_inj {n : Nat} {r t r' t' : Int} (ht : 0 ≤ t ∧ t < n) (ht' : 0 ≤ t' ∧ t' < n) (h : bix n r t = bix n r' t') : r = r' ∧ t = t' := by
 unfold bix at h
 have hn : (n : Int) ≠ 0 := by omega
 have h1 : (r * n + t) / n = r := by rw [Int.add_comm, Int.add_mul_ediv_right _ _ hn, Int.ediv_eq_zero_of_lt ht.1 ht.2]; omega
 have h2 : (r' * n + t') / n = r' := by rw [Int.add_comm, Int.add_mul_ediv_right _ _ hn, Int.ediv_eq_zero_of_lt ht'.1 ht'.2]; omega
 have : r = r' := by rw [← h1, h, h2]
 subst this
 exact ⟨rfl, by omega⟩
structure Busy (n : Nat) (l : List Bool) (es : Ent) : Prop where
 len : l.length = 64 * n
 at_ : ∀ r t : Int, 0 ≤ r ∧ r ≤ 63 → 0 ≤ t ∧ t < n → l.getD (bix n r t).toNat false = (mget es (t, r)).isSome
theorem Busy.new (n : Nat) : Busy n (List.replicate (64 * n) false) [] := ⟨by simp, fun r t hr ht => by
 simp only [mget]
 rw [List.getD_eq_getElem?_getD, List.getElem?_replicate]; split <;> rfl⟩
theorem Busy.put {n : Nat} (hn : n ≤ 20) {l : List Bool} {es : Ent} (h : Busy n l es) {r t : Int} (hr : 0 ≤ r ∧ r ≤ 63) (ht : 0 ≤ t ∧ t < n) (v : Int) : Busy n (l.set (bix n r t).toNat true) (mput es (t, r) v) := by
 refine ⟨by rw [List.length_set]; exact h.len, fun r' t' hr' ht' => ?_⟩
 have hb := bix_bd hn hr ht
 have hb' := bix_bd hn hr' ht'
 rw [List.getD_eq_getElem?_getD, List.getElem?_set]
 by_cases e : (t', r') = (t, r)
 ·cases e
  rw [if_pos rfl, if_pos (by rw [h.len]; omega), mget_mput_same]; rfl
 ·have hne : (bix n r t).toNat ≠ (bix n r' t').toNat := fun e2 => by
   have := bix_inj ht ht' (by omega : bix n r t = bix n r' t')
   exact e (by rw [this.1, this.2])
  rw [if_neg hne, mget_mput_ne _ _ e, ← List.getD_eq_getElem?_getD]
  exact h.at_ r' t' hr' ht'
theorem drop_cons45 {m : List S45} {i : Nat} (h : i < m.length) : m.drop i = m.getD i z45 :: m.drop (i + 1) := by
 rw [List.drop_eq_getElem_cons h, List.getD_eq_getElem?_getD, List.getElem?_eq_getElem h]; rfl
theorem right_l0 (n : Nat) (hn : n ≤ 20) (m : List S45) (hm : m.length ≤ 1280) : ∀ (d k i : Nat) (l : List Bool) (es : Ent) (r : Int), m.length - i ≤ d → 2 * d + 1 ≤ k → i ≤ m.length → Busy n l es →
  fastiref22_Right.l0 k n m l i = some ((m.drop i).foldl (foeStep n) (some (es, r))).isSome := by
 intro d
 induction d with
 | zero =>
  intro k i l es r hd hk hi hb
  obtain ⟨k, rfl⟩ : ∃ k', k = k' + 1 := ⟨k - 1, by omega⟩
  have : i = m.length := by omega
  subst this
  rw [fastiref22_Right.l0, if_neg (by omega), List.drop_length]; rfl
 | succ d ih =>
  intro k i l es r hd hk hi hb
  obtain ⟨k, rfl⟩ : ∃ k', k = k' + 1 + 1 := ⟨k - 2, by omega⟩
  rw [fastiref22_Right.l0]
  by_cases hlt : i < m.length
  ·rw [if_pos (by omega), if_pos (by omega), drop_cons45 hlt, List.foldl_cons]
   have hrd : rd_T45 m i = m.getD i z45 := by rw [rd_T45, Int.toNat_natCast]
   rw [hrd]
   generalize m.getD i z45 = x
   by_cases hbad : bad n x
   ·have h0 : foeStep n (some (es, r)) x = none := by simp only [foeStep, Option.bind_some]; rw [if_pos hbad]
    rw [h0, fold_none]
    unfold bad at hbad
    have hj : ∀ b : Bool, b = true → fastiref22_Right.j2 (k + 1) n m l i b x.f0 x.f1 x.f2 = some false := fun b hb => by rw [fastiref22_Right.j2, if_pos hb]
    have hje : x.f1 = x.f2 → fastiref22_Right.j2 (k + 1) n m l i (x.f1 == x.f2) x.f0 x.f1 x.f2 = some false := fun e => hj _ (by simp [e])
    by_cases c1 : x.f0 < 0
    ·rw [if_pos c1, hj _ rfl]; rfl
    rw [if_neg c1]
    by_cases c2 : x.f0 > 63
    ·rw [if_pos c2, hj _ rfl]; rfl
    rw [if_neg c2]
    by_cases c3 : x.f1 < 0
    ·rw [if_pos c3, hj _ rfl]; rfl
    rw [if_neg c3]
    by_cases c4 : x.f1 ≥ n
    ·rw [if_pos c4, hj _ rfl]; rfl
    rw [if_neg c4]
    by_cases c5 : x.f2 < 0
    ·rw [if_pos c5, hj _ rfl]; rfl
    rw [if_neg c5]
    by_cases c6 : x.f2 ≥ n
    ·rw [if_pos c6, hj _ rfl]; rfl
    rw [if_neg c6, hje (by omega)]; rfl
   ·have hnb := hbad
    unfold bad at hbad
    rw [if_neg (by omega), if_neg (by omega), if_neg (by omega), if_neg (by omega), if_neg (by omega), if_neg (by omega)]
    have hne : x.f1 ≠ x.f2 := by omega
    have hr : 0 ≤ x.f0 ∧ x.f0 ≤ 63 := by omega
    have h1 : 0 ≤ x.f1 ∧ x.f1 < n := by omega
    have h2 : 0 ≤ x.f2 ∧ x.f2 < n := by omega
    have b1 := bix_bd hn hr h1
    have b2 := bix_bd hn hr h2
    have w1 : wrap64 (wrap64 (x.f0 * n) + x.f1) = bix n x.f0 x.f1 := by rw [w64 (x := x.f0 * n) (by omega)]; exact w64 (by unfold bix at b1; omega)
    have w2 : wrap64 (wrap64 (x.f0 * n) + x.f2) = bix n x.f0 x.f2 := by rw [w64 (x := x.f0 * n) (by omega)]; exact w64 (by unfold bix at b2; omega)
    have hl := hb.len
    rw [fastiref22_Right.j2, if_neg (by simp [hne]), w1, w2, if_pos b1.1, if_pos (by omega), rdOf, rdOf, hb.at_ _ _ hr h1, hb.at_ _ _ hr h2]
    by_cases c1 : (mget es (x.f1, x.f0)).isSome
    ·rw [if_pos c1]
     have h0 : foeStep n (some (es, r)) x = none := by simp only [foeStep, Option.bind_some]; rw [if_neg hnb, if_pos c1]
     rw [h0, fold_none]; rfl
    rw [if_neg c1, if_pos b2.1, if_pos (by omega)]
    have hg2 : mget (mput es (x.f1, x.f0) x.f2) (x.f2, x.f0) = mget es (x.f2, x.f0) := mget_mput_ne _ _ (fun e => hne (congrArg Prod.fst e).symm)
    by_cases c2 : (mget es (x.f2, x.f0)).isSome
    ·rw [if_pos c2]
     have h0 : foeStep n (some (es, r)) x = none := by simp only [foeStep, Option.bind_some]; rw [if_neg hnb, if_neg c1, hg2, if_pos c2]
     rw [h0, fold_none]; rfl
    rw [if_neg c2]
    have h0 : foeStep n (some (es, r)) x = some (mput (mput es (x.f1, x.f0) x.f2) (x.f2, x.f0) x.f1, max r (x.f0 + 1)) := by simp only [foeStep, Option.bind_some]; rw [if_neg hnb, if_neg c1, hg2, if_neg c2]
    rw [h0, w64 (by omega)]
    have := ih k (i + 1) ((l.set (bix n x.f0 x.f1).toNat true).set (bix n x.f0 x.f2).toNat true) (mput (mput es (x.f1, x.f0) x.f2) (x.f2, x.f0) x.f1) (max r (x.f0 + 1)) (by omega) (by omega) hlt ((hb.put hn hr h1 _).put hn hr h2 _)
    rw [Int.natCast_add] at this
    exact this
  ·have : i = m.length := by omega
   subst this
   rw [if_neg (by omega), List.drop_length]; rfl
def rightB (n : Int) (m : List S45) : Bool := decide (m.length ≤ 1280) && (foesF n m).isSome
theorem right_f (n : Int) (m : List S45) (k : Nat) (hk : 2 * m.length + 2 ≤ k) : fastiref22_Right.f k n m = some (rightB n m) := by
 obtain ⟨k, rfl⟩ : ∃ k', k = k' + 1 := ⟨k - 1, by omega⟩
 have hj : fastiref22_Right.j0 (k + 1) n m true = some false := by rw [fastiref22_Right.j0, if_pos rfl]
 rw [fastiref22_Right.f]
 by_cases h1 : n < 2
 ·rw [if_pos h1, hj, rightB, foesF, if_pos (.inl h1)]; simp
 rw [if_neg h1]
 by_cases h2 : n > 20
 ·rw [if_pos h2, hj, rightB, foesF, if_pos (.inr h2)]; simp
 rw [if_neg h2]
 by_cases h3 : (m.length : Int) > 1280
 ·rw [decide_eq_true h3, hj, rightB, decide_eq_false (by omega)]; rfl
 rw [decide_eq_false h3, fastiref22_Right.j0, if_neg (by decide)]
 obtain ⟨N, rfl⟩ : ∃ N : Nat, n = N := ⟨n.toNat, by omega⟩
 have hw : wrap64 (64 * (N : Int)) = ((64 * N : Nat) : Int) := by rw [w64 (by omega)]; omega
 rw [hw, if_pos (by omega), Int.toNat_natCast, if_pos (by omega)]
 have := right_l0 N (by omega) m (by omega) m.length k 0 _ [] 0 (by omega) (by omega) (by omega) (Busy.new N)
 rw [rightB, decide_eq_true (by omega), foesF, if_neg (by omega)]
 exact this
end Go.Proofs.Ytcjpghiceebkfaa.P

/- fastiref22.Rounds and Foes: the walks. -/
namespace Go.Proofs.Ytcjpghiceebkfaa.P
open Go.RowKit Go.Proofs.YtcjpghiceebkfaaW.PrintWords Go.Proofs.YtcjpghiceebkfaaW.PrintLast Go.Proofs.YtcjpghiceebkfaaW.PrintMore
open XW RegInv
attribute [local irreducible] Addr.add
set_option linter.unusedSimpArgs false
set_option linter.unusedVariables false
theorem C45 {w : World} {A : Option Addr} {n : Nat} {m : List S45} (h : Kd.C k45 w A n m) (k : Nat) (hk : k < n) :
  ∃ ad, A = some ad ∧ w.cell? (ad.add (k * 3 + 0)) = some (.int .i64 (m.getD k z45).f0) ∧ w.cell? (ad.add (k * 3 + 1)) = some (.int .i64 (m.getD k z45).f1) ∧ w.cell? (ad.add (k * 3 + 2)) = some (.int .i64 (m.getD k z45).f2) := by
 obtain ⟨ad, hA, hc⟩ := C_flat (enc := enc45) (fun h => k45_open h) h z45 k hk
 refine ⟨ad, hA, ?_, ?_, ?_⟩
 ·rw [← addr_add_add]; exact hc 0 _ rfl
 ·rw [← addr_add_add]; exact hc 1 _ rfl
 ·rw [← addr_add_add]; exact hc 2 _ rfl
def rndF (s : Int) (x : S45) : Int := max s (x.f0 + 1)
def roundsF (m : List S45) : Int := m.foldl rndF 0
theorem getD45 {m : List S45} {k : Nat} (h : k < m.length) : m.getD k z45 ∈ m := getD_mem' h
theorem rnd_bd (m : List S45) (h : ∀ x ∈ m, 0 ≤ x.f0 ∧ x.f0 ≤ 63) : ∀ s : Int, 0 ≤ s → s ≤ 64 → 0 ≤ m.foldl rndF s ∧ m.foldl rndF s ≤ 64 ∧ s ≤ m.foldl rndF s ∧ ∀ x ∈ m, x.f0 < m.foldl rndF s := by
 induction m with
 | nil => intro s h1 h2; exact ⟨h1, h2, Int.le_refl _, fun x h => by cases h⟩
 | cons x m ih =>
  intro s h1 h2
  have hx := h x (by simp)
  have hi := ih (fun y hy => h y (by simp [hy])) (rndF s x) (by unfold rndF; omega) (by unfold rndF; omega)
  rw [List.foldl_cons]
  refine ⟨hi.1, hi.2.1, ?_, fun y hy => ?_⟩
  ·have := hi.2.2.1; unfold rndF at this; unfold rndF; omega
  ·rcases List.mem_cons.1 hy with rfl | hy
   ·have := hi.2.2.1; unfold rndF at this; unfold rndF; omega
   ·exact hi.2.2.2 y hy
theorem rounds_rets {base w : World} {R : List Res} (hw : Mem base w R) (A : Option Addr) (c : Nat) (m : List S45) (hr : Kd.C k45 w A m.length m) (hc : m.length ≤ c) (hm : ∀ x ∈ m, 0 ≤ x.f0 ∧ x.f0 ≤ 63) :
  Rets Try.prog 25 #[.slice A m.length c] w fun u w' => u = .int .i64 (roundsF m) ∧ Below w.heap.size w w' := by
 have hF := wide_wide
 have hmx := hr.2.1
 refine rets_at (n := 20) Try.func25 rfl Try.ntmps25 (by simp) ?_
 (repeat (first | ((with_reducible refine is_AL ?_); (first | ((with_reducible refine is_assign ?_); (refine At_plain hF (by (exact (rfl : _ = some (Value.int _ _)))) ?_)) | with_reducible refine At_nil ?_)) | ((with_reducible refine is_At ?_); (first | with_reducible refine At_seq ?_; intro K hK | with_reducible refine At_block ?_ | with_reducible refine At_region ?_ | with_reducible refine At_then_n ?_ | with_reducible refine At_go (by assumption) ?_))))
 refine At_loop (fun st : Nat × Int => [(0, .slice A m.length c), (3, .int .i64 st.2), (4, .int .i64 st.1)]) (fun _ => []) (fun st => st.1 ≤ m.length ∧ st.2 = (m.take st.1).foldl rndF 0) (fun st => m.length - st.1) (0, 0) ?_ ?_ ⟨Nat.zero_le _, rfl⟩ ?_
 ·(repeat (first | exact List.Sublist.refl _ | exact List.Sublist.slnil | refine List.Sublist.cons_cons _ ?_ | refine List.Sublist.cons _ ?_))
 ·(repeat (first | exact True.intro | (refine And.intro ?_ ?_; focus (show _ = (_ : Value); first | exact rfl | (refine Eq.trans (b := Value.int IntKind.i64 _) rfl (congrArg (Value.int IntKind.i64) ?_); omega)))))
 rintro ⟨k, s⟩ ⟨hk, hs⟩ K hL ρ0
 simp only at hk hs
 try dsimp only
 (repeat (first | ((with_reducible refine is_AL ?_); (first | ((with_reducible refine is_move ?_); (refine At_plain hF (by (first | exact (rfl : _ = some (Value.int _ _)) | exact (rfl : _ = some (Value.slice _ _ _)))) ?_)) | ((with_reducible refine is_bin ?_); (refine At_plain hF (by (exact (rfl : _ = some (Value.bool _)))) ?_)) | ((with_reducible refine is_call ?_); (refine At_len hF rfl ?_)) | with_reducible refine At_nil ?_)) | ((with_reducible refine is_At ?_); (first | with_reducible refine At_seq ?_; intro K hK | with_reducible refine At_region ?_ | with_reducible refine At_then_n ?_ | with_reducible refine At_go (by assumption) ?_))))
 ((with_reducible refine is_cond ?_); (refine At_cond rfl ?_ ?_ <;> (intro hg; try (simp only [decide_eq_true_eq, decide_eq_false_iff_not, beq_iff_eq, bne_iff_ne, beq_eq_false_iff_ne, bne_eq_false_iff_eq, ne_eq, Bool.not_eq_true', Bool.not_eq_false', Bool.not_true, Bool.not_false, Decidable.not_not] at hg); try (exfalso; first | omega | exact hg True.intro))))
 ·have hlt : k < m.length := by omega
  obtain ⟨ad, hA, h0, h1, h2⟩ := C45 hr k hlt
  have hx := hm _ (getD45 hlt)
  (repeat (first | ((with_reducible refine is_AL ?_); (first | ((with_reducible refine is_move ?_); (refine At_plain hF (by (first | exact (rfl : _ = some (Value.int _ _)) | exact (rfl : _ = some (Value.slice _ _ _)))) ?_)) | ((with_reducible refine is_field ?_); (refine At_fieldC hF rfl ?_)) | ((with_reducible refine is_index ?_); (refine At_indexC hF rfl (by assumption) rfl (by omega) ?_)))) | ((with_reducible refine is_At ?_); (first | with_reducible refine At_seq ?_; intro K hK | with_reducible refine At_block ?_ | with_reducible refine At_region ?_ | with_reducible refine At_skip ?_ | with_reducible refine At_then_n ?_ | with_reducible refine At_go (by assumption) ?_))))
  refine At_loadC hF (by exact rfl) h0 ?_
  (repeat (first | ((with_reducible refine is_AL ?_); (first | ((with_reducible refine is_move ?_); (refine At_plain hF (by (exact (rfl : _ = some (Value.int _ _)))) ?_)) | ((with_reducible refine is_bin ?_); ((with_reducible refine is_badd ?_); (refine At_add hF rfl rfl (by omega) ?_))) | ((with_reducible refine is_assign ?_); (refine At_plain hF (by (exact (rfl : _ = some (Value.int _ _)))) ?_)) | ((with_reducible refine is_call ?_); (refine At_max hF rfl rfl ?_)) | with_reducible refine At_nil ?_)) | ((with_reducible refine is_At ?_); (first | with_reducible refine At_region ?_ | with_reducible refine At_then_n ?_ | with_reducible refine At_inb_n ?_ | with_reducible refine At_go (by assumption) ?_))))
  refine At.sub ?_ (hL (k + 1, max s ((m.getD k z45).f0 + 1)) _ ⟨hlt, by rw [take_snoc45 m k hlt, List.foldl_append, ← hs]; rfl⟩ (by simp only; omega) ?_)
  ·(repeat (first | exact List.Sublist.refl _ | exact List.Sublist.slnil | refine List.Sublist.cons_cons _ ?_ | refine List.Sublist.cons _ ?_))
  ·(repeat (first | exact True.intro | (refine And.intro ?_ ?_; focus (show _ = (_ : Value); first | exact rfl | (refine Eq.trans (b := Value.int IntKind.i64 _) rfl (congrArg (Value.int IntKind.i64) ?_); omega)))))
 ·obtain rfl : k = m.length := by omega
  (repeat (first | ((with_reducible refine is_AL ?_); (first | ((with_reducible refine is_move ?_); (refine At_plain hF (by (exact (rfl : _ = some (Value.int _ _)))) ?_)) | ((with_reducible refine is_assign ?_); (refine At_plain hF (by (exact (rfl : _ = some (Value.int _ _)))) ?_)) | with_reducible refine At_nil ?_)) | ((with_reducible refine is_At ?_); (first | with_reducible refine At_seq ?_; intro K hK | with_reducible refine At_region ?_ | with_reducible refine At_ret ?_ | with_reducible refine At_exit ?_ | with_reducible refine At_then_n ?_ | with_reducible refine At_then_e ?_ | with_reducible refine At_inb_e rfl ?_ | with_reducible refine At_go (by assumption) ?_))))
  refine At_ret1 rfl (rv_tmp (by decide)) (fun w' hw' => ⟨_, rfl, ?_, hw'.below⟩)
  rw [roundsF, ← List.take_length (l := m), ← hs]; rfl
def setFoe (M : List (List Int)) (x : S45) : List (List Int) :=
 let M1 := M.set x.f0.toNat ((M.getD x.f0.toNat []).set x.f1.toNat x.f2)
 M1.set x.f0.toNat ((M1.getD x.f0.toNat []).set x.f2.toNat x.f1)
def F0 (R N : Nat) : List (List Int) := List.replicate R (List.replicate N (-1))
def foesM (N : Nat) (m : List S45) : List (List Int) := m.foldl setFoe (F0 (roundsF m).toNat N)
structure Fine (N : Nat) (m : List S45) : Prop where
 n2 : 2 ≤ N
 n20 : N ≤ 20
 ok : ∀ x ∈ m, (0 ≤ x.f0 ∧ x.f0 ≤ 63) ∧ (0 ≤ x.f1 ∧ x.f1 < N) ∧ 0 ≤ x.f2 ∧ x.f2 < N
def Rect (R N : Nat) (M : List (List Int)) : Prop := M.length = R ∧ ∀ row ∈ M, row.length = N
theorem Rect.get {R N : Nat} {M : List (List Int)} (h : Rect R N M) {r : Nat} (hr : r < R) : (M.getD r []).length = N := h.2 _ (getD_mem' (by rw [h.1]; exact hr))
theorem Rect.set {R N : Nat} {M : List (List Int)} (h : Rect R N M) {r : Nat} {row : List Int} (hl : row.length = N) : Rect R N (M.set r row) := ⟨by rw [List.length_set]; exact h.1, fun row' hm => by
 rcases List.mem_or_eq_of_mem_set hm with hm | rfl
 ·exact h.2 _ hm
 ·exact hl⟩
theorem Rect.rep (R N : Nat) : Rect R N (F0 R N) := ⟨by simp [F0], fun row h => by rw [F0, List.mem_replicate] at h; rw [h.2]; simp⟩
theorem At_rowSome {base : World} {R : List Res} {Φ : World → Prop} {α : Type} {e sz : Nat} {enc : α → List Value} {A : Option Nat} {c : Nat} {l : List α} (i : Nat) (hi : R[i]? = some (.row e sz enc A c l)) (h0 : 0 < l.length) (h : ∀ b, A = some b → At base R Φ) : At base R Φ := fun w hw => by
 obtain ⟨b, junk, h1, _⟩ := hw.open i hi h0
 exact h b h1 w hw
end Go.Proofs.Ytcjpghiceebkfaa.P

/- fastiref22.Matrix: the walk. -/
namespace Go.Proofs.Ytcjpghiceebkfaa.P
open Go.RowKit Go.Proofs.YtcjpghiceebkfaaW.PrintWords Go.Proofs.YtcjpghiceebkfaaW.PrintLast Go.Proofs.YtcjpghiceebkfaaW.PrintMore
open XW RegInv
attribute [local irreducible] Addr.add
set_option linter.unusedSimpArgs false
set_option linter.unusedVariables false
def Vals (N : Nat) (M : List (List Int)) : Prop := ∀ row ∈ M, ∀ x ∈ row, -1 ≤ x ∧ x < N
theorem Vals.set {N : Nat} {M : List (List Int)} (h : Vals N M) {r j : Nat} {v : Int} (hv : 0 ≤ v ∧ v < N) : Vals N (M.set r ((M.getD r []).set j v)) := fun row hm x hx => by
 rcases List.mem_or_eq_of_mem_set hm with hm | rfl
 ·exact h _ hm x hx
 ·rcases List.mem_or_eq_of_mem_set hx with hx | rfl
  ·rw [List.getD_eq_getElem?_getD] at hx
   cases hr : M[r]? with
   | none => rw [hr] at hx; simp at hx
   | some row => rw [hr] at hx; exact h row (List.mem_of_getElem? hr) x hx
  ·omega
end Go.Proofs.Ytcjpghiceebkfaa.P

/- fastiref22.Foes and Matrix: the contracts. -/
namespace Go.Proofs.Ytcjpghiceebkfaa.P
open Go.RowKit Go.Proofs.YtcjpghiceebkfaaW.PrintWords Go.Proofs.YtcjpghiceebkfaaW.PrintLast Go.Proofs.YtcjpghiceebkfaaW.PrintMore
open XW RegInv
set_option linter.unusedSimpArgs false
set_option linter.unusedVariables false
theorem not_bad {n : Int} : ∀ (m : List S45) (s : Option (Ent × Int)), (m.foldl (foeStep n) s).isSome → ∀ x ∈ m, ¬ bad n x
 | [], _, _, x, h => by cases h
 | y :: m, s, hs, x, h => by
  rw [List.foldl_cons] at hs
  rcases List.mem_cons.1 h with rfl | h
  ·intro hb
   cases s with
   | none => rw [show foeStep n none x = none from rfl, fold_none] at hs; cases hs
   | some s =>
    have : foeStep n (some s) x = none := by simp only [foeStep, Option.bind_some]; rw [if_pos hb]
    rw [this, fold_none] at hs; cases hs
  ·exact not_bad m _ hs x h
end Go.Proofs.Ytcjpghiceebkfaa.P

/- The reference's pairs are the program's: plain. -/
namespace Go.Proofs.Ytcjpghiceebkfaa.P
open Go.RowKit
open XW
set_option linter.unusedSimpArgs false
set_option linter.unusedVariables false
structure Same (N R : Nat) (es : Ent) (M : List (List Int)) : Prop where
 nodup : (es.map (·.1)).Nodup
 key : ∀ e ∈ es, (0 ≤ e.1.1 ∧ e.1.1 < N) ∧ (0 ≤ e.1.2 ∧ e.1.2 < R) ∧ 0 ≤ e.2
 rect : Rect R N M
 cell : ∀ r t : Nat, r < R → t < N → (M.getD r []).getD t default = (mget es ((t : Int), (r : Int))).getD (-1)
theorem get_set2 {M : List (List Int)} {R N : Nat} (h : Rect R N M) {r0 j r t : Nat} {v : Int} (h0 : r0 < R) (hj : j < N) (hr : r < R) (ht : t < N) :
  ((M.set r0 ((M.getD r0 []).set j v)).getD r []).getD t default = if r = r0 ∧ t = j then v else (M.getD r []).getD t default := by
 have hl := h.get h0
 have hM := h.1
 by_cases e : r = r0
 ·subst e
  rw [List.getD_eq_getElem?_getD (l := M.set _ _), List.getElem?_set_self (by omega), Option.getD_some]
  by_cases e2 : t = j
  ·subst e2
   rw [if_pos ⟨rfl, rfl⟩, List.getD_eq_getElem?_getD, List.getElem?_set_self (by omega), Option.getD_some]
  ·rw [if_neg (fun h => e2 h.2), List.getD_eq_getElem?_getD, List.getElem?_set_ne (fun h => e2 h.symm), ← List.getD_eq_getElem?_getD]
 ·rw [if_neg (fun h => e h.1), List.getD_eq_getElem?_getD (l := M.set _ _), List.getElem?_set_ne (fun h => e h.symm), ← List.getD_eq_getElem?_getD]
theorem Same.put {N R : Nat} {es : Ent} {M : List (List Int)} (h : Same N R es M) {t r v : Int} (ht : 0 ≤ t ∧ t < N) (hr : 0 ≤ r ∧ r < R) (hv : 0 ≤ v) (hn : (mget es (t, r)).isSome = false) :
  Same N R (mput es (t, r) v) (M.set r.toNat ((M.getD r.toNat []).set t.toNat v)) := by
 have hn' : mget es (t, r) = none := by simpa using hn
 have hput := mput_new v hn'
 refine ⟨?_, ?_, h.rect.set (by rw [List.length_set]; exact h.rect.get (by omega)), ?_⟩
 ·rw [hput, List.map_append, List.map_singleton, List.nodup_append]
  refine ⟨h.nodup, by simp, ?_⟩
  rintro a ha b hb rfl
  rw [List.mem_singleton] at hb
  subst hb
  exact (mget_none_iff es _).1 hn' ha
 ·intro e he
  rw [hput] at he
  rcases List.mem_append.1 he with he | he
  ·exact h.key e he
  ·rw [List.mem_singleton] at he
   subst he
   exact ⟨ht, hr, hv⟩
 ·intro r' t' hr' ht'
  rw [get_set2 h.rect (by omega) (by omega) hr' ht']
  by_cases e : r' = r.toNat ∧ t' = t.toNat
  ·rw [if_pos e]
   have e2 : (((t' : Int), (r' : Int)) : Int × Int) = (t, r) := by
    obtain ⟨rfl, rfl⟩ := e
    rw [Int.toNat_of_nonneg ht.1, Int.toNat_of_nonneg hr.1]
   rw [e2, mget_mput_same]; rfl
  ·rw [if_neg e, mget_mput_ne _ _ (fun e2 => e (by
    have h1 := congrArg Prod.fst e2
    have h2 := congrArg Prod.snd e2
    simp only at h1 h2
    omega))]
   exact h.cell r' t' hr' ht'
theorem same_fold (N R : Nat) : ∀ (m : List S45) (es : Ent) (r : Int) (M : List (List Int)), (∀ x ∈ m, x.f0 < R) → Same N R es M → ∀ es' r', m.foldl (foeStep N) (some (es, r)) = some (es', r') → Same N R es' (m.foldl setFoe M) ∧ r' = m.foldl rndF r
 | [], es, r, M, _, h, es', r', he => by cases he; exact ⟨h, rfl⟩
 | x :: m, es, r, M, hm, h, es', r', he => by
  rw [List.foldl_cons] at he
  have hx := hm x (by simp)
  simp only [foeStep, Option.bind_some] at he
  by_cases hb : bad N x
  ·rw [if_pos hb, fold_none] at he; cases he
  ·rw [if_neg hb] at he
   split at he
   ·rw [fold_none] at he; cases he
   ·rename_i n1
    split at he
    ·rw [fold_none] at he; cases he
    ·rename_i n2
     have hb' : ¬ (x.f0 < 0 ∨ x.f0 > 63 ∨ min x.f1 x.f2 < 0 ∨ max x.f1 x.f2 ≥ N ∨ min x.f1 x.f2 = max x.f1 x.f2) := hb
     have h1 := h.put (t := x.f1) (r := x.f0) (v := x.f2) (by omega) (by omega) (by omega) (by simpa using n1)
     have h2 := h1.put (t := x.f2) (r := x.f0) (v := x.f1) (by omega) (by omega) (by omega) (by simpa using n2)
     exact same_fold N R m _ _ _ (fun y hy => hm y (by simp [hy])) h2 es' r' he
theorem same_of {N : Nat} {m : List S45} {es : Ent} {r : Int} (h : foesF N m = some (es, r)) : Same N (roundsF m).toNat es (foesM N m) ∧ r = roundsF m := by
 have hs : (foesF N m).isSome := by rw [h]; rfl
 unfold foesF at h hs
 split at h
 ·cases h
 ·rename_i hn
  rw [if_neg hn] at hs
  have hnb := not_bad m _ hs
  have hrd := rnd_bd m (fun x hx => by have := hnb x hx; unfold bad at this; omega) 0 (by omega) (by omega)
  refine same_fold N (roundsF m).toNat m [] 0 _ (fun x hx => by have := hrd.2.2.2 x hx; unfold roundsF; omega) ⟨by simp, fun e he => (by cases he), Rect.rep _ _, fun r t hr ht => ?_⟩ es r h
  have e1 : (F0 (roundsF m).toNat N).getD r [] = List.replicate N (-1) := by rw [F0, List.getD_eq_getElem?_getD, List.getElem?_replicate, if_pos hr]; rfl
  rw [e1, List.getD_eq_getElem?_getD, List.getElem?_replicate, if_pos ht]; rfl
theorem mem_get {es : Ent} (hn : (es.map (·.1)).Nodup) {e : (Int × Int) × Int} (he : e ∈ es) : mget es e.1 = some e.2 := by
 induction es with
 | nil => cases he
 | cons p es ih =>
  obtain ⟨k, v⟩ := p
  rw [List.map_cons, List.nodup_cons] at hn
  simp only [mget]
  rcases List.mem_cons.1 he with rfl | he
  ·rw [if_pos rfl]
  ·rw [if_neg (fun e' => hn.1 (List.mem_map.2 ⟨e, he, e'.symm⟩))]
   exact ih hn.2 he
end Go.Proofs.Ytcjpghiceebkfaa.P
