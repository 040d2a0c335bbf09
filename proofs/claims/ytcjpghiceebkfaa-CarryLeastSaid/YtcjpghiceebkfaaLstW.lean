import Derived.Test.YtcjpghiceebkfaaRenW
import Derived.Test.YtcjpghiceebkfaaGLoads
import Derived.Test.YtcjpghiceebkfaaRRP
/- CarryLeast: the plain law. Each team's carry in a round robin: as many entries as places, so the sum of squares is at least their number. -/
namespace Go.Proofs.Ytcjpghiceebkfaa.P
open Go.RowKit Go.Proofs.YtcjpghiceebkfaaW.PrintWords Go.Proofs.YtcjpghiceebkfaaW.PrintLast Go.Proofs.YtcjpghiceebkfaaW.PrintMore
open XW
set_option linter.unusedSimpArgs false
set_option linter.unusedVariables false
def sumF (N : Nat) (f : Nat → Int) : Int := ((List.range N).map f).sum
theorem sumF_succ (N : Nat) (f : Nat → Int) : sumF (N + 1) f = sumF N f + f N := by simp [sumF, List.range_succ]
theorem sumF_add (N : Nat) (f g : Nat → Int) : sumF N (fun i => f i + g i) = sumF N f + sumF N g := by
  induction N with
  | zero => rfl
  | succ N ih => rw [sumF_succ, sumF_succ, sumF_succ, ih]; omega
theorem sumF_congr (N : Nat) {f g : Nat → Int} (h : ∀ i, i < N → f i = g i) : sumF N f = sumF N g := by
  induction N with
  | zero => rfl
  | succ N ih => rw [sumF_succ, sumF_succ, ih (fun i hi => h i (by omega)), h N (by omega)]
theorem sumF_zero (N : Nat) : sumF N (fun _ => 0) = 0 := by
  induction N with
  | zero => rfl
  | succ N ih => rw [sumF_succ, ih]; rfl
theorem sumF_ind (N k : Nat) (c : Int) (h : k < N) : sumF N (fun i => if i = k then c else 0) = c := by
  induction N with
  | zero => omega
  | succ N ih =>
    rw [sumF_succ]
    by_cases e : N = k
    · subst e
      rw [if_pos rfl, sumF_congr N (g := fun _ => 0) (fun i hi => if_neg (by omega)), sumF_zero]; omega
    · rw [if_neg e, ih (by omega)]; omega
def sumM (M : List (List Int)) : Int := (M.map List.sum).sum
theorem sumM_cnt (N : Nat) (xs : List (Int × Int)) : sumM (cntM N xs) = sumF N fun i => sumF N fun j => (xs.count ((i : Int), (j : Int)) : Int) := by
  simp only [sumM, cntM, sumF, List.map_map]
  rfl
theorem sum_cnt (N : Nat) : ∀ xs : List (Int × Int), (∀ x ∈ xs, (0 ≤ x.1 ∧ x.1 < N) ∧ 0 ≤ x.2 ∧ x.2 < N) → (sumF N fun i => sumF N fun j => (xs.count ((i : Int), (j : Int)) : Int)) = xs.length
  | [], _ => by
    have : (sumF N fun i => sumF N fun j => (([] : List (Int × Int)).count ((i : Int), (j : Int)) : Int)) = sumF N fun _ => 0 := sumF_congr N fun i _ => by
      rw [show (fun j : Nat => (([] : List (Int × Int)).count ((i : Int), (j : Int)) : Int)) = fun _ => 0 from funext fun j => by simp, sumF_zero]
    rw [this, sumF_zero]; rfl
  | x :: xs, h => by
    have ih := sum_cnt N xs fun y hy => h y (by simp [hy])
    have hx := h x (by simp)
    have e : ∀ i, i < N → (sumF N fun j => ((x :: xs).count ((i : Int), (j : Int)) : Int)) = (sumF N fun j => (xs.count ((i : Int), (j : Int)) : Int)) + if i = x.1.toNat then 1 else 0 := fun i hi => by
      have e2 : (sumF N fun j => ((x :: xs).count ((i : Int), (j : Int)) : Int)) = sumF N fun j => (xs.count ((i : Int), (j : Int)) : Int) + if j = x.2.toNat then (if i = x.1.toNat then 1 else 0) else 0 := sumF_congr N fun j hj => by
        rw [List.count_cons]
        by_cases e : x = ((i : Int), (j : Int))
        · have e1 : i = x.1.toNat := by rw [e]; simp
          have e2 : j = x.2.toNat := by rw [e]; simp
          rw [if_pos e2, if_pos e1, if_pos (by simpa using e)]; omega
        · rw [if_neg (by simpa using e)]
          have : ¬ (j = x.2.toNat ∧ i = x.1.toNat) := fun h2 => e (Prod.ext (by simp only; omega) (by simp only; omega))
          by_cases e2 : j = x.2.toNat
          · rw [if_pos e2, if_neg (fun e1 => this ⟨e2, e1⟩)]; omega
          · rw [if_neg e2]; omega
      rw [e2, sumF_add, sumF_ind N x.2.toNat _ (by omega)]
    rw [sumF_congr N e, sumF_add, ih, sumF_ind N x.1.toNat 1 (by omega), List.length_cons]; omega
theorem sq_ge (x : Int) (h : 0 ≤ x) : x ≤ x * x ∧ (x * x = x ↔ x ≤ 1) := by
  by_cases h2 : x ≤ 1
  · have : x = 0 ∨ x = 1 := by omega
    rcases this with rfl | rfl <;> simp
  · have : 2 * x ≤ x * x := Int.mul_le_mul_of_nonneg_right (by omega) h
    exact ⟨by omega, by omega⟩
theorem sqs_ge : ∀ l : List Int, (∀ x ∈ l, 0 ≤ x) → l.sum ≤ sqs l ∧ (sqs l = l.sum ↔ ∀ x ∈ l, x ≤ 1)
  | [], _ => by simp [sqs]
  | x :: l, h => by
    obtain ⟨h1, h2⟩ := sqs_ge l fun y hy => h y (by simp [hy])
    obtain ⟨h3, h4⟩ := sq_ge x (h x (by simp))
    have e : sqs (x :: l) = x * x + sqs l := rfl
    rw [e, List.sum_cons]
    refine ⟨by omega, ?_⟩
    rw [List.forall_mem_cons, ← h2, ← h4]
    omega
theorem sqsM_ge : ∀ M : List (List Int), (∀ row ∈ M, ∀ x ∈ row, 0 ≤ x) → sumM M ≤ sqsM M ∧ (sqsM M = sumM M ↔ ∀ row ∈ M, ∀ x ∈ row, x ≤ 1)
  | [], _ => by simp [sqsM, sumM]
  | r :: M, h => by
    obtain ⟨h1, h2⟩ := sqsM_ge M fun y hy => h y (by simp [hy])
    obtain ⟨h3, h4⟩ := sqs_ge r (h r (by simp))
    have e : sqsM (r :: M) = sqs r + sqsM M := rfl
    have e2 : sumM (r :: M) = r.sum + sumM M := rfl
    rw [e, e2]
    refine ⟨by omega, ?_⟩
    rw [List.forall_mem_cons, ← h2, ← h4]
    omega
theorem keys_slots (x : List S45) : keys (ents x) = (RB.slots x).map fun p => (p.2, p.1) := by
  induction x with
  | nil => rfl
  | cons y x ih =>
    have e1 : keys (ents (y :: x)) = (y.f1, y.f0) :: (y.f2, y.f0) :: keys (ents x) := rfl
    have e2 : RB.slots (y :: x) = (y.f0, y.f1) :: (y.f0, y.f2) :: RB.slots x := rfl
    rw [e1, e2, ih]; rfl
theorem lst_foes {N : Nat} (hn : 2 ≤ N ∧ N ≤ 20) {x : List S45} (h : RB.RR N (RB.rndsN N) 1 x) : foesF N x = some (ents x, roundsF x) := by
  refine foesF_make (by omega) (fun y hy => ?_) ?_
  · obtain ⟨h1, h2, h3, h4, h5⟩ := h.inX y hy
    have : RB.rndsQ (RB.rndsN N) 1 = RB.rndsN N := rfl
    rw [this, RB.rndsN] at h2
    unfold bad; omega
  · rw [keys_slots]
    exact nodup_map_on (fun a _ b _ e => by simp only [Prod.mk.injEq] at e; exact Prod.ext e.2 e.1) h.slt
theorem lst_len {N : Nat} (hn : 2 ≤ N ∧ N ≤ 20) {x : List S45} (h : RB.RR N (RB.rndsN N) 1 x) : x.length = N * (N - 1) / 2 := by
  have := RB.rr_len (by unfold RB.rndsN; omega) (by decide) h
  rwa [if_pos rfl] at this
theorem key_rng {N : Nat} {x : List S45} (h : RB.RR N (RB.rndsN N) 1 x) {e : (Int × Int) × Int} (he : e ∈ ents x) : (0 ≤ e.1.1 ∧ e.1.1 < N) ∧ (0 ≤ e.1.2 ∧ e.1.2 < (RB.rndsN N : Nat)) ∧ 0 ≤ e.2 ∧ e.2 < N := by
  obtain ⟨y, hy, h1⟩ := mem_ents.1 he
  obtain ⟨a1, a2, a3, a4, a5⟩ := h.inX y hy
  have : RB.rndsQ (RB.rndsN N) 1 = RB.rndsN N := rfl
  rw [this] at a2
  rcases h1 with rfl | rfl
  · exact ⟨a3, ⟨a1, a2⟩, a4⟩
  · exact ⟨a4, ⟨a1, a2⟩, a3⟩
def allK (N R : Nat) : List (Int × Int) := (List.range R).flatMap fun r : Nat => (List.range N).map fun t : Nat => ((t : Int), (r : Int))
theorem allK_len (N R : Nat) : (allK N R).length = R * N := by
  unfold allK
  induction R with
  | zero => simp
  | succ R ih => rw [List.range_succ, List.flatMap_append, List.length_append, ih]; simp [Nat.succ_mul]
theorem allK_mem {N R : Nat} {k : Int × Int} (h1 : 0 ≤ k.1 ∧ k.1 < N) (h2 : 0 ≤ k.2 ∧ k.2 < R) : k ∈ allK N R :=
  List.mem_flatMap.2 ⟨k.2.toNat, List.mem_range.2 (by omega), List.mem_map.2 ⟨k.1.toNat, List.mem_range.2 (by omega), Prod.ext (by simp only; omega) (by simp only; omega)⟩⟩
theorem lst_full {N : Nat} (hn : 2 ≤ N ∧ N ≤ 20) (he : N % 2 = 0) {x : List S45} (h : RB.RR N (RB.rndsN N) 1 x) (k : Int × Int) (h1 : 0 ≤ k.1 ∧ k.1 < N) (h2 : 0 ≤ k.2 ∧ k.2 < (RB.rndsN N : Nat)) : k ∈ keys (ents x) := by
  refine Classical.byContradiction fun hk => ?_
  have hnd := (foesF_inv (lst_foes hn h)).2.2.1
  have h3 : (k :: keys (ents x)).Nodup := List.nodup_cons.2 ⟨hk, hnd⟩
  have h4 := h3.length_le_of_subset (l₂ := allK N (RB.rndsN N)) (fun y hy => by
    rcases List.mem_cons.1 hy with rfl | hy
    · exact allK_mem h1 h2
    · obtain ⟨e, he, rfl⟩ := List.mem_map.1 hy
      have := key_rng h he
      exact allK_mem this.1 this.2.1)
  rw [List.length_cons, show keys (ents x) = (ents x).map (·.1) from rfl, List.length_map, ents_len, lst_len hn h, allK_len] at h4
  have h5 : RB.rndsN N * N = N * (N - 1) := by unfold RB.rndsN; rw [he, Nat.add_zero, Nat.mul_comm]
  have h6 : 2 * (N * (N - 1) / 2) = N * (N - 1) := by
    have : N * (N - 1) % 2 = 0 := by rw [Nat.mul_mod, he, Nat.zero_mul, Nat.zero_mod]
    omega
  omega
theorem filterMap_all {α β : Type} {f : α → Option β} : ∀ {l : List α}, (∀ a ∈ l, ∃ b, f a = some b) → (l.filterMap f).length = l.length
  | [], _ => rfl
  | a :: l, h => by
    obtain ⟨b, hb⟩ := h a (by simp)
    rw [List.filterMap_cons, hb, List.length_cons, List.length_cons, filterMap_all fun y hy => h y (by simp [hy])]
theorem lst_rounds {N : Nat} (hn : 2 ≤ N ∧ N ≤ 20) (he : N % 2 = 0) {x : List S45} (h : RB.RR N (RB.rndsN N) 1 x) : roundsF x = (RB.rndsN N : Nat) := by
  have hR : 1 ≤ RB.rndsN N := by unfold RB.rndsN; omega
  have h1 := (rounds_ents (m := x) (R := (RB.rndsN N : Nat)) (by omega)).2 fun e he => by have := (key_rng h he).2.1; omega
  obtain ⟨e, hm, e2⟩ := List.mem_map.1 (lst_full hn he h (0, ((RB.rndsN N : Nat) : Int) - 1) (by simp only; omega) (by simp only; omega))
  have h2 := (rounds_ents (m := x) (rounds_nn x)).1 (Int.le_refl _) e hm
  rw [e2] at h2
  simp only at h2
  omega
theorem lst_pairs {N : Nat} (hn : 2 ≤ N ∧ N ≤ 20) (he : N % 2 = 0) {x : List S45} (h : RB.RR N (RB.rndsN N) 1 x) : ((ents x).filterMap (nxt (ents x) (roundsF x))).length = N * (N - 1) := by
  have hnd := (foesF_inv (lst_foes hn h)).2.2.1
  rw [filterMap_all, ents_len, lst_len hn h]
  · have : N * (N - 1) % 2 = 0 := by rw [Nat.mul_mod, he, Nat.zero_mul, Nat.zero_mod]
    omega
  · intro e hm
    have hk := key_rng h hm
    rw [lst_rounds hn he h]
    have h2 : aft ((RB.rndsN N : Nat) : Int) e.1 ∈ keys (ents x) := by
      refine lst_full hn he h _ ?_ ?_
      · unfold aft; split <;> exact hk.1
      · unfold aft; split <;> (simp only; omega)
    obtain ⟨e', hm', e2⟩ := List.mem_map.1 h2
    have : mget (ents x) (aft ((RB.rndsN N : Nat) : Int) e.1) = some e'.2 := (mget_iff hnd).2 (by rw [← e2]; exact hm')
    exact ⟨_, by unfold nxt; rw [this]; rfl⟩
def leastF (N : Nat) : Int := if N % 2 = 0 then (N : Int) * ((N : Int) - 1) else 0
theorem lst_law {N : Nat} (hn : 2 ≤ N ∧ N ≤ 20) {x : List S45} (h : RB.RR N (RB.rndsN N) 1 x) : ∃ es r, foesF N x = some (es, r) ∧ leastF N ≤ sqsM (cntM N (es.filterMap (nxt es r))) ∧ (N % 2 = 0 → (sqsM (cntM N (es.filterMap (nxt es r))) = leastF N ↔ ∀ row ∈ cntM N (es.filterMap (nxt es r)), ∀ y ∈ row, y ≤ 1)) := by
  refine ⟨_, _, lst_foes hn h, ?_⟩
  have hnn : ∀ row ∈ cntM N ((ents x).filterMap (nxt (ents x) (roundsF x))), ∀ y ∈ row, (0 : Int) ≤ y := fun row hr y hy => by
    unfold cntM at hr
    obtain ⟨i, _, rfl⟩ := List.mem_map.1 hr
    obtain ⟨j, _, rfl⟩ := List.mem_map.1 hy
    omega
  obtain ⟨h1, h2⟩ := sqsM_ge _ hnn
  by_cases he : N % 2 = 0
  · have hok := (foes_ok N x (by rw [lst_len hn h]; have : N * (N - 1) ≤ 20 * 20 := Nat.mul_le_mul hn.2 (by omega); omega) _ _ (lst_foes hn h)).2.2
    have hs : sumM (cntM N ((ents x).filterMap (nxt (ents x) (roundsF x)))) = leastF N := by
      rw [sumM_cnt, sum_cnt N _ (fun p hp => by
        obtain ⟨e, he, hx⟩ := List.mem_filterMap.1 hp
        exact nxt_rng hok he hx), lst_pairs hn he h, leastF, if_pos he, Int.natCast_mul]
      rw [Int.natCast_sub (by omega)]; rfl
    rw [hs] at h1 h2
    exact ⟨h1, fun _ => h2⟩
  · refine ⟨?_, fun h => absurd h he⟩
    have : leastF N = 0 := if_neg he
    rw [this]
    have : ∀ M : List (List Int), 0 ≤ sqsM M := fun M => by
      induction M with
      | nil => exact Int.le_refl 0
      | cons r M ih =>
        have : 0 ≤ sqs r := by
          induction r with
          | nil => exact Int.le_refl 0
          | cons y r ih => rw [show sqs (y :: r) = y * y + sqs r from rfl]; have : 0 ≤ y * y := by rcases Int.le_total 0 y with h | h; exact Int.mul_nonneg h h; exact Int.mul_nonneg_of_nonpos_of_nonpos h h
                           omega
        rw [show sqsM (r :: M) = sqs r + sqsM M from rfl]; omega
    exact this _
theorem rr_ren {N : Nat} (hn : 2 ≤ N ∧ N ≤ 20) {x : List S45} (h : RB.RR N (RB.rndsN N) 1 x) {tos : List Int} (ho : Ord N tos) : RB.RR N (RB.rndsN N) 1 (x.map (renS tos)) := by
  have := RB.rr_rel (n := N) (R := RB.rndsN N) (kind := 1) (π := nm tos) (Z := x.map fun y => (y, renS tos y)) (by unfold RB.rndsN; omega) (by decide) (by rw [List.map_map]; simpa [Function.comp_def] using h)
    (fun z hz => by
      obtain ⟨y, _, rfl⟩ := List.mem_map.1 hz
      exact ⟨rfl, .inl ⟨rfl, rfl⟩⟩)
    (fun t h1 h2 => nm_rng ho ⟨h1, h2⟩) (fun s t h1 h2 h3 h4 e => nm_inj ho ⟨h1, h2⟩ ⟨h3, h4⟩ e)
  rw [List.map_map] at this
  exact this
end Go.Proofs.Ytcjpghiceebkfaa.P

/- CarryLeast: the law's walk. -/
namespace Go.Proofs.Ytcjpghiceebkfaa.P
open Go.RowKit Go.Proofs.YtcjpghiceebkfaaW.PrintWords Go.Proofs.YtcjpghiceebkfaaW.PrintLast Go.Proofs.YtcjpghiceebkfaaW.PrintMore
open XW RegInv
attribute [local irreducible] Addr.add
set_option linter.unusedSimpArgs false
set_option linter.unusedVariables false
theorem E10s : Enters Try.prog 10 := enters Try.func10 (by kernel_rfl) rfl
theorem E11s : Enters Try.prog 11 := enters Try.func11 (by kernel_rfl) rfl
theorem E18s : Enters Try.prog 18 := enters Try.func18 (by kernel_rfl) rfl
theorem E26s : Enters Try.prog 26 := enters Try.func26 (by kernel_rfl) rfl
theorem E27s : Enters Try.prog 27 := enters Try.func27 (by kernel_rfl) rfl
theorem E28s : Enters Try.prog 28 := enters Try.func28 (by kernel_rfl) rfl
theorem few_rets (A : Option Addr) (c : Nat) (m : List S45) (w : World) (hr : Kd.C k45 w A m.length m) (hc : m.length ≤ c) : Rets Try.prog 10 #[.slice A m.length c] w fun u w' => u = .bool (decide ((m.length : Int) ≤ 700)) ∧ Below w.heap.size w w' :=
 (fastiref22_Few.calls A c m _ w hr hc rfl).mono (by rintro e w'' ⟨rfl, hb⟩; exact ⟨_, rfl, rfl, hb.below⟩)
theorem isRight_rets (n : Int) (A : Option Addr) (c : Nat) (m : List S45) (w : World) (hr : Kd.C k45 w A m.length m) (hc : m.length ≤ c) : Rets Try.prog 27 #[.int .i64 n, .slice A m.length c] w fun u w' => u = .bool (rightB n m) ∧ Below w.heap.size w w' :=
 (fastiref22_Right.calls (2 * m.length + 2) n A c m _ w hr hc (right_f n m _ (Nat.le_refl _))).mono (by rintro e w'' ⟨rfl, hb⟩; exact ⟨_, rfl, rfl, hb⟩)
theorem least_f {N : Nat} (hn : 2 ≤ N ∧ N ≤ 20) : carry_Least.f 1 N = some (leastF N, 0) := by
 have h1 := Int.mul_nonneg (show (0 : Int) ≤ N by omega) (show (0 : Int) ≤ (N : Int) - 1 by omega)
 have h2 := Int.mul_le_mul (show (N : Int) ≤ 20 by omega) (show (N : Int) - 1 ≤ 19 by omega) (by omega) (by omega)
 rw [carry_Least.f, if_neg (by omega), decide_eq_false (by omega), carry_Least.j0, if_neg (by simp), Int.tmod_eq_emod_of_nonneg (by omega), leastF]
 by_cases he : N % 2 = 0
 ·rw [if_neg (by omega), if_pos he, w64 (x := (N : Int) - 1) (by omega), w64 (by omega)]
 ·rw [if_pos (by omega), if_neg he]
theorem least_rets {N : Nat} (hn : 2 ≤ N ∧ N ≤ 20) (w : World) : Rets Try.prog 18 #[.int .i64 N] w fun u w' => u = .tuple #[.int .i64 (leastF N), .int .i64 0] ∧ Below w.heap.size w w' :=
 (carry_Least.calls 1 N _ _ w (least_f hn)).mono (by rintro e w'' ⟨rfl, hb⟩; exact ⟨_, rfl, rfl, hb.below⟩)
def muR (l : List Int) : Bool := l.any fun y => decide (1 < y)
def muM (M : List (List Int)) : Bool := M.any muR
theorem muR_snoc (l : List Int) (k : Nat) (h : k < l.length) : muR (l.take (k + 1)) = (muR (l.take k) || decide (1 < l.getD k default)) := by
 rw [muR, muR, take_snocD l k default h, List.any_append]; simp
theorem muM_snoc (M : List (List Int)) (k : Nat) (h : k < M.length) : muM (M.take (k + 1)) = (muM (M.take k) || muR (M.getD k [])) := by
 rw [muM, muM, take_snocD M k [] h, List.any_append]; simp
theorem muM_iff (M : List (List Int)) : muM M = false ↔ ∀ row ∈ M, ∀ y ∈ row, y ≤ 1 := by
 simp only [muM, muR, List.any_eq_false, decide_eq_true_eq, Bool.not_eq_true]
 constructor
 ·intro h row hr y hy
  have := h row hr
  simp at this
  exact this y hy
 ·intro h row hr
  simp
  exact h row hr
set_option maxHeartbeats 8000000 in
theorem least_law (n : Int) (A : Option Addr) (c : Nat) (m : List S45) (A2 : Option Addr) (c2 : Nat) (l : List Int) (w : World) (hr : Kd.C k45 w A m.length m) (hc : m.length ≤ c) (hr2 : Kd.C (Kd.int .u8) w A2 l.length l) (hc2 : l.length ≤ c2) (hl8 : ∀ x ∈ l, 0 ≤ x ∧ x ≤ 255) :
  Rets Try.prog 8 #[.int .i64 n, .slice A m.length c, .slice A2 l.length c2] w fun u w' => u = .bool true ∧ Below w.heap.size w w' := by
 have hF := wide_wide
 have hmx := hr.2.1
 have hmx2 := hr2.2.1
 refine rets_at (n := 143) Try.func8 rfl Try.ntmps8 (by simp) ?_
 (repeat (first | ((with_reducible refine is_AL ?_); (first | ((with_reducible refine is_assign ?_); (refine At_plain hF (by (exact (rfl : _ = some (Value.bool _)))) ?_)) | with_reducible refine At_nil ?_)) | ((with_reducible refine is_At ?_); (first | with_reducible refine At_seq ?_; intro K hK | with_reducible refine At_region ?_ | with_reducible refine At_then_n ?_ | with_reducible refine At_go (by assumption) ?_))))
 refine At_callB hF E9r rfl (vs := #[]) (by simp) (fun w' hw' => sane_retsr w') ?_
 (repeat (first | ((with_reducible refine is_AL ?_); (first | ((with_reducible refine is_move ?_); (refine At_plain hF (by (exact (rfl : _ = some (Value.slice _ _ _)))) ?_)) | ((with_reducible refine is_un ?_); (refine At_plain hF (by (exact (rfl : _ = some (Value.bool _)))) ?_)) | with_reducible refine At_nil ?_)) | ((with_reducible refine is_At ?_); (first | with_reducible refine At_seq ?_; intro K hK | with_reducible refine At_region ?_ | with_reducible refine At_skip ?_ | with_reducible refine At_then_n ?_ | with_reducible refine At_go (by assumption) ?_ | ((with_reducible refine is_cond ?_); (refine At_cond_f rfl ?_))))))
 refine At_callB hF E10s rfl (arg1 (by (first | exact (rfl : _ = (Value.int _ _)) | exact (rfl : _ = (Value.bool _)) | exact (rfl : _ = (Value.pointer _)) | exact (rfl : _ = (Value.slice _ _ _)) | exact (rfl : _ = (Value.map _)) | exact (rfl : _ = (Value.func _ _ _)) | exact (rfl : _ = (Value.tuple _)) | exact (rfl : _ = (Value.agg _)) | exact (rfl : _ = (Value.string _)) | exact (rfl : _ = (Value.nilFunc)) | exact (rfl : _ = (Value.nilIface))))) (fun w' hw' => few_rets A c m w' (Kd.C_below hr hw'.below) hc) ?_
 cases hfew : decide ((m.length : Int) ≤ 700) with
 | false =>
  (repeat (first | ((with_reducible refine is_AL ?_); (first | ((with_reducible refine is_guarded ?_); (refine At_guard_f hF rfl (by decide) rfl rfl ?_)) | ((with_reducible refine is_move ?_); (refine At_plain hF (by (exact (rfl : _ = some (Value.bool _)))) ?_)) | ((with_reducible refine is_assign ?_); (refine At_plain hF (by (exact (rfl : _ = some (Value.bool _)))) ?_)) | ((with_reducible refine is_pick ?_); (refine At_plain hF (by (exact (rfl : _ = some (Value.bool _)))) ?_)) | ((with_reducible refine is_un ?_); (refine At_plain hF (by (exact (rfl : _ = some (Value.bool _)))) ?_)) | with_reducible refine At_nil ?_)) | ((with_reducible refine is_At ?_); (first | with_reducible refine At_seq ?_; intro K hK | with_reducible refine At_region ?_ | with_reducible refine At_ret ?_ | with_reducible refine At_then_n ?_ | with_reducible refine At_then_r ?_ | with_reducible refine At_go (by assumption) ?_ | ((with_reducible refine is_cond ?_); (refine At_cond_t rfl ?_))))))
  exact At_ret1 rfl (rv_tmp (by decide)) (fun w' hw' => ⟨_, rfl, rfl, hw'.below⟩)
 | true =>
  have hm7 : m.length ≤ 700 := by have := of_decide_eq_true hfew; omega
  clear hfew
  (repeat ((with_reducible refine is_AL ?_); (first | ((with_reducible refine is_guarded ?_); (refine At_guard_t rfl (by decide) rfl ?_)) | ((with_reducible refine is_move ?_); (refine At_plain hF (by (first | exact (rfl : _ = some (Value.bool _)) | exact (rfl : _ = some (Value.slice _ _ _)))) ?_)) | ((with_reducible refine is_bin ?_); (refine At_plain hF (by (exact (rfl : _ = some (Value.bool _)))) ?_)) | ((with_reducible refine is_pick ?_); (refine At_plain hF (by (exact (rfl : _ = some (Value.bool _)))) ?_)) | ((with_reducible refine is_un ?_); (refine At_plain hF (by (exact (rfl : _ = some (Value.bool _)))) ?_)) | ((with_reducible refine is_call ?_); (refine At_len hF rfl ?_)))))
  ((with_reducible refine is_guarded ?_); (refine At_guard hF rfl (by decide) rfl ?_ ?_ <;> (intro hg; try (simp only [decide_eq_true_eq, decide_eq_false_iff_not, beq_iff_eq, bne_iff_ne, beq_eq_false_iff_ne, bne_eq_false_iff_eq, ne_eq, Bool.not_eq_true', Bool.not_eq_false', Bool.not_true, Bool.not_false, Decidable.not_not] at hg); try (exfalso; first | omega | exact hg True.intro))))
  rotate_left
  ·(repeat (first | ((with_reducible refine is_AL ?_); (first | ((with_reducible refine is_guarded ?_); (refine At_guard_f hF rfl (by decide) rfl rfl ?_)) | ((with_reducible refine is_move ?_); (refine At_plain hF (by (exact (rfl : _ = some (Value.bool _)))) ?_)) | ((with_reducible refine is_assign ?_); (refine At_plain hF (by (exact (rfl : _ = some (Value.bool _)))) ?_)) | ((with_reducible refine is_pick ?_); (refine At_plain hF (by (exact (rfl : _ = some (Value.bool _)))) ?_)) | with_reducible refine At_nil ?_)) | ((with_reducible refine is_At ?_); (first | with_reducible refine At_seq ?_; intro K hK | with_reducible refine At_region ?_ | with_reducible refine At_ret ?_ | with_reducible refine At_then_n ?_ | with_reducible refine At_then_r ?_ | with_reducible refine At_go (by assumption) ?_ | ((with_reducible refine is_cond ?_); (refine At_cond_t rfl ?_))))))
   exact At_ret1 rfl (rv_tmp (by decide)) (fun w' hw' => ⟨_, rfl, rfl, hw'.below⟩)
  (repeat ((with_reducible refine is_AL ?_); (first | ((with_reducible refine is_guarded ?_); (refine At_guard_t rfl (by decide) rfl ?_)) | ((with_reducible refine is_move ?_); (refine At_plain hF (by (first | exact (rfl : _ = some (Value.int _ _)) | exact (rfl : _ = some (Value.bool _)))) ?_)) | ((with_reducible refine is_bin ?_); (refine At_plain hF (by (exact (rfl : _ = some (Value.bool _)))) ?_)) | ((with_reducible refine is_pick ?_); (refine At_plain hF (by (exact (rfl : _ = some (Value.bool _)))) ?_)))))
  ((with_reducible refine is_guarded ?_); (refine At_guard hF rfl (by decide) rfl ?_ ?_ <;> (intro hg; try (simp only [decide_eq_true_eq, decide_eq_false_iff_not, beq_iff_eq, bne_iff_ne, beq_eq_false_iff_ne, bne_eq_false_iff_eq, ne_eq, Bool.not_eq_true', Bool.not_eq_false', Bool.not_true, Bool.not_false, Decidable.not_not] at hg); try (exfalso; first | omega | exact hg True.intro))))
  rotate_left
  ·(repeat (first | ((with_reducible refine is_AL ?_); (first | ((with_reducible refine is_guarded ?_); (refine At_guard_f hF rfl (by decide) rfl rfl ?_)) | ((with_reducible refine is_assign ?_); (refine At_plain hF (by (exact (rfl : _ = some (Value.bool _)))) ?_)) | ((with_reducible refine is_pick ?_); (refine At_plain hF (by (exact (rfl : _ = some (Value.bool _)))) ?_)) | with_reducible refine At_nil ?_)) | ((with_reducible refine is_At ?_); (first | with_reducible refine At_seq ?_; intro K hK | with_reducible refine At_region ?_ | with_reducible refine At_ret ?_ | with_reducible refine At_then_n ?_ | with_reducible refine At_then_r ?_ | with_reducible refine At_go (by assumption) ?_ | ((with_reducible refine is_cond ?_); (refine At_cond_t rfl ?_))))))
   exact At_ret1 rfl (rv_tmp (by decide)) (fun w' hw' => ⟨_, rfl, rfl, hw'.below⟩)
  (repeat (first | ((with_reducible refine is_AL ?_); (first | ((with_reducible refine is_guarded ?_); (refine At_guard_t rfl (by decide) rfl ?_)) | ((with_reducible refine is_move ?_); (refine At_plain hF (by (exact (rfl : _ = some (Value.int _ _)))) ?_)) | ((with_reducible refine is_bin ?_); (refine At_plain hF (by (exact (rfl : _ = some (Value.bool _)))) ?_)) | ((with_reducible refine is_pick ?_); (refine At_plain hF (by (exact (rfl : _ = some (Value.bool _)))) ?_)) | with_reducible refine At_nil ?_)) | ((with_reducible refine is_At ?_); (first | with_reducible refine At_then_n ?_ | with_reducible refine At_go (by assumption) ?_))))
  ((with_reducible refine is_cond ?_); (refine At_cond rfl ?_ ?_ <;> (intro hg; try (simp only [decide_eq_true_eq, decide_eq_false_iff_not, beq_iff_eq, bne_iff_ne, beq_eq_false_iff_ne, bne_eq_false_iff_eq, ne_eq, Bool.not_eq_true', Bool.not_eq_false', Bool.not_true, Bool.not_false, Decidable.not_not] at hg); try (exfalso; first | omega | exact hg True.intro))))
  ·(repeat (first | ((with_reducible refine is_AL ?_); (first | ((with_reducible refine is_assign ?_); (refine At_plain hF (by (exact (rfl : _ = some (Value.bool _)))) ?_)) | with_reducible refine At_nil ?_)) | ((with_reducible refine is_At ?_); (first | with_reducible refine At_seq ?_; intro K hK | with_reducible refine At_region ?_ | with_reducible refine At_ret ?_ | with_reducible refine At_then_n ?_ | with_reducible refine At_then_r ?_ | with_reducible refine At_go (by assumption) ?_))))
   exact At_ret1 rfl (rv_tmp (by decide)) (fun w' hw' => ⟨_, rfl, rfl, hw'.below⟩)
  obtain ⟨N, rfl⟩ : ∃ N : Nat, n = N := ⟨n.toNat, by omega⟩
  have hn : 2 ≤ N ∧ N ≤ 20 := by omega
  obtain ⟨hRR, hol⟩ := RB.rr_mk (n := N) (kind := 1) hn (by decide)
  (repeat (first | ((with_reducible refine is_AL ?_); ((with_reducible refine is_move ?_); (refine At_plain hF (by (exact (rfl : _ = some (Value.int _ _)))) ?_))) | ((with_reducible refine is_At ?_); (first | with_reducible refine At_seq ?_; intro K hK | with_reducible refine At_region ?_ | with_reducible refine At_skip ?_ | with_reducible refine At_then_n ?_ | with_reducible refine At_go (by assumption) ?_))))
  refine At_callM (Post := fun u Rs => ∃ A' c', u = .tuple #[rowV A' (RB.mkM N 1).length c', .int .i64 0] ∧ Rs = [Res.row 45 3 enc45 A' c' (RB.mkM N 1)]) hF E26s rfl (arg2 (by (first | exact (rfl : _ = (Value.int _ _)) | exact (rfl : _ = (Value.bool _)) | exact (rfl : _ = (Value.pointer _)) | exact (rfl : _ = (Value.slice _ _ _)) | exact (rfl : _ = (Value.map _)) | exact (rfl : _ = (Value.func _ _ _)) | exact (rfl : _ = (Value.tuple _)) | exact (rfl : _ = (Value.agg _)) | exact (rfl : _ = (Value.string _)) | exact (rfl : _ = (Value.nilFunc)) | exact (rfl : _ = (Value.nilIface)))) (by (first | exact (rfl : _ = (Value.int _ _)) | exact (rfl : _ = (Value.bool _)) | exact (rfl : _ = (Value.pointer _)) | exact (rfl : _ = (Value.slice _ _ _)) | exact (rfl : _ = (Value.map _)) | exact (rfl : _ = (Value.func _ _ _)) | exact (rfl : _ = (Value.tuple _)) | exact (rfl : _ = (Value.agg _)) | exact (rfl : _ = (Value.string _)) | exact (rfl : _ = (Value.nilFunc)) | exact (rfl : _ = (Value.nilIface))))) (fun w' hw' => (RB.mkM_rets w' N 1 hn (by decide)).mono (by rintro e w'' ⟨u, rfl, A', c', rfl, h⟩; exact ⟨_, rfl, _, ⟨A', c', rfl, rfl⟩, h⟩)) ?_
  rintro u Rs ⟨Ao, co, rfl, rfl⟩
  simp only [List.cons_append, List.nil_append]
  generalize RB.mkM N 1 = own at *
  have hol2 := lst_len hn hRR
  have hb2 : N * (N - 1) ≤ 20 * 20 := Nat.mul_le_mul hn.2 (by omega)
  have hrb : rightB N own = true := by
   unfold rightB
   rw [lst_foes hn hRR]; simp; omega
  (repeat (first | ((with_reducible refine is_AL ?_); (first | ((with_reducible refine is_guarded ?_); (refine At_guard_t rfl (by decide) rfl ?_)) | ((with_reducible refine is_move ?_); (refine At_plain hF (by (first | exact (rfl : _ = some (Value.int _ _)) | exact (rfl : _ = some (Value.bool _)) | exact (rfl : _ = some (Value.slice _ _ _)) | exact (rfl : _ = some (Value.tuple _)))) ?_)) | ((with_reducible refine is_bin ?_); (refine At_plain hF (by (exact (rfl : _ = some (Value.bool _)))) ?_)) | ((with_reducible refine is_assign ?_); (refine At_plain hF (by (first | exact (rfl : _ = some (Value.int _ _)) | exact (rfl : _ = some (Value.slice _ _ _)))) ?_)) | ((with_reducible refine is_extract ?_); (refine At_plain hF (by (first | exact (rfl : _ = some (Value.int _ _)) | exact (rfl : _ = some (Value.slice _ _ _)))) ?_)) | with_reducible refine At_nil ?_)) | ((with_reducible refine is_At ?_); (first | with_reducible refine At_seq ?_; intro K hK | with_reducible refine At_region ?_ | with_reducible refine At_then_n ?_ | with_reducible refine At_go (by assumption) ?_))))
  refine At_callB hF E27s rfl (arg2 (by (first | exact (rfl : _ = (Value.int _ _)) | exact (rfl : _ = (Value.bool _)) | exact (rfl : _ = (Value.pointer _)) | exact (rfl : _ = (Value.slice _ _ _)) | exact (rfl : _ = (Value.map _)) | exact (rfl : _ = (Value.func _ _ _)) | exact (rfl : _ = (Value.tuple _)) | exact (rfl : _ = (Value.agg _)) | exact (rfl : _ = (Value.string _)) | exact (rfl : _ = (Value.nilFunc)) | exact (rfl : _ = (Value.nilIface)))) (by (first | exact (rfl : _ = (Value.int _ _)) | exact (rfl : _ = (Value.bool _)) | exact (rfl : _ = (Value.pointer _)) | exact (rfl : _ = (Value.slice _ _ _)) | exact (rfl : _ = (Value.map _)) | exact (rfl : _ = (Value.func _ _ _)) | exact (rfl : _ = (Value.tuple _)) | exact (rfl : _ = (Value.agg _)) | exact (rfl : _ = (Value.string _)) | exact (rfl : _ = (Value.nilFunc)) | exact (rfl : _ = (Value.nilIface))))) (fun w' hw' => by
   have h1 := C45_of_row hw' (List.mem_cons_self ..)
   have h2 := row_len hw' (List.mem_cons_self ..)
   exact isRight_rets N _ co own w' h1 h2) ?_
  rw [hrb]
  (repeat (first | ((with_reducible refine is_AL ?_); (first | ((with_reducible refine is_guarded ?_); (refine At_guard_t rfl (by decide) rfl ?_)) | ((with_reducible refine is_move ?_); (refine At_plain hF (by (exact (rfl : _ = some (Value.int _ _)))) ?_)) | ((with_reducible refine is_pick ?_); (refine At_plain hF (by (exact (rfl : _ = some (Value.bool _)))) ?_)) | ((with_reducible refine is_un ?_); (refine At_plain hF (by (exact (rfl : _ = some (Value.bool _)))) ?_)) | with_reducible refine At_nil ?_)) | ((with_reducible refine is_At ?_); (first | with_reducible refine At_seq ?_; intro K hK | with_reducible refine At_region ?_ | with_reducible refine At_skip ?_ | with_reducible refine At_then_n ?_ | with_reducible refine At_go (by assumption) ?_ | ((with_reducible refine is_cond ?_); (refine At_cond_f rfl ?_))))))
  refine At_callB hF E18s rfl (arg1 (by (first | exact (rfl : _ = (Value.int _ _)) | exact (rfl : _ = (Value.bool _)) | exact (rfl : _ = (Value.pointer _)) | exact (rfl : _ = (Value.slice _ _ _)) | exact (rfl : _ = (Value.map _)) | exact (rfl : _ = (Value.func _ _ _)) | exact (rfl : _ = (Value.tuple _)) | exact (rfl : _ = (Value.agg _)) | exact (rfl : _ = (Value.string _)) | exact (rfl : _ = (Value.nilFunc)) | exact (rfl : _ = (Value.nilIface))))) (fun w' hw' => least_rets hn w') ?_
  (repeat (first | ((with_reducible refine is_AL ?_); (first | ((with_reducible refine is_move ?_); (refine At_plain hF (by (first | exact (rfl : _ = some (Value.int _ _)) | exact (rfl : _ = some (Value.slice _ _ _)) | exact (rfl : _ = some (Value.tuple _)))) ?_)) | ((with_reducible refine is_assign ?_); (refine At_plain hF (by (exact (rfl : _ = some (Value.int _ _)))) ?_)) | ((with_reducible refine is_extract ?_); (refine At_plain hF (by (exact (rfl : _ = some (Value.int _ _)))) ?_)) | with_reducible refine At_nil ?_)) | ((with_reducible refine is_At ?_); (first | with_reducible refine At_seq ?_; intro K hK | with_reducible refine At_region ?_ | with_reducible refine At_then_n ?_ | with_reducible refine At_go (by assumption) ?_))))
  refine At_callM hF E23 rfl (arg2 (by (first | exact (rfl : _ = (Value.int _ _)) | exact (rfl : _ = (Value.bool _)) | exact (rfl : _ = (Value.pointer _)) | exact (rfl : _ = (Value.slice _ _ _)) | exact (rfl : _ = (Value.map _)) | exact (rfl : _ = (Value.func _ _ _)) | exact (rfl : _ = (Value.tuple _)) | exact (rfl : _ = (Value.agg _)) | exact (rfl : _ = (Value.string _)) | exact (rfl : _ = (Value.nilFunc)) | exact (rfl : _ = (Value.nilIface)))) (by (first | exact (rfl : _ = (Value.int _ _)) | exact (rfl : _ = (Value.bool _)) | exact (rfl : _ = (Value.pointer _)) | exact (rfl : _ = (Value.slice _ _ _)) | exact (rfl : _ = (Value.map _)) | exact (rfl : _ = (Value.func _ _ _)) | exact (rfl : _ = (Value.tuple _)) | exact (rfl : _ = (Value.agg _)) | exact (rfl : _ = (Value.string _)) | exact (rfl : _ = (Value.nilFunc)) | exact (rfl : _ = (Value.nilIface))))) (fun w' hw' => order_rets N hn A2 c2 l w' (Kd.C_below hr2 hw'.below) hc2 hl8 (by omega)) ?_
  rintro u Rs ⟨At', ct, tos, ho, rfl, rfl⟩
  simp only [List.cons_append, List.nil_append]
  have htl := ho.len
  (repeat ((with_reducible refine is_AL ?_); ((with_reducible refine is_move ?_); (refine At_plain hF (by (exact (rfl : _ = some (Value.slice _ _ _)))) ?_))))
  refine At_callM (Post := fun u Rs => ∃ A' c', u = rowV A' own.length c' ∧ Rs = [Res.row 45 3 enc45 A' c' (own.map (renS tos))]) hF E24 rfl (arg3 (by (first | exact (rfl : _ = (Value.int _ _)) | exact (rfl : _ = (Value.bool _)) | exact (rfl : _ = (Value.pointer _)) | exact (rfl : _ = (Value.slice _ _ _)) | exact (rfl : _ = (Value.map _)) | exact (rfl : _ = (Value.func _ _ _)) | exact (rfl : _ = (Value.tuple _)) | exact (rfl : _ = (Value.agg _)) | exact (rfl : _ = (Value.string _)) | exact (rfl : _ = (Value.nilFunc)) | exact (rfl : _ = (Value.nilIface)))) (by (first | exact (rfl : _ = (Value.int _ _)) | exact (rfl : _ = (Value.bool _)) | exact (rfl : _ = (Value.pointer _)) | exact (rfl : _ = (Value.slice _ _ _)) | exact (rfl : _ = (Value.map _)) | exact (rfl : _ = (Value.func _ _ _)) | exact (rfl : _ = (Value.tuple _)) | exact (rfl : _ = (Value.agg _)) | exact (rfl : _ = (Value.string _)) | exact (rfl : _ = (Value.nilFunc)) | exact (rfl : _ = (Value.nilIface)))) (by (first | exact (rfl : _ = (Value.int _ _)) | exact (rfl : _ = (Value.bool _)) | exact (rfl : _ = (Value.pointer _)) | exact (rfl : _ = (Value.slice _ _ _)) | exact (rfl : _ = (Value.map _)) | exact (rfl : _ = (Value.func _ _ _)) | exact (rfl : _ = (Value.tuple _)) | exact (rfl : _ = (Value.agg _)) | exact (rfl : _ = (Value.string _)) | exact (rfl : _ = (Value.nilFunc)) | exact (rfl : _ = (Value.nilIface))))) (fun w' hw' => by
   have h1 := C_of_row (A := At') (c := ct) (xs := tos) hw' (List.mem_cons_self ..)
   have h2 := row_len (A := At') (c := ct) (xs := tos) (e := 3) (sz := 1) (enc := sc (Value.int .i64)) hw' (List.mem_cons_self ..)
   have h3 := C45_of_row (A := Ao) (c := co) (xs := own) hw' (List.mem_cons_of_mem _ (List.mem_cons_self ..))
   have h4 := row_len (A := Ao) (c := co) (xs := own) (e := 45) (sz := 3) (enc := enc45) hw' (List.mem_cons_of_mem _ (List.mem_cons_self ..))
   have h5 := renamed_rets N _ ct tos _ co own w' h1 h2 h3 h4 (by omega) (named_of ho (lst_foes hn hRR))
   rw [htl] at h5
   exact h5.mono (by rintro e w'' ⟨u, rfl, A', c', rfl, h⟩; exact ⟨_, rfl, _, ⟨A', c', rfl, rfl⟩, h⟩)) ?_
  rintro u Rs ⟨Ax, cx, rfl, rfl⟩
  simp only [List.cons_append, List.nil_append]
  have hRR2 := rr_ren hn hRR ho
  have hxl : (own.map (renS tos)).length = own.length := List.length_map ..
  generalize own.map (renS tos) = ren at *
  ((repeat (first | ((with_reducible refine is_AL ?_); (first | ((with_reducible refine is_move ?_); (refine At_plain hF (by (exact (rfl : _ = some (Value.int _ _)))) ?_)) | ((with_reducible refine is_call ?_); (refine At_len hF rfl ?_)) | with_reducible refine At_nil ?_)) | ((with_reducible refine is_At ?_); (first | with_reducible refine At_block ?_ | with_reducible refine At_then_n ?_ | with_reducible refine At_go (by assumption) ?_)))); ((with_reducible refine is_bslice ?_); (refine At_slice1_2 hF (by decide) (by (exact (rfl : _ = (Value.slice _ _ _)))) rfl (by (exact (rfl : _ = (Value.slice _ _ _)))) rfl ?_; intro b)); (repeat (first | ((with_reducible refine is_AL ?_); (first | ((with_reducible refine is_move ?_); (refine At_plain hF (by (exact (rfl : _ = some (Value.int _ _)))) ?_)) | ((with_reducible refine is_call ?_); (refine At_len hF rfl ?_)) | with_reducible refine At_nil ?_)) | ((with_reducible refine is_At ?_); (first | with_reducible refine At_block ?_ | with_reducible refine At_then_n ?_ | with_reducible refine At_go (by assumption) ?_)))))
  refine At_loop (fun k : Nat => [(0, .int .i64 N), (9, .int .i64 (leastF N)), (10, .int .i64 0), (65, .slice (some ⟨b, 0, none⟩) 2 2), (66, .int .i64 2), (67, .int .i64 k)])
   (fun _ => [.obj b (.cells #[.slice A m.length c, .slice (Ax.map fun b => ⟨b, 0, none⟩) own.length cx] (TS.e Try.prog 51)), .row 45 3 enc45 Ax cx ren]) (fun k => k ≤ 2) (fun k => 2 - k) 0 ?_ ?_ (by omega) ?_
  ·(repeat (first | exact List.Sublist.refl _ | exact List.Sublist.slnil | refine List.Sublist.cons_cons _ ?_ | refine List.Sublist.cons _ ?_))
  ·(repeat (first | exact True.intro | (refine And.intro ?_ ?_; focus (show _ = (_ : Value); first | exact rfl | (refine Eq.trans (b := Value.int IntKind.i64 _) rfl (congrArg (Value.int IntKind.i64) ?_); omega)))))
  intro k hk K hL ρ0
  try dsimp only
  (repeat (first | ((with_reducible refine is_AL ?_); (first | ((with_reducible refine is_bin ?_); (refine At_plain hF (by (exact (rfl : _ = some (Value.bool _)))) ?_)) | with_reducible refine At_nil ?_)) | ((with_reducible refine is_At ?_); (first | with_reducible refine At_seq ?_; intro K hK | with_reducible refine At_region ?_ | with_reducible refine At_then_n ?_ | with_reducible refine At_go (by assumption) ?_))))
  ((with_reducible refine is_cond ?_); (refine At_cond rfl ?_ ?_ <;> (intro hg; try (simp only [decide_eq_true_eq, decide_eq_false_iff_not, beq_iff_eq, bne_iff_ne, beq_eq_false_iff_ne, bne_eq_false_iff_eq, ne_eq, Bool.not_eq_true', Bool.not_eq_false', Bool.not_true, Bool.not_false, Decidable.not_not] at hg); try (exfalso; first | omega | exact hg True.intro))))
  ·have hlt : k < 2 := by omega
   obtain ⟨A1, c1, x, hx, hread, hx1, hk1⟩ : ∃ (A1 : Option Addr) (c1 : Nat) (x : List S45), (#[Value.slice A m.length c, Value.slice (Ax.map fun b => ⟨b, 0, none⟩) own.length cx] : Array Value)[k]? = some (.slice A1 x.length c1) ∧
     (∀ w' Rs, Mem w w' Rs → Res.row 45 3 enc45 Ax cx ren ∈ Rs → Kd.C k45 w' A1 x.length x ∧ x.length ≤ c1) ∧ x.length ≤ 1000 ∧ (k ≠ 0 → RB.RR N (RB.rndsN N) 1 x) := by
    have : k = 0 ∨ k = 1 := by omega
    rcases this with rfl | rfl
    ·exact ⟨A, c, m, rfl, fun w' Rs hw' _ => ⟨Kd.C_below hr hw'.below, hc⟩, by omega, fun h => absurd rfl h⟩
    ·exact ⟨_, cx, ren, by rw [hxl]; rfl, fun w' Rs hw' hm => ⟨C45_of_row hw' hm, row_len hw' hm⟩, by omega, fun _ => hRR2⟩
   (repeat (first | ((with_reducible refine is_AL ?_); (first | ((with_reducible refine is_move ?_); (refine At_plain hF (by (exact (rfl : _ = some (Value.int _ _)))) ?_)) | ((with_reducible refine is_index ?_); (refine At_indexS1 hF rfl rfl rfl (by omega) ?_)))) | ((with_reducible refine is_At ?_); (first | with_reducible refine At_seq ?_; intro K hK | with_reducible refine At_block ?_ | with_reducible refine At_region ?_ | with_reducible refine At_skip ?_ | with_reducible refine At_then_n ?_ | with_reducible refine At_go (by assumption) ?_))))
   refine At_load hF 0 (by exact rfl) rfl (by exact hx) ?_
   refine At_plain hF (by exact rfl) ?_
   refine At_plain hF (by exact rfl) ?_
   refine At_nil ?_
   refine At_then_n ?_
   refine At_go (by assumption) ?_
   refine At_seq ?_
   intro K hK
   refine At_mergeE (fun _ : Unit => [(0, .int .i64 N), (9, .int .i64 (leastF N)), (10, .int .i64 0), (12, .slice A1 x.length c1), (65, .slice (some ⟨b, 0, none⟩) 2 2), (66, .int .i64 2), (67, .int .i64 k)])
    (fun _ => [.obj b (.cells #[.slice A m.length c, .slice (Ax.map fun b => ⟨b, 0, none⟩) own.length cx] (TS.e Try.prog 51)), .row 45 3 enc45 Ax cx ren]) (fun _ => RB.RR N (RB.rndsN N) 1 x) ?_ ?_
   ·intro K' hK'
    (repeat (first | ((with_reducible refine is_AL ?_); (first | ((with_reducible refine is_move ?_); (refine At_plain hF (by (first | exact (rfl : _ = some (Value.int _ _)) | exact (rfl : _ = some (Value.bool _)))) ?_)) | ((with_reducible refine is_bin ?_); (refine At_plain hF (by (exact (rfl : _ = some (Value.bool _)))) ?_)))) | ((with_reducible refine is_At ?_); (first | with_reducible refine At_seq ?_; intro K hK | with_reducible refine At_region ?_))))
    ((with_reducible refine is_guarded ?_); (refine At_guard hF rfl (by decide) rfl ?_ ?_ <;> (intro hg; try (simp only [decide_eq_true_eq, decide_eq_false_iff_not, beq_iff_eq, bne_iff_ne, beq_eq_false_iff_ne, bne_eq_false_iff_eq, ne_eq, Bool.not_eq_true', Bool.not_eq_false', Bool.not_true, Bool.not_false, Decidable.not_not] at hg); try (exfalso; first | omega | exact hg True.intro))))
    ·(repeat ((with_reducible refine is_AL ?_); (first | ((with_reducible refine is_guarded ?_); (refine At_guard_t rfl (by decide) rfl ?_)) | ((with_reducible refine is_move ?_); (refine At_plain hF (by (first | exact (rfl : _ = some (Value.int _ _)) | exact (rfl : _ = some (Value.slice _ _ _)))) ?_)))))
     refine At_callB hF E28s rfl (arg3 (by (first | exact (rfl : _ = (Value.int _ _)) | exact (rfl : _ = (Value.bool _)) | exact (rfl : _ = (Value.pointer _)) | exact (rfl : _ = (Value.slice _ _ _)) | exact (rfl : _ = (Value.map _)) | exact (rfl : _ = (Value.func _ _ _)) | exact (rfl : _ = (Value.tuple _)) | exact (rfl : _ = (Value.agg _)) | exact (rfl : _ = (Value.string _)) | exact (rfl : _ = (Value.nilFunc)) | exact (rfl : _ = (Value.nilIface)))) (by (first | exact (rfl : _ = (Value.int _ _)) | exact (rfl : _ = (Value.bool _)) | exact (rfl : _ = (Value.pointer _)) | exact (rfl : _ = (Value.slice _ _ _)) | exact (rfl : _ = (Value.map _)) | exact (rfl : _ = (Value.func _ _ _)) | exact (rfl : _ = (Value.tuple _)) | exact (rfl : _ = (Value.agg _)) | exact (rfl : _ = (Value.string _)) | exact (rfl : _ = (Value.nilFunc)) | exact (rfl : _ = (Value.nilIface)))) (by (first | exact (rfl : _ = (Value.int _ _)) | exact (rfl : _ = (Value.bool _)) | exact (rfl : _ = (Value.pointer _)) | exact (rfl : _ = (Value.slice _ _ _)) | exact (rfl : _ = (Value.map _)) | exact (rfl : _ = (Value.func _ _ _)) | exact (rfl : _ = (Value.tuple _)) | exact (rfl : _ = (Value.agg _)) | exact (rfl : _ = (Value.string _)) | exact (rfl : _ = (Value.nilFunc)) | exact (rfl : _ = (Value.nilIface))))) (fun w' hw' => RB.chkM_rets w' N 1 hn (by decide) A1 c1 x (hread w' _ hw' (List.mem_cons_of_mem _ (List.mem_cons_self ..))).1 (by omega)) ?_
     unfold RB.chkM
     by_cases hok : RB.okC N (RB.rndsN N) 1 x
     ·rw [if_pos hok]
      (repeat (first | ((with_reducible refine is_AL ?_); (first | ((with_reducible refine is_guarded ?_); (refine At_guard_t rfl (by decide) rfl ?_)) | ((with_reducible refine is_bin ?_); (refine At_plain hF (by (exact (rfl : _ = some (Value.bool _)))) ?_)) | ((with_reducible refine is_pick ?_); (refine At_plain hF (by (exact (rfl : _ = some (Value.bool _)))) ?_)) | with_reducible refine At_nil ?_)) | ((with_reducible refine is_At ?_); (first | with_reducible refine At_skip ?_ | with_reducible refine At_then_n ?_ | with_reducible refine At_go (by assumption) ?_ | ((with_reducible refine is_cond ?_); (refine At_cond_f rfl ?_))))))
      refine At.sub ?_ (hK' () _ (RB.rr_of (by unfold RB.rndsN; omega) hok) ?_)
      ·(repeat (first | exact List.Sublist.refl _ | exact List.Sublist.slnil | refine List.Sublist.cons_cons _ ?_ | refine List.Sublist.cons _ ?_))
      ·(repeat (first | exact True.intro | (refine And.intro ?_ ?_; focus (show _ = (_ : Value); first | exact rfl | (refine Eq.trans (b := Value.int IntKind.i64 _) rfl (congrArg (Value.int IntKind.i64) ?_); omega)))))
     ·rw [if_neg hok]
      (repeat (first | ((with_reducible refine is_AL ?_); (first | ((with_reducible refine is_guarded ?_); (refine At_guard_t rfl (by decide) rfl ?_)) | ((with_reducible refine is_move ?_); (refine At_plain hF (by (exact (rfl : _ = some (Value.int _ _)))) ?_)) | ((with_reducible refine is_bin ?_); (first | ((with_reducible refine is_badd ?_); (refine At_add hF rfl rfl (by omega) ?_)) | refine At_plain hF (by (exact (rfl : _ = some (Value.bool _)))) ?_)) | ((with_reducible refine is_pick ?_); (refine At_plain hF (by (exact (rfl : _ = some (Value.bool _)))) ?_)) | with_reducible refine At_nil ?_)) | ((with_reducible refine is_At ?_); (first | with_reducible refine At_region ?_ | with_reducible refine At_exit ?_ | with_reducible refine At_then_n ?_ | with_reducible refine At_then_e ?_ | with_reducible refine At_inb_e rfl ?_ | with_reducible refine At_go (by assumption) ?_ | ((with_reducible refine is_cond ?_); (refine At_cond_t rfl ?_))))))
      refine At.sub ?_ (hL (k + 1) _ (by omega) (by omega) ?_)
      ·(repeat (first | exact List.Sublist.refl _ | exact List.Sublist.slnil | refine List.Sublist.cons_cons _ ?_ | refine List.Sublist.cons _ ?_))
      ·(repeat (first | exact True.intro | (refine And.intro ?_ ?_; focus (show _ = (_ : Value); first | exact rfl | (refine Eq.trans (b := Value.int IntKind.i64 _) rfl (congrArg (Value.int IntKind.i64) ?_); omega)))))
    ·(repeat (first | ((with_reducible refine is_AL ?_); (first | ((with_reducible refine is_guarded ?_); (refine At_guard_f hF rfl (by decide) rfl rfl ?_)) | ((with_reducible refine is_pick ?_); (refine At_plain hF (by (exact (rfl : _ = some (Value.bool _)))) ?_)) | with_reducible refine At_nil ?_)) | ((with_reducible refine is_At ?_); (first | with_reducible refine At_skip ?_ | with_reducible refine At_then_n ?_ | with_reducible refine At_go (by assumption) ?_ | ((with_reducible refine is_cond ?_); (refine At_cond_f rfl ?_))))))
     refine At.sub ?_ (hK' () _ (hk1 (by omega)) ?_)
     ·(repeat (first | exact List.Sublist.refl _ | exact List.Sublist.slnil | refine List.Sublist.cons_cons _ ?_ | refine List.Sublist.cons _ ?_))
     ·(repeat (first | exact True.intro | (refine And.intro ?_ ?_; focus (show _ = (_ : Value); first | exact rfl | (refine Eq.trans (b := Value.int IntKind.i64 _) rfl (congrArg (Value.int IntKind.i64) ?_); omega)))))
   ·intro _ ρ1 hR1
    try dsimp only
    obtain ⟨es, r, hff, hge, hiff⟩ := lst_law hn hR1
    have hok := fun es r hf => foes_ok N x (by omega) es r hf
    (repeat (first | ((with_reducible refine is_AL ?_); ((with_reducible refine is_move ?_); (refine At_plain hF (by (first | exact (rfl : _ = some (Value.int _ _)) | exact (rfl : _ = some (Value.slice _ _ _)))) ?_))) | ((with_reducible refine is_At ?_); (first | with_reducible refine At_seq ?_; intro K hK | with_reducible refine At_region ?_ | with_reducible refine At_go (by assumption) ?_))))
    refine At_callB hF E13r rfl (arg2 (by (first | exact (rfl : _ = (Value.int _ _)) | exact (rfl : _ = (Value.bool _)) | exact (rfl : _ = (Value.pointer _)) | exact (rfl : _ = (Value.slice _ _ _)) | exact (rfl : _ = (Value.map _)) | exact (rfl : _ = (Value.func _ _ _)) | exact (rfl : _ = (Value.tuple _)) | exact (rfl : _ = (Value.agg _)) | exact (rfl : _ = (Value.string _)) | exact (rfl : _ = (Value.nilFunc)) | exact (rfl : _ = (Value.nilIface)))) (by (first | exact (rfl : _ = (Value.int _ _)) | exact (rfl : _ = (Value.bool _)) | exact (rfl : _ = (Value.pointer _)) | exact (rfl : _ = (Value.slice _ _ _)) | exact (rfl : _ = (Value.map _)) | exact (rfl : _ = (Value.func _ _ _)) | exact (rfl : _ = (Value.tuple _)) | exact (rfl : _ = (Value.agg _)) | exact (rfl : _ = (Value.string _)) | exact (rfl : _ = (Value.nilFunc)) | exact (rfl : _ = (Value.nilIface))))) (fun w' hw' => by
     have h1 := hread w' _ hw' (List.mem_cons_of_mem _ (List.mem_cons_self ..))
     exact value_rets N A1 c1 x w' h1.1 h1.2 (by omega)) ?_
    rw [hff]
    dsimp only
    rw [Int.toNat_natCast]
    (repeat (first | ((with_reducible refine is_AL ?_); (first | ((with_reducible refine is_move ?_); (refine At_plain hF (by (first | exact (rfl : _ = some (Value.int _ _)) | exact (rfl : _ = some (Value.slice _ _ _)) | exact (rfl : _ = some (Value.tuple _)))) ?_)) | ((with_reducible refine is_assign ?_); (refine At_plain hF (by (exact (rfl : _ = some (Value.int _ _)))) ?_)) | ((with_reducible refine is_extract ?_); (refine At_plain hF (by (exact (rfl : _ = some (Value.int _ _)))) ?_)) | with_reducible refine At_nil ?_)) | ((with_reducible refine is_At ?_); (first | with_reducible refine At_seq ?_; intro K hK | with_reducible refine At_region ?_ | with_reducible refine At_then_n ?_ | with_reducible refine At_go (by assumption) ?_))))
    refine At_callM (Post := fun u Rs => matPost N x u Rs) hF E11s rfl (arg2 (by (first | exact (rfl : _ = (Value.int _ _)) | exact (rfl : _ = (Value.bool _)) | exact (rfl : _ = (Value.pointer _)) | exact (rfl : _ = (Value.slice _ _ _)) | exact (rfl : _ = (Value.map _)) | exact (rfl : _ = (Value.func _ _ _)) | exact (rfl : _ = (Value.tuple _)) | exact (rfl : _ = (Value.agg _)) | exact (rfl : _ = (Value.string _)) | exact (rfl : _ = (Value.nilFunc)) | exact (rfl : _ = (Value.nilIface)))) (by (first | exact (rfl : _ = (Value.int _ _)) | exact (rfl : _ = (Value.bool _)) | exact (rfl : _ = (Value.pointer _)) | exact (rfl : _ = (Value.slice _ _ _)) | exact (rfl : _ = (Value.map _)) | exact (rfl : _ = (Value.func _ _ _)) | exact (rfl : _ = (Value.tuple _)) | exact (rfl : _ = (Value.agg _)) | exact (rfl : _ = (Value.string _)) | exact (rfl : _ = (Value.nilFunc)) | exact (rfl : _ = (Value.nilIface))))) (fun w' hw' => by
     have h1 := hread w' _ hw' (List.mem_cons_of_mem _ (List.mem_cons_self ..))
     exact matrix_rets N A1 c1 x w' h1.1 h1.2 hok) ?_
    intro u Rs hp
    unfold matPost at hp
    rw [hff] at hp
    obtain ⟨bc, bs, M, ys, hall, hM, hbs, rfl, rfl⟩ := hp
    obtain ⟨_, _, hes⟩ := hok es r hff
    simp only [Int.toNat_natCast] at hM hbs
    have hM' : M = cntM N (es.filterMap (nxt es r)) := hM.trans (mat_eq hes hall)
    rw [Int.toNat_natCast, buf_map]
    simp only [List.cons_append, List.nil_append]
    rw [← hM'] at hge hiff ⊢
    have hMl : M.length = N := by rw [hM', cntM_len]
    have hMr : ∀ i : Nat, i < N → (M.getD i []).length = N := fun i hi => by rw [hM']; exact cntM_row _ _ _ (getD_mem' (by rw [cntM_len]; exact hi))
    clear hM hM' hall hok hff hes
    generalize sqsM M = vv at *
    (repeat (first | ((with_reducible refine is_AL ?_); (first | ((with_reducible refine is_guarded ?_); (refine At_guard_t rfl (by decide) rfl ?_)) | ((with_reducible refine is_move ?_); (refine At_plain hF (by (first | exact (rfl : _ = some (Value.int _ _)) | exact (rfl : _ = some (Value.bool _)) | exact (rfl : _ = some (Value.tuple _)))) ?_)) | ((with_reducible refine is_bin ?_); (refine At_plain hF (by (exact (rfl : _ = some (Value.bool _)))) ?_)) | ((with_reducible refine is_assign ?_); (refine At_plain hF (by (first | exact (rfl : _ = some (Value.int _ _)) | exact (rfl : _ = some (Value.slice _ _ _)))) ?_)) | ((with_reducible refine is_pick ?_); (refine At_plain hF (by (exact (rfl : _ = some (Value.bool _)))) ?_)) | ((with_reducible refine is_extract ?_); (refine At_plain hF (by (first | exact (rfl : _ = some (Value.int _ _)) | exact (rfl : _ = some (Value.slice _ _ _)))) ?_)) | with_reducible refine At_nil ?_)) | ((with_reducible refine is_At ?_); (first | with_reducible refine At_seq ?_; intro K hK | with_reducible refine At_region ?_ | with_reducible refine At_then_n ?_ | with_reducible refine At_go (by assumption) ?_))))
    ((with_reducible refine is_guarded ?_); (refine At_guard hF rfl (by decide) rfl ?_ ?_ <;> (intro hg; try (simp only [decide_eq_true_eq, decide_eq_false_iff_not, beq_iff_eq, bne_iff_ne, beq_eq_false_iff_ne, bne_eq_false_iff_eq, ne_eq, Bool.not_eq_true', Bool.not_eq_false', Bool.not_true, Bool.not_false, Decidable.not_not] at hg); try (exfalso; first | omega | exact hg True.intro))))
    (repeat (first | ((with_reducible refine is_AL ?_); (first | ((with_reducible refine is_guarded ?_); (refine At_guard_t rfl (by decide) rfl ?_)) | ((with_reducible refine is_move ?_); (refine At_plain hF (by (first | exact (rfl : _ = some (Value.int _ _)) | exact (rfl : _ = some (Value.slice _ _ _)))) ?_)) | ((with_reducible refine is_bin ?_); (refine At_plain hF (by (exact (rfl : _ = some (Value.bool _)))) ?_)) | ((with_reducible refine is_pick ?_); (refine At_plain hF (by (exact (rfl : _ = some (Value.bool _)))) ?_)) | ((with_reducible refine is_call ?_); (refine At_len hF rfl ?_)) | with_reducible refine At_nil ?_)) | ((with_reducible refine is_At ?_); (first | with_reducible refine At_then_n ?_ | with_reducible refine At_go (by assumption) ?_))))
    ((with_reducible refine is_cond ?_); (refine At_cond rfl ?_ ?_ <;> (intro hg; try (simp only [decide_eq_true_eq, decide_eq_false_iff_not, beq_iff_eq, bne_iff_ne, beq_eq_false_iff_ne, bne_eq_false_iff_eq, ne_eq, Bool.not_eq_true', Bool.not_eq_false', Bool.not_true, Bool.not_false, Decidable.not_not] at hg); try (exfalso; first | omega | exact hg True.intro))))
    (repeat (first | ((with_reducible refine is_AL ?_); (first | ((with_reducible refine is_move ?_); (refine At_plain hF (by (first | exact (rfl : _ = some (Value.int _ _)) | exact (rfl : _ = some (Value.slice _ _ _)))) ?_)) | ((with_reducible refine is_assign ?_); (refine At_plain hF (by (exact (rfl : _ = some (Value.bool _)))) ?_)) | ((with_reducible refine is_call ?_); (refine At_len hF rfl ?_)) | with_reducible refine At_nil ?_)) | ((with_reducible refine is_At ?_); (first | with_reducible refine At_seq ?_; intro K hK | with_reducible refine At_block ?_ | with_reducible refine At_region ?_ | with_reducible refine At_skip ?_ | with_reducible refine At_then_n ?_ | with_reducible refine At_go (by assumption) ?_))))
    have hall0 : (0 : Nat) ≤ N := Nat.zero_le _
    refine At_loop (fun i : Nat => [(0, .int .i64 N), (9, .int .i64 (leastF N)), (10, .int .i64 0), (13, .int .i64 vv), (65, .slice (some ⟨b, 0, none⟩) 2 2), (66, .int .i64 2), (67, .int .i64 k), (17, .bool (muM (M.take i))), (113, .slice (some ⟨bc, 0, none⟩) N N), (114, .int .i64 N), (115, .int .i64 i)])
     (fun _ => [.obj bc (.cells (buf (sc (gv N)) bs []) 33), .grid 3 (Value.int .i64) bs M, .obj b (.cells #[.slice A m.length c, .slice (Ax.map fun b => ⟨b, 0, none⟩) own.length cx] (TS.e Try.prog 51)), .row 45 3 enc45 Ax cx ren]) (fun i => i ≤ N) (fun i => N - i) 0 ?_ ?_ (Nat.zero_le _) ?_
    ·(repeat (first | exact List.Sublist.refl _ | exact List.Sublist.slnil | refine List.Sublist.cons_cons _ ?_ | refine List.Sublist.cons _ ?_))
    ·(repeat (first | exact True.intro | (refine And.intro ?_ ?_; focus (show _ = (_ : Value); first | exact rfl | (refine Eq.trans (b := Value.int IntKind.i64 _) rfl (congrArg (Value.int IntKind.i64) ?_); omega)))))
    intro i hi K hI ρ2
    try dsimp only
    (repeat (first | ((with_reducible refine is_AL ?_); (first | ((with_reducible refine is_bin ?_); (refine At_plain hF (by (exact (rfl : _ = some (Value.bool _)))) ?_)) | with_reducible refine At_nil ?_)) | ((with_reducible refine is_At ?_); (first | with_reducible refine At_seq ?_; intro K hK | with_reducible refine At_region ?_ | with_reducible refine At_then_n ?_ | with_reducible refine At_go (by assumption) ?_))))
    ((with_reducible refine is_cond ?_); (refine At_cond rfl ?_ ?_ <;> (intro hg; try (simp only [decide_eq_true_eq, decide_eq_false_iff_not, beq_iff_eq, bne_iff_ne, beq_eq_false_iff_ne, bne_eq_false_iff_eq, ne_eq, Bool.not_eq_true', Bool.not_eq_false', Bool.not_true, Bool.not_false, Decidable.not_not] at hg); try (exfalso; first | omega | exact hg True.intro))))
    ·have hil : i < N := by omega
     have hrl := hMr i hil
     have hms := muM_snoc M i (by omega)
     (repeat (first | ((with_reducible refine is_AL ?_); (first | ((with_reducible refine is_move ?_); (refine At_plain hF (by (first | exact (rfl : _ = some (Value.int _ _)) | exact (rfl : _ = some (Value.slice _ _ _)))) ?_)) | ((with_reducible refine is_assign ?_); (refine At_plain hF (by (exact (rfl : _ = some (Value.slice _ _ _)))) ?_)) | ((with_reducible refine is_call ?_); (refine At_len hF rfl ?_)) | ((with_reducible refine is_load ?_); (refine At_load hF 0 (by exact rfl) rfl (by (exact buf_getI _ (by omega))) ?_)) | ((with_reducible refine is_index ?_); (refine At_indexS1 hF rfl rfl rfl (by omega) ?_)) | with_reducible refine At_nil ?_)) | ((with_reducible refine is_At ?_); (first | with_reducible refine At_seq ?_; intro K hK | with_reducible refine At_block ?_ | with_reducible refine At_region ?_ | with_reducible refine At_skip ?_ | with_reducible refine At_then_n ?_ | with_reducible refine At_go (by assumption) ?_))))
     refine At_loop (fun j : Nat => [(0, .int .i64 N), (9, .int .i64 (leastF N)), (10, .int .i64 0), (13, .int .i64 vv), (65, .slice (some ⟨b, 0, none⟩) 2 2), (66, .int .i64 2), (67, .int .i64 k), (17, .bool (muM (M.take i) || muR ((M.getD i []).take j))), (113, .slice (some ⟨bc, 0, none⟩) N N), (114, .int .i64 N), (115, .int .i64 i), (119, .slice (some ⟨bs.getD i default, 0, none⟩) N N), (120, .int .i64 N), (121, .int .i64 j)])
      (fun _ => [.obj bc (.cells (buf (sc (gv N)) bs []) 33), .grid 3 (Value.int .i64) bs M, .obj b (.cells #[.slice A m.length c, .slice (Ax.map fun b => ⟨b, 0, none⟩) own.length cx] (TS.e Try.prog 51)), .row 45 3 enc45 Ax cx ren]) (fun j => j ≤ N) (fun j => N - j) 0 ?_ ?_ (Nat.zero_le _) ?_
     ·(repeat (first | exact List.Sublist.refl _ | exact List.Sublist.slnil | refine List.Sublist.cons_cons _ ?_ | refine List.Sublist.cons _ ?_))
     ·simp only [List.take_zero, muR, List.any_nil, Bool.or_false]
      (repeat (first | exact True.intro | (refine And.intro ?_ ?_; focus (show _ = (_ : Value); first | exact rfl | (refine Eq.trans (b := Value.int IntKind.i64 _) rfl (congrArg (Value.int IntKind.i64) ?_); omega)))))
     intro j hj K hJ ρ3
     try dsimp only
     (repeat (first | ((with_reducible refine is_AL ?_); (first | ((with_reducible refine is_bin ?_); (refine At_plain hF (by (exact (rfl : _ = some (Value.bool _)))) ?_)) | with_reducible refine At_nil ?_)) | ((with_reducible refine is_At ?_); (first | with_reducible refine At_seq ?_; intro K hK | with_reducible refine At_region ?_ | with_reducible refine At_then_n ?_ | with_reducible refine At_go (by assumption) ?_))))
     ((with_reducible refine is_cond ?_); (refine At_cond rfl ?_ ?_ <;> (intro hg; try (simp only [decide_eq_true_eq, decide_eq_false_iff_not, beq_iff_eq, bne_iff_ne, beq_eq_false_iff_ne, bne_eq_false_iff_eq, ne_eq, Bool.not_eq_true', Bool.not_eq_false', Bool.not_true, Bool.not_false, Decidable.not_not] at hg); try (exfalso; first | omega | exact hg True.intro))))
     ·have hjl : j < N := by omega
      have hrs := muR_snoc (M.getD i []) j (by omega)
      (repeat (first | ((with_reducible refine is_AL ?_); ((with_reducible refine is_index ?_); (refine At_indexS1 hF rfl rfl rfl (by omega) ?_))) | ((with_reducible refine is_At ?_); (first | with_reducible refine At_seq ?_; intro K hK | with_reducible refine At_block ?_ | with_reducible refine At_region ?_ | with_reducible refine At_skip ?_ | with_reducible refine At_then_n ?_ | with_reducible refine At_go (by assumption) ?_))))
      refine At_loadGrid (r := i) hF 1 (by exact rfl) rfl (by omega) (by omega) ?_
      (repeat (first | ((with_reducible refine is_AL ?_); (first | ((with_reducible refine is_move ?_); (refine At_plain hF (by (exact (rfl : _ = some (Value.bool _)))) ?_)) | ((with_reducible refine is_assign ?_); (refine At_plain hF (by (exact (rfl : _ = some (Value.int _ _)))) ?_)) | with_reducible refine At_nil ?_)) | ((with_reducible refine is_At ?_); (first | with_reducible refine At_region ?_ | with_reducible refine At_then_n ?_ | with_reducible refine At_go (by assumption) ?_))))
      cases hbb : (muM (M.take i) || muR ((M.getD i []).take j)) with
      | true =>
       have e : (muM (M.take i) || muR ((M.getD i []).take (j + 1))) = true := by rw [hrs, ← Bool.or_assoc, hbb, Bool.true_or]
       (repeat (first | ((with_reducible refine is_AL ?_); (first | ((with_reducible refine is_guarded ?_); (refine At_guard_f hF rfl (by decide) rfl rfl ?_)) | ((with_reducible refine is_move ?_); (refine At_plain hF (by (exact (rfl : _ = some (Value.int _ _)))) ?_)) | ((with_reducible refine is_bin ?_); ((with_reducible refine is_badd ?_); (refine At_add hF rfl rfl (by omega) ?_))) | ((with_reducible refine is_assign ?_); (refine At_plain hF (by (exact (rfl : _ = some (Value.bool _)))) ?_)) | ((with_reducible refine is_pick ?_); (refine At_plain hF (by (exact (rfl : _ = some (Value.bool _)))) ?_)) | with_reducible refine At_nil ?_)) | ((with_reducible refine is_At ?_); (first | with_reducible refine At_region ?_ | with_reducible refine At_then_n ?_ | with_reducible refine At_inb_n ?_ | with_reducible refine At_go (by assumption) ?_))))
       refine At.sub ?_ (hJ (j + 1) _ (by omega) (by omega) ?_)
       ·(repeat (first | exact List.Sublist.refl _ | exact List.Sublist.slnil | refine List.Sublist.cons_cons _ ?_ | refine List.Sublist.cons _ ?_))
       ·rw [e]
        (repeat (first | exact True.intro | (refine And.intro ?_ ?_; focus (show _ = (_ : Value); first | exact rfl | (refine Eq.trans (b := Value.int IntKind.i64 _) rfl (congrArg (Value.int IntKind.i64) ?_); omega)))))
      | false =>
       have e : (muM (M.take i) || muR ((M.getD i []).take (j + 1))) = decide (1 < (M.getD i []).getD j default) := by rw [hrs, ← Bool.or_assoc, hbb, Bool.false_or]
       (repeat (first | ((with_reducible refine is_AL ?_); (first | ((with_reducible refine is_guarded ?_); (refine At_guard_t rfl (by decide) rfl ?_)) | ((with_reducible refine is_move ?_); (refine At_plain hF (by (exact (rfl : _ = some (Value.int _ _)))) ?_)) | ((with_reducible refine is_bin ?_); (first | ((with_reducible refine is_badd ?_); (refine At_add hF rfl rfl (by omega) ?_)) | refine At_plain hF (by (exact (rfl : _ = some (Value.bool _)))) ?_)) | ((with_reducible refine is_assign ?_); (refine At_plain hF (by (exact (rfl : _ = some (Value.bool _)))) ?_)) | ((with_reducible refine is_pick ?_); (refine At_plain hF (by (exact (rfl : _ = some (Value.bool _)))) ?_)) | with_reducible refine At_nil ?_)) | ((with_reducible refine is_At ?_); (first | with_reducible refine At_region ?_ | with_reducible refine At_then_n ?_ | with_reducible refine At_inb_n ?_ | with_reducible refine At_go (by assumption) ?_))))
       refine At.sub ?_ (hJ (j + 1) _ (by omega) (by omega) ?_)
       ·(repeat (first | exact List.Sublist.refl _ | exact List.Sublist.slnil | refine List.Sublist.cons_cons _ ?_ | refine List.Sublist.cons _ ?_))
       ·rw [e]
        (repeat (first | exact True.intro | (refine And.intro ?_ ?_; focus (show _ = (_ : Value); first | exact rfl | (refine Eq.trans (b := Value.int IntKind.i64 _) rfl (congrArg (Value.int IntKind.i64) ?_); omega)))))
     ·obtain rfl : j = N := by omega
      have e : (M.getD i []).take j = M.getD i [] := List.take_of_length_le (by omega)
      rw [e, ← hms]
      (repeat (first | ((with_reducible refine is_AL ?_); (first | ((with_reducible refine is_move ?_); (refine At_plain hF (by (exact (rfl : _ = some (Value.int _ _)))) ?_)) | ((with_reducible refine is_bin ?_); ((with_reducible refine is_badd ?_); (refine At_add hF rfl rfl (by omega) ?_))) | with_reducible refine At_nil ?_)) | ((with_reducible refine is_At ?_); (first | with_reducible refine At_region ?_ | with_reducible refine At_exit ?_ | with_reducible refine At_then_n ?_ | with_reducible refine At_then_e ?_ | with_reducible refine At_inb_n ?_ | with_reducible refine At_inb_e rfl ?_ | with_reducible refine At_go (by assumption) ?_))))
      refine At.sub ?_ (hI (i + 1) _ (by omega) (by omega) ?_)
      ·(repeat (first | exact List.Sublist.refl _ | exact List.Sublist.slnil | refine List.Sublist.cons_cons _ ?_ | refine List.Sublist.cons _ ?_))
      ·(repeat (first | exact True.intro | (refine And.intro ?_ ?_; focus (show _ = (_ : Value); first | exact rfl | (refine Eq.trans (b := Value.int IntKind.i64 _) rfl (congrArg (Value.int IntKind.i64) ?_); omega)))))
    ·obtain rfl : i = N := by omega
     have eM : M.take i = M := List.take_of_length_le (by omega)
     rw [eM]
     (repeat (first | ((with_reducible refine is_AL ?_); (first | ((with_reducible refine is_move ?_); (refine At_plain hF (by (first | exact (rfl : _ = some (Value.int _ _)) | exact (rfl : _ = some (Value.bool _)))) ?_)) | ((with_reducible refine is_bin ?_); (first | ((with_reducible refine is_brem ?_); (refine At_rem hF rfl rfl (by omega) ?_)) | refine At_plain hF (by (exact (rfl : _ = some (Value.bool _)))) ?_)))) | ((with_reducible refine is_At ?_); (first | with_reducible refine At_seq ?_; intro K hK | with_reducible refine At_region ?_ | with_reducible refine At_exit ?_ | with_reducible refine At_then_n ?_ | with_reducible refine At_then_e ?_ | with_reducible refine At_inb_e rfl ?_ | with_reducible refine At_go (by assumption) ?_))))
     by_cases he : i % 2 = 0
     ·have hb : ((i : Int) % 2 == 0) = true := by rw [beq_iff_eq]; omega
      have hmm : (vv == leastF i) = !muM M := by
       have h1 := hiff he
       rw [← muM_iff] at h1
       cases hm : muM M with
       | true =>
        rw [hm] at h1
        simp only [Bool.not_true, beq_eq_false_iff_ne, ne_eq]
        exact fun h => absurd (h1.1 h) (by decide)
       | false =>
        simp only [Bool.not_false, beq_iff_eq]
        exact h1.2 hm
      rw [hb]
      (repeat (first | ((with_reducible refine is_AL ?_); (first | ((with_reducible refine is_guarded ?_); (refine At_guard_t rfl (by decide) rfl ?_)) | ((with_reducible refine is_move ?_); (refine At_plain hF (by (first | exact (rfl : _ = some (Value.int _ _)) | exact (rfl : _ = some (Value.bool _)))) ?_)) | ((with_reducible refine is_bin ?_); (first | refine At_plain hF (by (exact (rfl : _ = some (Value.bool _)))) ?_ | refine At_eqB hF (by kernel_rfl) rfl rfl ?_)) | ((with_reducible refine is_pick ?_); (refine At_plain hF (by (exact (rfl : _ = some (Value.bool _)))) ?_)) | with_reducible refine At_nil ?_)) | ((with_reducible refine is_At ?_); (first | with_reducible refine At_then_n ?_ | with_reducible refine At_go (by assumption) ?_))))
      rw [hmm]
      cases muM M
      all_goals
       (repeat (first | ((with_reducible refine is_AL ?_); (first | ((with_reducible refine is_move ?_); (refine At_plain hF (by (exact (rfl : _ = some (Value.int _ _)))) ?_)) | ((with_reducible refine is_bin ?_); ((with_reducible refine is_badd ?_); (refine At_add hF rfl rfl (by omega) ?_))) | with_reducible refine At_nil ?_)) | ((with_reducible refine is_At ?_); (first | with_reducible refine At_region ?_ | with_reducible refine At_skip ?_ | with_reducible refine At_then_n ?_ | with_reducible refine At_inb_n ?_ | with_reducible refine At_go (by assumption) ?_ | ((with_reducible refine is_cond ?_); (refine At_cond_f rfl ?_))))))
       refine At.sub ?_ (hL (k + 1) _ (by omega) (by omega) ?_)
       ·(repeat (first | exact List.Sublist.refl _ | exact List.Sublist.slnil | refine List.Sublist.cons_cons _ ?_ | refine List.Sublist.cons _ ?_))
       ·(repeat (first | exact True.intro | (refine And.intro ?_ ?_; focus (show _ = (_ : Value); first | exact rfl | (refine Eq.trans (b := Value.int IntKind.i64 _) rfl (congrArg (Value.int IntKind.i64) ?_); omega)))))
     ·have hb : ((i : Int) % 2 == 0) = false := by rw [beq_eq_false_iff_ne]; omega
      rw [hb]
      (repeat (first | ((with_reducible refine is_AL ?_); (first | ((with_reducible refine is_guarded ?_); (refine At_guard_f hF rfl (by decide) rfl rfl ?_)) | ((with_reducible refine is_move ?_); (refine At_plain hF (by (exact (rfl : _ = some (Value.int _ _)))) ?_)) | ((with_reducible refine is_bin ?_); ((with_reducible refine is_badd ?_); (refine At_add hF rfl rfl (by omega) ?_))) | ((with_reducible refine is_pick ?_); (refine At_plain hF (by (exact (rfl : _ = some (Value.bool _)))) ?_)) | with_reducible refine At_nil ?_)) | ((with_reducible refine is_At ?_); (first | with_reducible refine At_region ?_ | with_reducible refine At_skip ?_ | with_reducible refine At_then_n ?_ | with_reducible refine At_inb_n ?_ | with_reducible refine At_go (by assumption) ?_ | ((with_reducible refine is_cond ?_); (refine At_cond_f rfl ?_))))))
      refine At.sub ?_ (hL (k + 1) _ (by omega) (by omega) ?_)
      ·(repeat (first | exact List.Sublist.refl _ | exact List.Sublist.slnil | refine List.Sublist.cons_cons _ ?_ | refine List.Sublist.cons _ ?_))
      ·(repeat (first | exact True.intro | (refine And.intro ?_ ?_; focus (show _ = (_ : Value); first | exact rfl | (refine Eq.trans (b := Value.int IntKind.i64 _) rfl (congrArg (Value.int IntKind.i64) ?_); omega)))))
  ·(repeat (first | ((with_reducible refine is_AL ?_); (first | ((with_reducible refine is_assign ?_); (refine At_plain hF (by (exact (rfl : _ = some (Value.bool _)))) ?_)) | with_reducible refine At_nil ?_)) | ((with_reducible refine is_At ?_); (first | with_reducible refine At_seq ?_; intro K hK | with_reducible refine At_region ?_ | with_reducible refine At_ret ?_ | with_reducible refine At_exit ?_ | with_reducible refine At_then_n ?_ | with_reducible refine At_then_e ?_ | with_reducible refine At_inb_e rfl ?_ | with_reducible refine At_go (by assumption) ?_))))
   exact At_ret1 rfl (rv_tmp (by decide)) (fun w' hw' => ⟨_, rfl, rfl, hw'.below⟩)
theorem law_CarryLeast.calls (n : Int) (A : Option Addr) (c : Nat) (m : List S45) (A2 : Option Addr) (c2 : Nat) (l : List Int) (r : Bool) (w : World) (hr : Kd.C k45 w A m.length m) (hc : m.length ≤ c) (hr2 : Kd.C (Kd.int .u8) w A2 l.length l) (hc2 : l.length ≤ c2) (h : r = true ∧ ∀ x ∈ l, (Lit.int .u8 x).wf = true) :
  Calls Try.prog 8 #[.int .i64 n, .slice A m.length c, .slice A2 l.length c2] w fun e w' => e = .returned (.bool r) ∧ Below w.heap.size w w' := by
 obtain ⟨rfl, h8⟩ := h
 have hl8 : ∀ x ∈ l, 0 ≤ x ∧ x ≤ 255 := fun x hx => by
  have := h8 x hx
  simp only [Lit.wf, Bool.and_eq_true, decide_eq_true_eq] at this
  exact this
 exact (least_law n A c m A2 c2 l w hr hc hr2 hc2 hl8).mono (by rintro e w' ⟨u, rfl, rfl, hb⟩; exact ⟨rfl, hb⟩)
end Go.Proofs.Ytcjpghiceebkfaa.P
