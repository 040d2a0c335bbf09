/- The rounds turned: plain. -/
import Derived.Test.YtcjpghiceebkfaaP11
import Derived.Test.YtcjpghiceebkfaaEnts
namespace Go.Proofs.Ytcjpghiceebkfaa.P
open Go.RowKit Go.Proofs.YtcjpghiceebkfaaW.PrintWords Go.Proofs.YtcjpghiceebkfaaW.PrintLast Go.Proofs.YtcjpghiceebkfaaW.PrintMore
open XW
set_option linter.unusedSimpArgs false
set_option linter.unusedVariables false

theorem u8_rng {n : Int} (h : (Lit.int .u8 n).wf = true) : 0 ≤ n ∧ n ≤ 255 := by
  simp only [Lit.wf, Bool.and_eq_true, decide_eq_true_eq] at h
  exact h
theorem rounds_l0 (m : List S45) (hm : m.length ≤ 1000000) (hb : ∀ x ∈ m, 0 ≤ x.f0 ∧ x.f0 ≤ 63) : ∀ (d i k : Nat) (s : Int), m.length - i ≤ d → d + 1 ≤ k → i ≤ m.length → fastiref22_Rounds.l0 k m s i = some ((m.drop i).foldl rndF s) := by
  intro d
  induction d with
  | zero =>
    intro i k s hd hk hi
    obtain ⟨k, rfl⟩ : ∃ k', k = k' + 1 := ⟨k - 1, by omega⟩
    rw [fastiref22_Rounds.l0, if_neg (by omega), List.drop_of_length_le (by omega)]; rfl
  | succ d ih =>
    intro i k s hd hk hi
    obtain ⟨k, rfl⟩ : ∃ k', k = k' + 1 := ⟨k - 1, by omega⟩
    by_cases h : i < m.length
    · have hx := hb _ (getD_mem' (d := z45) h)
      have e : m.drop i = m.getD i z45 :: m.drop (i + 1) := by
        rw [List.drop_eq_getElem_cons h, List.getD_eq_getElem?_getD, List.getElem?_eq_getElem h]; rfl
      rw [fastiref22_Rounds.l0, if_pos (by omega), if_pos (by omega), rd_T45, Int.toNat_natCast, w64 (by omega), w64 (by omega), e, List.foldl_cons]
      have e2 : mx s ((m.getD i z45).f0 + 1) = rndF s (m.getD i z45) := by unfold mx rndF; split <;> omega
      rw [e2]
      exact ih (i + 1) k _ (by omega) (by omega) h
    · rw [fastiref22_Rounds.l0, if_neg (by omega), List.drop_of_length_le (by omega)]; rfl
theorem rounds_f (m : List S45) (hm : m.length ≤ 1000000) (hb : ∀ x ∈ m, 0 ≤ x.f0 ∧ x.f0 ≤ 63) (k : Nat) (hk : m.length + 1 ≤ k) : fastiref22_Rounds.f k m = some (roundsF m) := by
  rw [fastiref22_Rounds.f]
  have := rounds_l0 m hm hb m.length 0 k 0 (by omega) hk (by omega)
  rwa [List.drop_zero] at this

def turnS (g : Int → Int) (x : S45) : S45 := ⟨g x.f0, x.f1, x.f2⟩
def turnE (g : Int → Int) (e : (Int × Int) × Int) : (Int × Int) × Int := ((e.1.1, g e.1.2), e.2)
theorem ents_turn (g : Int → Int) (m : List S45) : ents (m.map (turnS g)) = (ents m).map (turnE g) := by
  induction m with
  | nil => rfl
  | cons x m ih => rw [List.map_cons, show ents (turnS g x :: m.map (turnS g)) = ent2 (turnS g x) ++ ents (m.map (turnS g)) from rfl, ih, show ents (x :: m) = ent2 x ++ ents m from rfl, List.map_append]; rfl
structure Turns (R : Int) (g : Int → Int) : Prop where
  rng : ∀ r, 0 ≤ r → r < R → 0 ≤ g r ∧ g r < R
  inj : ∀ r s, 0 ≤ r → r < R → 0 ≤ s → s < R → g r = g s → r = s
theorem nodup_map_on {α β : Type} {f : α → β} : ∀ {l : List α}, (∀ a ∈ l, ∀ b ∈ l, f a = f b → a = b) → l.Nodup → (l.map f).Nodup
  | [], _, _ => by simp
  | a :: l, hf, hn => by
    rw [List.nodup_cons] at hn
    rw [List.map_cons, List.nodup_cons]
    refine ⟨fun h => ?_, nodup_map_on (fun x hx y hy => hf x (by simp [hx]) y (by simp [hy])) hn.2⟩
    obtain ⟨b, hb, e⟩ := List.mem_map.1 h
    exact hn.1 (hf a (by simp) b (by simp [hb]) e.symm ▸ hb)
theorem turn_nodup {R : Int} {g : Int → Int} (hg : Turns R g) {es : Ent} (hr : ∀ e ∈ es, 0 ≤ e.1.2 ∧ e.1.2 < R) (hn : (keys es).Nodup) : (keys (es.map (turnE g))).Nodup := by
  have e : keys (es.map (turnE g)) = (keys es).map fun k => (k.1, g k.2) := by simp [keys, turnE, List.map_map, Function.comp_def]
  rw [e]
  refine nodup_map_on ?_ hn
  rintro ⟨t, r⟩ ha ⟨t2, r2⟩ hb h
  obtain ⟨e1, h1, h2⟩ := List.mem_map.1 ha
  obtain ⟨e2, h3, h4⟩ := List.mem_map.1 hb
  have k1 := hr e1 h1
  have k2 := hr e2 h3
  rw [h2] at k1; rw [h4] at k2
  dsimp only at k1 k2 h
  simp only [Prod.mk.injEq] at h
  rw [h.1, hg.inj r r2 k1.1 k1.2 k2.1 k2.2 h.2]
theorem turn_get {R : Int} {g : Int → Int} (hg : Turns R g) {es : Ent} (hr : ∀ e ∈ es, 0 ≤ e.1.2 ∧ e.1.2 < R) (hn : (keys es).Nodup) (t r : Int) (h : 0 ≤ r ∧ r < R) : mget (es.map (turnE g)) (t, g r) = mget es (t, r) := by
  have hn' := turn_nodup hg hr hn
  cases hm : mget es (t, r) with
  | some v =>
    rw [mget_iff hn']
    exact List.mem_map.2 ⟨_, mget_mem hm, rfl⟩
  | none =>
    rw [mget_none_iff] at hm ⊢
    intro hc
    obtain ⟨e, he, hk⟩ := List.mem_map.1 hc
    obtain ⟨e0, he0, rfl⟩ := List.mem_map.1 he
    simp only [turnE, Prod.mk.injEq] at hk
    refine hm (List.mem_map.2 ⟨e0, he0, ?_⟩)
    have k1 := hr e0 he0
    exact Prod.ext hk.1 (hg.inj _ _ k1.1 k1.2 h.1 h.2 hk.2)
/-- the last round -/
theorem rounds_is {m : List S45} {R : Int} (h1 : ∀ x ∈ m, 0 ≤ x.f0 ∧ x.f0 < R) (hR : R ≤ 64) (h2 : ∃ x ∈ m, x.f0 + 1 = R) : roundsF m = R := by
  obtain ⟨x, hx, h⟩ := h2
  have hb := rnd_bd m (fun y hy => by have := h1 y hy; omega) 0 (by omega) (by omega)
  have h3 := hb.2.2.2 x hx
  have h4 : ∀ (l : List S45) (s : Int), s ≤ R → (∀ y ∈ l, y.f0 < R) → l.foldl rndF s ≤ R := by
    intro l
    induction l with
    | nil => intro s hs _; exact hs
    | cons y l ih => intro s hs hl; exact ih _ (by have := hl y (by simp); unfold rndF; omega) (fun z hz => hl z (by simp [hz]))
  have h5 := h4 m 0 (by have := h1 x hx; omega) fun y hy => (h1 y hy).2
  unfold roundsF at *
  omega
theorem turned_foes {n : Int} {m : List S45} {es : Ent} {r : Int} (hf : foesF n m = some (es, r)) {g : Int → Int} (hg : Turns r g) (hl : ∃ x ∈ m, g x.f0 + 1 = r) : foesF n (m.map (turnS g)) = some (es.map (turnE g), r) := by
  obtain ⟨hn, hb, hk, rfl, rfl⟩ := foesF_inv hf
  have hrd := rnd_bd m (fun x hx => by have := hb x hx; unfold bad at this; omega) 0 (by omega) (by omega)
  have hrng : ∀ x ∈ m, 0 ≤ x.f0 ∧ x.f0 < roundsF m := fun x hx => ⟨by have := hb x hx; unfold bad at this; omega, hrd.2.2.2 x hx⟩
  have hR : roundsF m ≤ 64 := hrd.2.1
  have hre : ∀ e ∈ ents m, 0 ≤ e.1.2 ∧ e.1.2 < roundsF m := by
    intro e he
    obtain ⟨x, hx, h⟩ := mem_ents.1 he
    rcases h with rfl | rfl <;> exact hrng x hx
  have hr2 : roundsF (m.map (turnS g)) = roundsF m := by
    refine rounds_is (fun y hy => ?_) hR ?_
    · obtain ⟨x, hx, rfl⟩ := List.mem_map.1 hy
      exact hg.rng _ (hrng x hx).1 (hrng x hx).2
    · obtain ⟨x, hx, h⟩ := hl
      exact ⟨turnS g x, List.mem_map.2 ⟨x, hx, rfl⟩, h⟩
  have := foesF_make (n := n) (m := m.map (turnS g)) hn (fun y hy => by
    obtain ⟨x, hx, rfl⟩ := List.mem_map.1 hy
    have h1 := hb x hx
    have h2 := hg.rng _ (hrng x hx).1 (hrng x hx).2
    unfold bad at h1 ⊢
    simp only [turnS]
    omega) (by rw [ents_turn]; exact turn_nodup hg hre hk)
  rw [this, ents_turn, hr2]
/-- turned on: the same pairs; turned back: the pairs exchanged -/
theorem later_pairs {es : Ent} {r : Int} {g : Int → Int} (hg : Turns r g) (hr : ∀ e ∈ es, 0 ≤ e.1.2 ∧ e.1.2 < r) (hn : (keys es).Nodup) (ha : ∀ t s, 0 ≤ s → s < r → aft r (t, g s) = (t, g (aft r (t, s)).2)) :
    (es.map (turnE g)).filterMap (nxt (es.map (turnE g)) r) = es.filterMap (nxt es r) := by
  rw [List.filterMap_map]
  refine fm_congr _ fun e he => ?_
  obtain ⟨⟨t, s⟩, v⟩ := e
  have h0 := hr _ he
  dsimp only at h0
  have h1 := (aft_bef (k := (t, s)) h0).2.2
  simp only [Function.comp, nxt, turnE]
  rw [ha t s h0.1 h0.2, turn_get hg hr hn t _ ⟨h1.1, h1.2.1⟩]
  have : (t, (aft r (t, s)).2) = aft r (t, s) := by unfold aft; split <;> rfl
  rw [this]
theorem back_pairs {es : Ent} {r : Int} {g : Int → Int} (hg : Turns r g) (hr : ∀ e ∈ es, 0 ≤ e.1.2 ∧ e.1.2 < r) (hn : (keys es).Nodup) (ha : ∀ t s, 0 ≤ s → s < r → aft r (t, g s) = (t, g (bef r (t, s)).2)) :
    ((es.map (turnE g)).filterMap (nxt (es.map (turnE g)) r)).Perm ((es.filterMap (nxt es r)).map fun x => (x.2, x.1)) := by
  refine List.Perm.trans (List.Perm.of_eq ?_) ((swap_perm hn hr).symm.map _)
  rw [List.filterMap_map, List.map_filterMap]
  refine fm_congr _ fun e he => ?_
  obtain ⟨⟨t, s⟩, v⟩ := e
  have h0 := hr _ he
  dsimp only at h0
  have h1 := (aft_bef (k := (t, s)) h0).2.2
  simp only [Function.comp, nxt, nxtB, turnE]
  rw [ha t s h0.1 h0.2, turn_get hg hr hn t _ ⟨h1.2.2.1, h1.2.2.2⟩]
  have : (t, (bef r (t, s)).2) = bef r (t, s) := by unfold bef; split <;> rfl
  rw [this, Option.map_map]; rfl
theorem count_swap (xs : List (Int × Int)) (i j : Int) : (xs.map fun x => (x.2, x.1)).count (j, i) = xs.count (i, j) := by
  induction xs with
  | nil => rfl
  | cons x xs ih =>
    obtain ⟨a, b⟩ := x
    rw [List.map_cons, List.count_cons, List.count_cons, ih]
    by_cases h : a = i ∧ b = j
    · obtain ⟨rfl, rfl⟩ := h; simp
    · have h1 : ((b, a) == (j, i)) = false := by simp; intro h1 h2; exact h ⟨h2, h1⟩
      have h2 : ((a, b) == (i, j)) = false := by simp; intro h1 h2; exact h ⟨h1, h2⟩
      rw [h1, h2]
theorem cntM_at (N : Nat) (xs : List (Int × Int)) (i j : Nat) (hi : i < N) (hj : j < N) : rd (rd_L3 (cntM N xs) i) j = xs.count ((i : Int), (j : Int)) := by
  rw [rd, rd_L3, Int.toNat_natCast, Int.toNat_natCast, cntM_get _ _ i hi, List.getD_eq_getElem?_getD, List.getElem?_map, List.getElem?_range hj]; rfl
theorem cntM_rowlen (N : Nat) (xs : List (Int × Int)) (i : Nat) (hi : i < N) : (rd_L3 (cntM N xs) i).length = N := by
  rw [rd_L3, Int.toNat_natCast]; exact cntM_row N xs _ (getD_mem' (by rw [cntM_len]; exact hi))

/-! ### the loops -/
theorem turned_l4 (N : Nat) (hN : N ≤ 20) (xs ys : List (Int × Int)) (hs : ∀ i j : Nat, ys.count ((j : Int), (i : Int)) = xs.count ((i : Int), (j : Int))) :
    ∀ (d i k : Nat), N - i ≤ d → d * 30 + 1 ≤ k → i ≤ N → fastilaw22_CarryTurned.l3 k N (cntM N xs) (cntM N ys) N i = some true := by
  intro d
  induction d with
  | zero =>
    intro i k hd hk hi
    obtain ⟨k, rfl⟩ : ∃ k', k = k' + 1 := ⟨k - 1, by omega⟩
    rw [fastilaw22_CarryTurned.l3, if_neg (by omega)]
  | succ d ih =>
    intro i k hd hk hi
    obtain ⟨k, rfl⟩ : ∃ k', k = k' + 1 := ⟨k - 1, by omega⟩
    by_cases h : i < N
    · rw [fastilaw22_CarryTurned.l3, if_pos (by omega)]
      have inner : ∀ (d2 j k2 : Nat), N - j ≤ d2 → d2 + d * 30 + 2 ≤ k2 → j ≤ N → fastilaw22_CarryTurned.l4 k2 N (cntM N xs) (cntM N ys) i N i N j = some true := by
        intro d2
        induction d2 with
        | zero =>
          intro j k2 hd2 hk2 hj
          obtain ⟨k2, rfl⟩ : ∃ k', k2 = k' + 1 := ⟨k2 - 1, by omega⟩
          rw [fastilaw22_CarryTurned.l4, if_neg (by omega), w64 (by omega)]
          exact ih (i + 1) k2 (by omega) (by omega) h
        | succ d2 ih2 =>
          intro j k2 hd2 hk2 hj
          obtain ⟨k2, rfl⟩ : ∃ k', k2 = k' + 1 := ⟨k2 - 1, by omega⟩
          by_cases hlt : j < N
          · rw [fastilaw22_CarryTurned.l4, if_pos (by omega), if_pos (by omega), if_pos (by rw [cntM_len]; omega), if_pos (by omega), if_pos (by rw [cntM_rowlen _ _ _ h]; omega), if_pos (by rw [cntM_len]; omega), if_pos (by rw [cntM_rowlen _ _ _ hlt]; omega), cntM_at _ _ _ _ h hlt, cntM_at _ _ _ _ hlt h, hs, if_pos rfl, w64 (by omega)]
            exact ih2 (j + 1) k2 (by omega) (by omega) hlt
          · rw [fastilaw22_CarryTurned.l4, if_neg (by omega), w64 (by omega)]
            exact ih (i + 1) k2 (by omega) (by omega) h
      exact inner N 0 k (by omega) (by omega) (by omega)
    · rw [fastilaw22_CarryTurned.l3, if_neg (by omega)]
theorem turned_l2 (N : Nat) (hN : N ≤ 20) (xs ys : List (Int × Int)) (hs : ∀ i j : Nat, ys.count ((j : Int), (i : Int)) = xs.count ((i : Int), (j : Int))) :
    ∀ (d i k : Nat), N - i ≤ d → d + 700 ≤ k → i ≤ N → fastilaw22_CarryTurned.l2 k N (cntM N xs) (cntM N ys) N i = some true := by
  intro d
  induction d with
  | zero =>
    intro i k hd hk hi
    obtain ⟨k, rfl⟩ : ∃ k', k = k' + 1 := ⟨k - 1, by omega⟩
    rw [fastilaw22_CarryTurned.l2, if_neg (by omega)]
    exact turned_l4 N hN xs ys hs N 0 k (by omega) (by omega) (by omega)
  | succ d ih =>
    intro i k hd hk hi
    obtain ⟨k, rfl⟩ : ∃ k', k = k' + 1 := ⟨k - 1, by omega⟩
    by_cases h : i < N
    · rw [fastilaw22_CarryTurned.l2, if_pos (by omega), if_pos (by omega), if_pos (by rw [cntM_len]; omega), if_pos (by rw [cntM_rowlen _ _ _ h]), if_pos (by rw [cntM_len]; omega), if_pos (by rw [cntM_rowlen _ _ _ h]), w64 (by omega)]
      exact ih (i + 1) k (by omega) (by omega) h
    · rw [fastilaw22_CarryTurned.l2, if_neg (by omega)]
      exact turned_l4 N hN xs ys hs N 0 k (by omega) (by omega) (by omega)
/-- the rounds played -/
def playF (p : List Bool) (x : S45) : List Bool := p.set x.f0.toNat true
theorem play_len (m : List S45) (p : List Bool) : (m.foldl playF p).length = p.length := by
  induction m generalizing p with
  | nil => rfl
  | cons x m ih => rw [List.foldl_cons, ih]; simp [playF]
theorem play_get (m : List S45) (p : List Bool) (r : Nat) (h : (m.foldl playF p).getD r false = true) : p.getD r false = true ∨ ∃ x ∈ m, x.f0.toNat = r := by
  induction m generalizing p with
  | nil => exact .inl h
  | cons x m ih =>
    rcases ih _ h with h1 | ⟨y, hy, h1⟩
    · by_cases e : x.f0.toNat = r
      · exact .inr ⟨x, by simp, e⟩
      · left
        rw [playF, List.getD_eq_getElem?_getD, List.getElem?_set_ne e, ← List.getD_eq_getElem?_getD] at h1
        exact h1
    · exact .inr ⟨y, by simp [hy], h1⟩
def onG (r a2 s : Int) : Int := (s + a2) % r
def backG (r s : Int) : Int := r - 1 - s
theorem turned_l0 (n a2 r : Int) (m : List S45) (hm : m.length ≤ 1280) (ha : 0 ≤ a2 ∧ a2 ≤ 255) (hr : 0 < r ∧ r ≤ 64) (hb : ∀ x ∈ m, 0 ≤ x.f0 ∧ x.f0 < r) (K : Nat) :
    ∀ (d i : Nat) (p : List Bool) (A B : List S45), i + d = m.length → p.length = r.toNat → A.length = i → B.length = i → fastilaw22_CarryTurned.l0 (K + d + 1) n m a2 r p A B m m.length i = fastilaw22_CarryTurned.l1 K n m (A ++ (m.drop i).map (turnS (onG r a2))) (B ++ (m.drop i).map (turnS (backG r))) ((m.drop i).foldl playF p) r.toNat 0 := by
  intro d
  induction d with
  | zero =>
    intro i p A B hi hp hA hB
    rw [fastilaw22_CarryTurned.l0, if_neg (by omega), List.drop_of_length_le (by omega)]
    simp only [List.map_nil, List.append_nil, List.foldl_nil, hp]
  | succ d ih =>
    intro i p A B hi hp hA hB
    have h : i < m.length := by omega
    have hx := hb _ (getD_mem' (d := z45) h)
    have e : m.drop i = m.getD i z45 :: m.drop (i + 1) := by
      rw [List.drop_eq_getElem_cons h, List.getD_eq_getElem?_getD, List.getElem?_eq_getElem h]; rfl
    rw [show K + (d + 1) + 1 = (K + d + 1) + 1 from rfl, fastilaw22_CarryTurned.l0, if_pos (by omega), if_pos (by omega), if_pos (by omega), rd_T45, Int.toNat_natCast, if_pos (by omega), if_pos (by omega), if_neg (by omega), if_pos (by omega), if_pos (by omega),
      w64 (x := a2) (by omega), w64 (x := (m.getD i z45).f0 + a2) (by omega), w64 (x := r - 1) (by omega), w64 (x := r - 1 - (m.getD i z45).f0) (by omega), w64 (by omega), Int.tmod_eq_emod_of_nonneg (by omega)]
    have := ih (i + 1) (p.set (m.getD i z45).f0.toNat true) (A ++ [turnS (onG r a2) (m.getD i z45)]) (B ++ [turnS (backG r) (m.getD i z45)]) (by omega) (by rw [List.length_set]; exact hp) (by simp [hA]) (by simp [hB])
    rw [e, List.map_cons, List.map_cons, List.foldl_cons]
    rw [List.append_assoc, List.append_assoc] at this
    exact this
theorem turned_l1 (n : Int) (m A B : List S45) (p : List Bool) (hp : p.length ≤ 64) (K : Nat) :
    ∀ (d i : Nat), i + d = p.length → (∀ s, s < i → p.getD s false = true) → fastilaw22_CarryTurned.l1 (K + d + 1) n m A B p p.length i = some true ∨
      ((∀ s, s < p.length → p.getD s false = true) ∧ fastilaw22_CarryTurned.l1 (K + d + 1) n m A B p p.length i = fastilaw22_CarryTurned.l1 (K + 1) n m A B p p.length p.length) := by
  intro d
  induction d with
  | zero => intro i hi h; right; obtain rfl : i = p.length := by omega
            exact ⟨h, rfl⟩
  | succ d ih =>
    intro i hi h
    rw [show K + (d + 1) + 1 = (K + d + 1) + 1 from rfl, fastilaw22_CarryTurned.l1, if_pos (by omega), if_pos (by omega), if_pos (by omega), rdOf, Int.toNat_natCast]
    cases hc : p.getD i false with
    | false => left; rw [if_neg (by simp)]
    | true =>
      rw [if_pos rfl, w64 (by omega)]
      exact ih (i + 1) (by omega) fun s hs => by
        by_cases e : s = i
        · subst e; exact hc
        · exact h s (by omega)
theorem turns_on {r a2 : Int} (hr : 0 < r) : Turns r (onG r a2) := ⟨fun s _ _ => ⟨Int.emod_nonneg _ (by omega), Int.emod_lt_of_pos _ hr⟩, fun s t h1 h2 h3 h4 h => by
  unfold onG at h
  have h5 : (s - t) % r = 0 := by
    have : s - t = (s + a2) - (t + a2) := by omega
    rw [this]; exact Int.emod_eq_emod_iff_emod_sub_eq_zero.1 h
  obtain ⟨c, hc⟩ := Int.dvd_of_emod_eq_zero h5
  have h6 : c = 0 := by
    rcases Int.lt_trichotomy c 0 with h | h | h
    · have := Int.mul_le_mul_of_nonneg_left (show c ≤ -1 by omega) (show 0 ≤ r by omega); omega
    · exact h
    · have := Int.mul_le_mul_of_nonneg_left (show 1 ≤ c by omega) (show 0 ≤ r by omega); omega
  subst h6; omega⟩
theorem turns_back {r : Int} : Turns r (backG r) := ⟨fun s _ _ => by unfold backG; omega, fun s t h1 h2 h3 h4 h => by unfold backG at h; omega⟩
theorem on_aft {r a2 : Int} (hr : 0 < r) (t s : Int) (h0 : 0 ≤ s) (h1 : s < r) : aft r (t, onG r a2 s) = (t, onG r a2 (aft r (t, s)).2) := by
  have hb := (turns_on (a2 := a2) hr).rng s h0 h1
  have key : (s + 1 + a2) % r = (onG r a2 s + 1) % r := by
    unfold onG
    rw [show s + 1 + a2 = (s + a2) + 1 by omega, Int.add_emod, Int.add_emod ((s + a2) % r) 1 r, Int.emod_emod]
  have e1 : (aft r (t, onG r a2 s)) = (t, (onG r a2 s + 1) % r) := by
    unfold aft; dsimp only
    by_cases e : onG r a2 s + 1 = r
    · rw [if_pos e, e, Int.emod_self]
    · rw [if_neg e, Int.emod_eq_of_lt (by omega) (by omega)]
  rw [e1, ← key]
  unfold aft; dsimp only
  by_cases e : s + 1 = r
  · rw [if_pos e]; unfold onG
    rw [e, Int.zero_add, Int.add_emod, Int.emod_self, Int.zero_add, Int.emod_emod]
  · rw [if_neg e]; rfl
theorem back_aft {r : Int} (t s : Int) (h0 : 0 ≤ s) (h1 : s < r) : aft r (t, backG r s) = (t, backG r (bef r (t, s)).2) := by
  unfold aft bef backG; dsimp only
  by_cases e : s = 0
  · rw [if_pos (by omega), if_pos e]; dsimp only; congr 1; omega
  · rw [if_neg (by omega), if_neg e]; dsimp only; congr 1; omega
theorem hit_on {r a2 : Int} (hr : 0 < r) (ha : 0 ≤ a2) : ∃ s, (0 ≤ s ∧ s < r) ∧ onG r a2 s + 1 = r := by
  refine ⟨(r - 1 - a2) % r, ⟨Int.emod_nonneg _ (by omega), Int.emod_lt_of_pos _ hr⟩, ?_⟩
  unfold onG
  rw [Int.add_emod, Int.emod_emod, ← Int.add_emod, show r - 1 - a2 + a2 = r - 1 by omega, Int.emod_eq_of_lt (by omega) (by omega)]; omega
end Go.Proofs.Ytcjpghiceebkfaa.P
