/- All venues exchanged: plain. -/
import Derived.Test.YtecgklfcblpkdaaShort3
import Derived.Test.YtecgklfcblpkdaaP10
namespace Go.Proofs.Ytecgklfcblpkdaa.P
open Go.RowKit Go.Proofs.YtecgklfcblpkdaaW.PrintWords Go.Proofs.YtecgklfcblpkdaaW.PrintLast Go.Proofs.YtecgklfcblpkdaaW.PrintMore
open XW
set_option linter.unusedSimpArgs false
set_option linter.unusedVariables false

def ng (x : Int) : Int := wrap64 (-x)
def ngR (l : List Int) : List Int := l.map ng
def ngP (p : List (List Int)) : List (List Int) := p.map ngR
theorem ng_in {x : Int} (h : -1 ≤ x ∧ x ≤ 1) : ng x = -x := by rw [ng, w64 (by omega)]
theorem ng_ok {x : Int} (h : -9223372036854775808 ≤ x ∧ x ≤ 9223372036854775807) : (-1 ≤ ng x ∧ ng x ≤ 1) ↔ (-1 ≤ x ∧ x ≤ 1) := by unfold ng wrap64; omega
theorem ngR_get (l : List Int) (j : Nat) : (ngR l).getD j 0 = ng (l.getD j 0) := by
  rw [List.getD_eq_getElem?_getD, List.getD_eq_getElem?_getD, ngR, List.getElem?_map]
  cases l[j]? with
  | none => show (0 : Int) = ng 0; rw [ng, w64 (by omega)]; rfl
  | some x => rfl
theorem ngP_get (p : List (List Int)) (t : Nat) : (ngP p).getD t [] = ngR (p.getD t []) := by
  rw [List.getD_eq_getElem?_getD, List.getD_eq_getElem?_getD, ngP, List.getElem?_map]
  cases p[t]? <;> rfl
theorem ngR_len (l : List Int) : (ngR l).length = l.length := List.length_map ..
theorem ngP_len (p : List (List Int)) : (ngP p).length = p.length := List.length_map ..
theorem ng_patOk {p : List (List Int)} (hin : ∀ r ∈ p, ∀ x ∈ r, -9223372036854775808 ≤ x ∧ x ≤ 9223372036854775807) : patOk (ngP p) ↔ patOk p := by
  unfold patOk rowOk1
  rw [ngP_len, ngP_get, ngR_len]
  constructor
  · rintro ⟨h1, h2⟩
    refine ⟨h1, fun l hl => ?_⟩
    obtain ⟨a, b, c⟩ := h2 (ngR l) (List.mem_map_of_mem hl)
    rw [ngR_len] at a b
    exact ⟨a, b, fun x hx => (ng_ok (hin l hl x hx)).1 (c _ (List.mem_map_of_mem hx))⟩
  · rintro ⟨h1, h2⟩
    refine ⟨h1, fun l hl => ?_⟩
    obtain ⟨l, hl', rfl⟩ := List.mem_map.1 hl
    obtain ⟨a, b, c⟩ := h2 l hl'
    rw [ngR_len]
    refine ⟨a, b, fun x hx => ?_⟩
    obtain ⟨x, hx', rfl⟩ := List.mem_map.1 hx
    exact (ng_ok (hin l hl' x hx')).2 (c x hx')
theorem get_in {l : List Int} (h : ∀ x ∈ l, -1 ≤ x ∧ x ≤ 1) (j : Nat) : -1 ≤ l.getD j 0 ∧ l.getD j 0 ≤ 1 := by
  rcases Nat.lt_or_ge j l.length with hj | hj
  · exact h _ (getD_mem' hj)
  · rw [List.getD_eq_getElem?_getD, List.getElem?_eq_none hj]; decide
theorem row_in {p : List (List Int)} (h : patOk p) (t : Nat) : ∀ x ∈ p.getD t [], -1 ≤ x ∧ x ≤ 1 := by
  rcases Nat.lt_or_ge t p.length with hj | hj
  · exact (h.2 _ (getD_mem' hj)).2.2
  · rw [List.getD_eq_getElem?_getD, List.getElem?_eq_none hj]; intro x hx; cases hx
theorem ng_cnt {l : List Int} (h : ∀ x ∈ l, -1 ≤ x ∧ x ≤ 1) : ∀ j, cntB (ngR l) j = cntB l j
  | 0 => rfl
  | j + 1 => by
    have h1 := get_in h j
    have h2 := get_in h (j - 1)
    rw [cntB, cntB, ng_cnt h j, ngR_get, ngR_get, ng_in h1, ng_in h2]
    congr 1
    by_cases e : 0 < j ∧ l.getD j 0 ≠ 0 ∧ l.getD j 0 = l.getD (j - 1) 0
    · rw [if_pos e, if_pos ⟨e.1, by omega, by omega⟩]
    · rw [if_neg e, if_neg (fun h => e ⟨h.1, by omega, by omega⟩)]
theorem ng_brF {p : List (List Int)} (hin : ∀ r ∈ p, ∀ x ∈ r, -9223372036854775808 ≤ x ∧ x ≤ 9223372036854775807) : brF (ngP p) = brF p := by
  unfold brF
  by_cases h : patOk p
  · rw [if_pos h, if_pos ((ng_patOk hin).2 h), ngP, List.map_map]
    congr 1
    refine List.map_congr_left fun l hl => ?_
    simp only [Function.comp, brk, ngR_len]
    exact ng_cnt (h.2 l hl).2.2 _
  · rw [if_neg h, if_neg (fun h2 => h ((ng_patOk hin).1 h2))]
theorem ng_mk {p : List (List Int)} (h : patOk p) (v : Int) : ∀ n r, mk v (ngP p) n r = mk (-v) p n r
  | 0, r => rfl
  | n + 1, r => by
    have h1 := get_in (row_in h n) r
    rw [mk, mk, ng_mk h v n r, ngP_get, ngR_get, ng_in h1]
    by_cases e : (p.getD n []).getD r 0 = -v
    · rw [if_pos e, if_pos (by omega)]
    · rw [if_neg e, if_neg (by omega)]
theorem ng_left {p : List (List Int)} (h : patOk p) (set : Nat) : ∀ R, leftR (ngP p) set R = leftR p set R
  | 0 => rfl
  | R + 1 => by
    rw [leftR, leftR, ng_left h set R, gameR, gameR, ngP_len, ng_mk h, ng_mk h, show -(-1 : Int) = 1 from rfl, Int.min_comm]
theorem ng_short {p : List (List Int)} (h : patOk p) : shortB (ngP p) = shortB p := by
  funext set
  rw [shortB, shortB, ngP_get, ngR_len, ng_left h]
theorem ng_vioF {p : List (List Int)} (hin : ∀ r ∈ p, ∀ x ∈ r, -9223372036854775808 ≤ x ∧ x ≤ 9223372036854775807) : vioF (ngP p) = vioF p := by
  unfold vioF
  rw [ngP_len]
  by_cases h : p.length < 2 ∨ p.length > 10 ∨ ¬ patOk p
  · rw [if_pos h, if_pos (by rcases h with h | h | h; exact .inl h; exact .inr (.inl h); exact .inr (.inr fun h2 => h ((ng_patOk hin).1 h2)))]
  · have hok : patOk p := Classical.byContradiction fun hc => h (.inr (.inr hc))
    rw [if_neg h, if_neg (fun hc => h (by rcases hc with hc | hc | hc; exact .inl hc; exact .inr (.inl hc); exact absurd ((ng_patOk hin).2 hok) hc)), ng_short hok]
theorem few_l2 (p : List (List Int)) : ∀ (k : Nat) (x5 : Int) (i : Nat) , i ≤ 100 → fastiref21_Few.l0 k p x5 i = some true → p.length ≤ 100 := by
  intro k
  induction k with
  | zero => intro x5 i _ h; simp [fastiref21_Few.l0] at h
  | succ k ih =>
    intro x5 i hi h
    rw [fastiref21_Few.l0] at h
    by_cases h1 : i < p.length
    · by_cases h2 : i < 100
      · rw [if_pos (by omega), if_pos (by omega), if_pos (by omega), w64 (x := (i : Int) + 1) (by omega)] at h
        exact ih _ (i + 1) (by omega) h
      · rw [if_pos (by omega), if_neg (by omega)] at h
        split at h
        · have := of_decide_eq_true (Option.some.inj h); omega
        · cases h
    · omega
theorem few_len {k : Nat} {m : List S44} {p : List (List Int)} (h : fastiref21_Few.f k m p = some true) : p.length ≤ 100 := few_l2 p k _ 0 (by omega) h
theorem turn_l1 (p q : List (List Int)) (i : Nat) (row : List Int) (hl : row.length ≤ 17592186044415) (hq : q.length ≤ 100) (hi : i < 100) {b : Bool} {K : Nat} (hK : ∀ k, K ≤ k → fastilaw21_PatternsTurn.l0 k p (q ++ [ngR row]) p p.length ((i + 1 : Nat) : Int) = some b) :
    ∀ (d j k : Nat), row.length - j ≤ d → d + K + 1 ≤ k → j ≤ row.length → fastilaw21_PatternsTurn.l1 k p q (ngR (row.take j)) p p.length i row row.length j = some b := by
  intro d
  have hend : ∀ k, K + 1 ≤ k → fastilaw21_PatternsTurn.l1 k p q (ngR (row.take row.length)) p p.length i row row.length (row.length : Nat) = some b := fun k hk => by
    obtain ⟨k, rfl⟩ : ∃ k', k = k' + 1 := ⟨k - 1, by omega⟩
    rw [fastilaw21_PatternsTurn.l1, if_neg (by omega), if_pos (by omega), List.take_length, w64 (by omega)]
    exact hK k (by omega)
  induction d with
  | zero =>
    intro j k hd hk hj
    obtain rfl : j = row.length := by omega
    exact hend k (by omega)
  | succ d ih =>
    intro j k hd hk hj
    by_cases h : j < row.length
    · obtain ⟨k, rfl⟩ : ∃ k', k = k' + 1 := ⟨k - 1, by omega⟩
      have hrd : rd row (j : Int) = row.getD j 0 := by rw [rd, Int.toNat_natCast]
      have ih' := ih (j + 1) k (by omega) (by omega) h
      rw [take_snocD row j 0 h, ngR, List.map_append, List.map_singleton] at ih'
      rw [fastilaw21_PatternsTurn.l1, if_pos (by omega), if_pos (by omega), if_pos (by omega), if_pos (by rw [ngR_len, List.length_take]; omega), hrd, w64 (x := (j : Int) + 1) (by omega)]
      exact ih'
    · obtain rfl : j = row.length := by omega
      exact hend k (by omega)
theorem turn_ev (p : List (List Int)) (hp : p.length ≤ 100) (hrow : ∀ r ∈ p, r.length ≤ 17592186044415) (hin : ∀ r ∈ p, ∀ x ∈ r, -9223372036854775808 ≤ x ∧ x ≤ 9223372036854775807) : Ev (fun k => fastilaw21_PatternsTurn.l0 k p [] p p.length 0) true := by
  have key : ∀ (d i : Nat), p.length - i ≤ d → i ≤ p.length → Ev (fun k => fastilaw21_PatternsTurn.l0 k p (ngP (p.take i)) p p.length i) true := by
    intro d
    have hend : Ev (fun k => fastilaw21_PatternsTurn.l0 k p (ngP (p.take p.length)) p p.length (p.length : Nat)) true := by
      obtain ⟨K1, h1⟩ := br_ev p (by omega)
      obtain ⟨K2, h2⟩ := br_ev (ngP p) (by rw [ngP_len]; omega)
      have hl1 := brF_len p
      have hl2 := vioF_len p
      obtain ⟨K3, h3⟩ := ints_ev (brF p).1 (by omega)
      obtain ⟨K4, h4⟩ := ints_ev (vioF p).1 (by omega)
      refine ⟨K1 + K2 + K3 + K4 + 1, fun k hk => ?_⟩
      obtain ⟨k, rfl⟩ : ∃ k', k = k' + 1 := ⟨k - 1, by omega⟩
      have h1 := h1 k (by omega)
      have h2 := h2 k (by omega)
      have h3 := h3 k (by omega)
      have h4 := h4 k (by omega)
      simp only [] at h1 h2 h3 h4
      show fastilaw21_PatternsTurn.l0 _ _ _ _ _ _ = _
      rw [fastilaw21_PatternsTurn.l0, if_neg (by omega), List.take_length, h1, Option.bind_some, h2, Option.bind_some, patterns_Violates.f, Option.bind_some, patterns_Violates.f, Option.bind_some, ng_brF hin, ng_vioF hin, h3, Option.bind_some, if_pos rfl, if_pos rfl, h4, Option.bind_some, if_pos rfl]
      simp
    induction d with
    | zero => intro i hd hi; obtain rfl : i = p.length := by omega
              exact hend
    | succ d ih =>
      intro i hd hi
      by_cases h : i < p.length
      · obtain ⟨K, hK⟩ := ih (i + 1) (by omega) h
        rw [take_snocD p i [] h, ngP, List.map_append, List.map_singleton] at hK
        refine ⟨(p.getD i []).length + K + 3, fun k hk => ?_⟩
        obtain ⟨k, rfl⟩ : ∃ k', k = k' + 1 := ⟨k - 1, by omega⟩
        show fastilaw21_PatternsTurn.l0 _ _ _ _ _ _ = _
        have hrd : rd_L3 p (i : Int) = p.getD i [] := by rw [rd_L3, Int.toNat_natCast]
        rw [fastilaw21_PatternsTurn.l0, if_pos (by omega), if_pos (by omega), if_pos (by omega), hrd]
        exact turn_l1 p (ngP (p.take i)) i (p.getD i []) (hrow _ (getD_mem' h)) (by rw [ngP_len, List.length_take]; omega) (by omega) hK (p.getD i []).length 0 k (by omega) (by omega) (by omega)
      · obtain rfl : i = p.length := by omega
        exact hend
  exact key p.length 0 (by omega) (by omega)
end Go.Proofs.Ytecgklfcblpkdaa.P
