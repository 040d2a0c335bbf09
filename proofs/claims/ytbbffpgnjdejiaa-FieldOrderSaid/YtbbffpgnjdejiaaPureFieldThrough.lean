import Derived.Test.YtbbffpgnjdejiaaP7
import Derived.Test.YtbbffpgnjdejiaaVals
namespace Go.Proofs.Ytbbffpgnjdejiaa.Pure
open Go.RowKit Go.Proofs.Ytbbffpgnjdejiaa.P Go.Proofs.YtbbffpgnjdejiaaW.PrintWords Go.Proofs.YtbbffpgnjdejiaaW.PrintLast FieldMath
set_option linter.unusedSimpArgs false

theorem in_ok {x : Int} (h0 : 0 ≤ x) (h1 : x < 1073741789) : fastilaw09_in.f x = some true := by
  unfold fastilaw09_in.f
  rw [if_pos (by omega), decide_eq_true h1]
theorem apart_of {l : List S38} (h : diff l = true) : Apart (1073741789 : Nat) (l.map (·.f0)) := by
  have hnd : (l.map fun p => p.f0 % 1073741789).Nodup := of_decide_eq_true h
  refine List.pairwise_map.2 ((List.pairwise_map.1 hnd).imp fun {a b} hab hd => hab (mod_of_dvd hd))
def own (poly : List Int) (p : S38) : S38 := ⟨p.f0, ev poly p.f0 % 1073741789⟩
theorem diff_own (poly : List Int) (l : List S38) : diff (l.map (own poly)) = diff l := by
  unfold diff
  rw [List.map_map]; rfl
theorem own_poly {poly : List Int} {l : List S38} (hl : l.length ≤ 64) (hp : poly.length ≤ l.length) (h : diff l = true) (t : Int) : field_At.f (l.map (own poly)) t = some (ev poly t % 1073741789, 0) := by
  obtain ⟨P, h1, h2, _, h4⟩ := at_poly (l := l.map (own poly)) (by rw [List.length_map]; exact hl) (by rw [diff_own]; exact h)
  rw [h2]
  have := agree primeQ (l.map (·.f0)) P poly (apart_of h) (by simpa using h1) (by simpa using hp) (fun x hx => by
    obtain ⟨p, hp, rfl⟩ := List.mem_map.1 hx
    have := h4 (own poly p) (List.mem_map.2 ⟨p, hp, rfl⟩)
    simp only [own] at this
    exact dvd_of_mod (this.trans (Int.emod_emod_of_dvd _ (Int.dvd_refl _)))) t
  rw [mod_of_dvd this]

theorem through_l0 (l : List S38) (hl : l.length ≤ 64) (poly : List Int) (hp : poly.length ≤ l.length) (h : diff l = true) (t : Int) : ∀ (n i k : Nat), n + i = l.length → n + 200 ≤ k →
    fastilaw09_FieldThrough.l0 (k + 1) l poly t ((l.take i).map (own poly)) l l.length i = some true
  | 0, i, k, hn, hk => by
    unfold fastilaw09_FieldThrough.l0; try dsimp only
    rw [if_neg (by omega), List.take_of_length_le (by omega), own_poly hl hp h, Option.bind_some, if_pos rfl, in_ok (mod_rng _).1 (mod_rng _).2, Option.bind_some, if_pos rfl, val_eq poly (by omega) t k (by omega), Option.bind_some]
    simp
  | n + 1, i, k, hn, hk => by
    obtain ⟨k, rfl⟩ : ∃ k', k = k' + 1 := ⟨k - 1, by omega⟩
    unfold fastilaw09_FieldThrough.l0; try dsimp only
    have hi : i < l.length := by omega
    obtain ⟨P, h1, h2, _, h4⟩ := at_poly hl h
    have e : rd_T38 l (i : Int) = l.getD i z38 := by simp [rd_T38]
    have hm : l.getD i z38 ∈ l := by
      rw [List.getD_eq_getElem?_getD, List.getElem?_eq_getElem hi]; exact List.getElem_mem hi
    rw [if_pos (by omega), if_pos (by omega), if_pos (by omega), e, h2, Option.bind_some, if_pos rfl, mod_eq, Option.bind_some, if_pos (h4 _ hm), val_eq poly (by omega) _ (k + 1) (by omega), Option.bind_some,
      if_pos (by rw [List.length_map, List.length_take]; omega), w64 (by omega) (by omega)]
    have e2 : (l.take i).map (own poly) ++ [(⟨(l.getD i z38).f0, ev poly (l.getD i z38).f0 % 1073741789⟩ : S38)] = (l.take (i + 1)).map (own poly) := by
      rw [take_snoc_getD l i hi, List.map_append]; rfl
    rw [e2, show ((i : Int) + 1) = ((i + 1 : Nat) : Int) by omega]
    exact through_l0 l hl poly hp h t n (i + 1) k (by omega) (by omega)

theorem through_j0t (l : List S38) (poly : List Int) (t : Int) (k : Nat) : fastilaw09_FieldThrough.j0 (k + 1) l poly t true = some true := by
  unfold fastilaw09_FieldThrough.j0; try dsimp only
  rw [if_pos rfl]
theorem FieldThrough (l : List S38) (poly : List Int) (t : Int) : ∃ k, fastilaw09_FieldThrough.f k l poly t = some true := by
  refine ⟨9999 + 1, ?_⟩
  unfold fastilaw09_FieldThrough.f
  rw [sane_ge (by omega), Option.bind_some, if_pos rfl]
  by_cases h : (l.length : Int) > 64
  · rw [if_pos h]; exact through_j0t l poly t 9999
  · have hl : l.length ≤ 64 := by omega
    have hsz : (l.length + 2) * (l.length + 3) ≤ 66 * 67 := Nat.mul_le_mul (by omega) (by omega)
    rw [if_neg h, diff_eq l (by omega) _ (by omega), Option.bind_some]
    by_cases hd : diff l = true
    · rw [if_pos hd]
      by_cases hp : (poly.length : Int) > (l.length : Int)
      · rw [decide_eq_true hp]; exact through_j0t l poly t 9999
      · rw [decide_eq_false hp]
        unfold fastilaw09_FieldThrough.j0; try dsimp only
        rw [if_neg (by simp)]
        exact through_l0 l hl poly (by omega) hd t l.length 0 9998 (by omega) (by omega)
    · rw [if_neg hd]; exact through_j0t l poly t 9999
end Go.Proofs.Ytbbffpgnjdejiaa.Pure
