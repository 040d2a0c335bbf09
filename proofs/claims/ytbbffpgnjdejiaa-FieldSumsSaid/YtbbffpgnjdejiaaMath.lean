namespace FieldMath

/-! ### primes -/
def Prime (p : Nat) : Prop := 2 ≤ p ∧ ∀ d, d ∣ p → d = 1 ∨ d = p

theorem coprime_of {p a : Nat} (hp : Prime p) (h : ¬ p ∣ a) : Nat.Coprime p a := by
  have h1 := hp.2 (Nat.gcd p a) (Nat.gcd_dvd_left p a)
  rcases h1 with h1 | h1
  · exact h1
  · exact absurd (h1 ▸ Nat.gcd_dvd_right p a) h

theorem euclid {p a b : Nat} (hp : Prime p) (h : p ∣ a * b) : p ∣ a ∨ p ∣ b := by
  by_cases ha : p ∣ a
  · exact .inl ha
  · exact .inr ((coprime_of hp ha).dvd_of_dvd_mul_left h)

theorem euclidI {p : Nat} {a b : Int} (hp : Prime p) (h : (p : Int) ∣ a * b) : (p : Int) ∣ a ∨ (p : Int) ∣ b := by
  have h' : p ∣ a.natAbs * b.natAbs := by
    rw [← Int.natAbs_mul]; exact Int.ofNat_dvd_left.1 h
  rcases euclid hp h' with h | h
  · exact .inl (Int.ofNat_dvd_left.2 h)
  · exact .inr (Int.ofNat_dvd_left.2 h)

theorem prime_of_trial (p m : Nat) (h2 : 2 ≤ p) (hm : p < (m + 1) * (m + 1)) (h : (List.range (m + 1)).all (fun d => d < 2 || p % d != 0) = true) : Prime p := by
  refine ⟨h2, fun d hd => ?_⟩
  have key : ∀ e, e ∣ p → e ≤ m → e < 2 := by
    intro e he hle
    have := List.all_eq_true.1 h e (List.mem_range.2 (by omega))
    simp only [Bool.or_eq_true, decide_eq_true_eq, bne_iff_ne, ne_eq] at this
    rcases this with h | h
    · exact h
    · exact absurd (Nat.mod_eq_zero_of_dvd he) h
  obtain ⟨c, hc⟩ := hd
  have hc0 : 0 < c := by rcases Nat.eq_zero_or_pos c with h | h; · subst h; omega
                         · exact h
  have hd0 : 0 < d := by rcases Nat.eq_zero_or_pos d with h | h; · subst h; omega
                         · exact h
  by_cases h1 : d ≤ m
  · left; have := key d ⟨c, hc⟩ h1; omega
  · by_cases h3 : c ≤ m
    · right
      have := key c ⟨d, by rw [Nat.mul_comm]; exact hc⟩ h3
      have : c = 1 := by omega
      subst this; omega
    · exfalso
      have : (m + 1) * (m + 1) ≤ d * c := Nat.mul_le_mul (by omega) (by omega)
      omega

set_option maxRecDepth 100000 in
theorem primeQ : Prime 1073741789 := prime_of_trial 1073741789 32768 (by omega) (by omega) (by decide +kernel)

/-! ### Fermat's little theorem -/
def ch : Nat → Nat → Nat
  | _, 0 => 1
  | 0, _ + 1 => 0
  | n + 1, k + 1 => ch n k + ch n (k + 1)

theorem ch_big : ∀ n k, n < k → ch n k = 0
  | 0, 0, h => by omega
  | 0, k + 1, _ => rfl
  | n + 1, 0, h => by omega
  | n + 1, k + 1, h => by simp only [ch]; rw [ch_big n k (by omega), ch_big n (k + 1) (by omega)]
theorem ch_self : ∀ n, ch n n = 1
  | 0 => rfl
  | n + 1 => by simp only [ch]; rw [ch_self n, ch_big n (n + 1) (by omega)]

theorem ch_mul : ∀ n k, (k + 1) * ch (n + 1) (k + 1) = (n + 1) * ch n k
  | 0, 0 => rfl
  | 0, k + 1 => by simp [ch]
  | n + 1, 0 => by
    have := ch_mul n 0
    simp only [ch] at this ⊢
    omega
  | n + 1, k + 1 => by
    have h1 := ch_mul n k
    have h2 := ch_mul n (k + 1)
    have e : ch (n + 1 + 1) (k + 1 + 1) = ch (n + 1) (k + 1) + ch (n + 1) (k + 1 + 1) := rfl
    have e2 : ch (n + 1) (k + 1) = ch n k + ch n (k + 1) := rfl
    rw [e]
    grind

def sumTo : Nat → (Nat → Int) → Int
  | 0, _ => 0
  | n + 1, f => sumTo n f + f n

theorem sumTo_congr (n : Nat) (f g : Nat → Int) (h : ∀ k, k < n → f k = g k) : sumTo n f = sumTo n g := by
  induction n with
  | zero => rfl
  | succ n ih => simp only [sumTo]; rw [ih (fun k hk => h k (by omega)), h n (by omega)]
theorem sumTo_head (n : Nat) (f : Nat → Int) : sumTo (n + 1) f = f 0 + sumTo n (fun k => f (k + 1)) := by
  induction n with
  | zero => simp [sumTo]
  | succ n ih => rw [sumTo, ih]; simp only [sumTo]; omega
theorem sumTo_add (n : Nat) (f g : Nat → Int) : sumTo n (fun k => f k + g k) = sumTo n f + sumTo n g := by
  induction n with
  | zero => rfl
  | succ n ih => simp only [sumTo]; rw [ih]; omega
theorem sumTo_mul (n : Nat) (c : Int) (f : Nat → Int) : sumTo n (fun k => c * f k) = c * sumTo n f := by
  induction n with
  | zero => simp [sumTo]
  | succ n ih => simp only [sumTo]; rw [ih, Int.mul_add]

theorem binom (a : Int) : ∀ n, (a + 1) ^ n = sumTo (n + 1) (fun k => (ch n k : Int) * a ^ k)
  | 0 => by simp [sumTo, ch]
  | n + 1 => by
    rw [Int.pow_succ, binom a n]
    have e1 : sumTo (n + 1 + 1) (fun k => (ch (n + 1) k : Int) * a ^ k) = 1 + sumTo (n + 1) (fun k => a * ((ch n k : Int) * a ^ k) + (ch n (k + 1) : Int) * a ^ (k + 1)) := by
      rw [sumTo_head]
      have : (ch (n + 1) 0 : Int) * a ^ 0 = 1 := by simp [ch]
      rw [this]
      congr 1
      refine sumTo_congr _ _ _ fun k _ => ?_
      have : ch (n + 1) (k + 1) = ch n k + ch n (k + 1) := rfl
      rw [this, Int.natCast_add, Int.pow_succ]; grind
    rw [e1, sumTo_add, sumTo_mul]
    have e2 : sumTo (n + 1) (fun k => (ch n k : Int) * a ^ k) = 1 + sumTo (n + 1) (fun k => (ch n (k + 1) : Int) * a ^ (k + 1)) := by
      have h := sumTo_head (n + 1) (fun k => (ch n k : Int) * a ^ k)
      have h0 : (ch n 0 : Int) * a ^ 0 = 1 := by cases n <;> simp [ch]
      rw [h0] at h
      rw [← h]
      have hz : sumTo (n + 1 + 1) (fun k => (ch n k : Int) * a ^ k) = sumTo (n + 1) (fun k => (ch n k : Int) * a ^ k) + (ch n (n + 1) : Int) * a ^ (n + 1) := rfl
      rw [hz, ch_big n (n + 1) (by omega)]; simp
    grind

theorem dvd_sumTo (p : Int) (n : Nat) (f : Nat → Int) (h : ∀ k, k < n → p ∣ f k) : p ∣ sumTo n f := by
  induction n with
  | zero => exact ⟨0, by simp [sumTo]⟩
  | succ n ih => exact Int.dvd_add (ih fun k hk => h k (by omega)) (h n (by omega))

theorem dvd_ch {p : Nat} (hp : Prime p) (k : Nat) (h0 : 0 < k) (h1 : k < p) : p ∣ ch p k := by
  obtain ⟨k, rfl⟩ : ∃ j, k = j + 1 := ⟨k - 1, by omega⟩
  obtain ⟨q, rfl⟩ : ∃ q, p = q + 1 := ⟨p - 1, by have := hp.1; omega⟩
  have h := ch_mul q k
  have h2 : (q + 1) ∣ (k + 1) * ch (q + 1) (k + 1) := ⟨ch q k, h⟩
  rcases euclid hp h2 with h3 | h3
  · exact absurd (Nat.le_of_dvd (by omega) h3) (by omega)
  · exact h3

theorem dream {p : Nat} (hp : Prime p) (a : Int) : (p : Int) ∣ (a + 1) ^ p - (a ^ p + 1) := by
  rw [binom a p]
  obtain ⟨q, hq⟩ : ∃ q, p = q + 1 := ⟨p - 1, by have := hp.1; omega⟩
  have e : sumTo (p + 1) (fun k => (ch p k : Int) * a ^ k) = 1 + sumTo q (fun k => (ch p (k + 1) : Int) * a ^ (k + 1)) + a ^ p := by
    have h1 : sumTo (p + 1) (fun k => (ch p k : Int) * a ^ k) = sumTo p (fun k => (ch p k : Int) * a ^ k) + (ch p p : Int) * a ^ p := rfl
    rw [h1, ch_self]
    have h2 : sumTo p (fun k => (ch p k : Int) * a ^ k) = 1 + sumTo q (fun k => (ch p (k + 1) : Int) * a ^ (k + 1)) := by
      conv => lhs; rw [hq]
      rw [sumTo_head, ← hq]
      have : (ch p 0 : Int) * a ^ 0 = 1 := by cases p <;> simp [ch]
      rw [this]
    rw [h2]; simp
  rw [e]
  have hd := dvd_sumTo (p : Int) q (fun k => (ch p (k + 1) : Int) * a ^ (k + 1)) (fun k hk => by
    have := dvd_ch hp (k + 1) (by omega) (by omega)
    exact Int.dvd_mul_of_dvd_left (Int.natCast_dvd_natCast.2 this))
  have e3 : 1 + sumTo q (fun k => (ch p (k + 1) : Int) * a ^ (k + 1)) + a ^ p - (a ^ p + 1) = sumTo q (fun k => (ch p (k + 1) : Int) * a ^ (k + 1)) := by omega
  rw [e3]; exact hd

theorem fermatN {p : Nat} (hp : Prime p) : ∀ n : Nat, (p : Int) ∣ (n : Int) ^ p - (n : Int)
  | 0 => by
    have := hp.1
    rw [show ((0 : Nat) : Int) = 0 from rfl, Int.zero_pow (by omega)]; exact ⟨0, by simp⟩
  | n + 1 => by
    have h1 := dream hp (n : Int)
    have h2 := fermatN hp n
    have e : ((n + 1 : Nat) : Int) ^ p - ((n + 1 : Nat) : Int) = (((n : Int) + 1) ^ p - ((n : Int) ^ p + 1)) + ((n : Int) ^ p - n) := by
      rw [show ((n + 1 : Nat) : Int) = (n : Int) + 1 by omega]; omega
    rw [e]; exact Int.dvd_add h1 h2

theorem pow_cong (p : Int) (a b : Int) (h : p ∣ a - b) : ∀ n : Nat, p ∣ a ^ n - b ^ n
  | 0 => ⟨0, by simp⟩
  | n + 1 => by
    obtain ⟨c, hc⟩ := h
    obtain ⟨d, hd⟩ := pow_cong p a b ⟨c, hc⟩ n
    refine ⟨c * a ^ n + b * d, ?_⟩
    rw [Int.pow_succ, Int.pow_succ]; grind

theorem fermat {p : Nat} (hp : Prime p) (a : Int) : (p : Int) ∣ a ^ p - a := by
  have hp0 : (0 : Int) < p := by have := hp.1; omega
  have h0 : (p : Int) ∣ a - a % p := ⟨a / p, by have := Int.emod_add_mul_ediv a p; omega⟩
  have h1 := pow_cong p a (a % p) h0 p
  have h2 : (p : Int) ∣ (a % p) ^ p - a % p := by
    obtain ⟨n, hn⟩ := Int.eq_ofNat_of_zero_le (Int.emod_nonneg a (by omega : (p : Int) ≠ 0))
    rw [hn]; exact fermatN hp n
  have e : a ^ p - a = (a ^ p - (a % p) ^ p) + ((a % p) ^ p - a % p) - (a - a % p) := by omega
  rw [e]; exact Int.dvd_sub (Int.dvd_add h1 h2) h0

theorem inverse {p : Nat} (hp : Prime p) (a : Int) (ha : ¬ (p : Int) ∣ a) : (p : Int) ∣ a * a ^ (p - 2) - 1 := by
  have h := fermat hp a
  have e : a ^ p - a = a * (a * a ^ (p - 2) - 1) := by
    obtain ⟨q, hq⟩ : ∃ q, p = q + 2 := ⟨p - 2, by have := hp.1; omega⟩
    rw [hq, show q + 2 - 2 = q by omega, Int.pow_succ, Int.pow_succ]; grind
  rw [e] at h
  exact (euclidI hp h).resolve_left ha

/-! ### polynomials -/
def ev : List Int → Int → Int
  | [], _ => 0
  | c :: cs, t => c + t * ev cs t
def addp : List Int → List Int → List Int
  | [], b => b
  | a, [] => a
  | x :: a, y :: b => (x + y) :: addp a b
theorem ev_addp : ∀ (a b : List Int) (t : Int), ev (addp a b) t = ev a t + ev b t
  | [], b, t => by simp [addp, ev]
  | x :: a, [], t => by simp [addp, ev]
  | x :: a, y :: b, t => by simp only [addp, ev]; rw [ev_addp a b t]; grind
theorem len_addp : ∀ (a b : List Int), (addp a b).length = max a.length b.length
  | [], b => by simp [addp]
  | x :: a, [] => by simp [addp]
  | x :: a, y :: b => by simp only [addp, List.length_cons]; rw [len_addp a b]; omega
def scale (c : Int) (a : List Int) : List Int := a.map (c * ·)
theorem ev_scale (c : Int) : ∀ (a : List Int) (t : Int), ev (scale c a) t = c * ev a t
  | [], t => by simp [scale, ev]
  | x :: a, t => by
    have := ev_scale c a t
    simp only [scale, List.map_cons, ev] at this ⊢; rw [this]; grind
theorem len_scale (c : Int) (a : List Int) : (scale c a).length = a.length := by simp [scale]
/-- (t - a) * P(t) -/
def mulLin (a : Int) (cs : List Int) : List Int := addp (0 :: cs) (scale (-a) cs)
theorem ev_mulLin (a : Int) (cs : List Int) (t : Int) : ev (mulLin a cs) t = (t - a) * ev cs t := by
  simp only [mulLin, ev_addp, ev, ev_scale]; grind
theorem len_mulLin (a : Int) (cs : List Int) : (mulLin a cs).length = cs.length + 1 := by
  simp [mulLin, len_addp, len_scale]
/-- (P(t) - P(a)) / (t - a), of the tail's coefficients -/
def qd (a : Int) : List Int → List Int
  | [] => []
  | c :: cs => addp (c :: cs) (scale a (qd a cs))
theorem ev_qd (a : Int) : ∀ (cs : List Int) (t : Int), t * ev cs t - a * ev cs a = (t - a) * ev (qd a cs) t
  | [], t => by simp [ev, qd]
  | c :: cs, t => by
    have h := ev_qd a cs t
    simp only [qd, ev_addp, ev_scale, ev]; grind
theorem len_qd (a : Int) : ∀ cs : List Int, (qd a cs).length = cs.length
  | [] => rfl
  | c :: cs => by simp only [qd, len_addp, len_scale, len_qd a cs, List.length_cons]; omega

/-- pairwise not congruent -/
def Apart (p : Int) (xs : List Int) : Prop := xs.Pairwise fun a b => ¬ p ∣ a - b

theorem roots {p : Nat} (hp : Prime p) : ∀ (xs cs : List Int), Apart p xs → cs.length ≤ xs.length → (∀ x, x ∈ xs → (p : Int) ∣ ev cs x) → ∀ t, (p : Int) ∣ ev cs t
  | _, [], _, _, _ => fun t => ⟨0, by simp [ev]⟩
  | [], c :: cs, _, h, _ => by simp at h
  | x :: xs, c :: cs, ha, hl, hr => by
    have hx := hr x (by simp)
    have ha' := List.pairwise_cons.1 ha
    have key : ∀ t, ev (c :: cs) t = ev (c :: cs) x + (t - x) * ev (qd x cs) t := by
      intro t; have := ev_qd x cs t; simp only [ev]; omega
    have hd := roots hp xs (qd x cs) ha'.2 (by rw [len_qd]; simpa using hl) (fun y hy => by
      have h1 := hr y (by simp [hy])
      rw [key y] at h1
      have h2 : (p : Int) ∣ (y - x) * ev (qd x cs) y := by
        have := Int.dvd_sub h1 hx
        rwa [show ev (c :: cs) x + (y - x) * ev (qd x cs) y - ev (c :: cs) x = (y - x) * ev (qd x cs) y by omega] at this
      refine (euclidI hp h2).resolve_left fun h3 => ha'.1 y hy ?_
      have := Int.dvd_neg.2 h3
      rwa [show -(y - x) = x - y by omega] at this)
    intro t
    rw [key t]
    exact Int.dvd_add hx (Int.dvd_mul_of_dvd_right (hd t))

/-- two polynomials that agree at enough places agree -/
theorem agree {p : Nat} (hp : Prime p) (xs a b : List Int) (hx : Apart p xs) (hla : a.length ≤ xs.length) (hlb : b.length ≤ xs.length)
    (h : ∀ x, x ∈ xs → (p : Int) ∣ ev a x - ev b x) (t : Int) : (p : Int) ∣ ev a t - ev b t := by
  have e : ∀ t, ev (addp a (scale (-1) b)) t = ev a t - ev b t := by intro t; rw [ev_addp, ev_scale]; omega
  rw [← e]
  refine roots hp xs _ hx ?_ (fun x hm => by rw [e]; exact h x hm) t
  rw [len_addp, len_scale]; omega

end FieldMath
