/- Plain facts about binomial numbers (bin) and factorials (fac): no program in sight. -/

namespace Go.Proofs.Ytmjlbkejlbckoaa.Plain

def bin : Nat → Nat → Nat
  | _, 0 => 1
  | 0, _ + 1 => 0
  | n + 1, k + 1 => bin n k + bin n (k + 1)

def fac : Nat → Nat
  | 0 => 1
  | n + 1 => (n + 1) * fac n

theorem bin_zero (n : Nat) : bin n 0 = 1 := by cases n <;> rfl
theorem bin_succ (n k : Nat) : bin (n + 1) (k + 1) = bin n k + bin n (k + 1) := rfl
theorem fac_succ (n : Nat) : fac (n + 1) = (n + 1) * fac n := rfl

theorem bin_lt : ∀ (n k : Nat), n < k → bin n k = 0
  | _, 0, h => by omega
  | 0, _ + 1, _ => rfl
  | n + 1, k + 1, h => by rw [bin_succ, bin_lt n k (by omega), bin_lt n (k + 1) (by omega)]

theorem bin_self (n : Nat) : bin n n = 1 := by
  induction n with
  | zero => rfl
  | succ n ih => rw [bin_succ, ih, bin_lt n (n + 1) (by omega)]

theorem bin_pos : ∀ (n k : Nat), k ≤ n → 0 < bin n k
  | n, 0, _ => by rw [bin_zero]; omega
  | 0, _ + 1, h => by omega
  | n + 1, k + 1, h => by rw [bin_succ]; have := bin_pos n k (by omega); omega

theorem fac_pos (n : Nat) : 0 < fac n := by
  induction n with
  | zero => decide
  | succ n ih => rw [fac_succ]; exact Nat.mul_pos (by omega) ih

/-- (a+b choose a) a! b! = (a+b)! -/
theorem bin_fac : ∀ (s a b : Nat), a + b = s → bin (a + b) a * (fac a * fac b) = fac (a + b) := by
  intro s
  induction s with
  | zero => intro a b h; obtain ⟨rfl, rfl⟩ : a = 0 ∧ b = 0 := by omega
            rfl
  | succ s ih =>
    intro a b h
    match a, b with
    | 0, b => simp [bin_zero, fac]
    | a + 1, 0 => simp [bin_self, fac]
    | a + 1, b + 1 =>
      have e1 := ih a (b + 1) (by omega)
      have e2 := ih (a + 1) b (by omega)
      have e : a + 1 + (b + 1) = (a + (b + 1)) + 1 := by omega
      have e' : a + 1 + b = a + (b + 1) := by omega
      rw [e, bin_succ, fac_succ, Nat.add_mul]
      rw [e'] at e2
      calc bin (a + (b + 1)) a * (fac (a + 1) * fac (b + 1)) + bin (a + (b + 1)) (a + 1) * (fac (a + 1) * fac (b + 1))
          = (a + 1) * (bin (a + (b + 1)) a * (fac a * fac (b + 1))) + (b + 1) * (bin (a + (b + 1)) (a + 1) * (fac (a + 1) * fac b)) := by
            rw [fac_succ a, fac_succ b]; ac_rfl
        _ = (a + 1) * fac (a + (b + 1)) + (b + 1) * fac (a + (b + 1)) := by rw [e1, e2]
        _ = _ := by rw [← Nat.add_mul]; congr 1

theorem bin_fac' (a b : Nat) : bin (a + b) a * (fac a * fac b) = fac (a + b) := bin_fac _ a b rfl

theorem bin_symm (a b : Nat) : bin (a + b) a = bin (a + b) b := by
  have h1 := bin_fac' a b
  have h2 := bin_fac' b a
  rw [Nat.add_comm b a, Nat.mul_comm (fac b)] at h2
  exact Nat.eq_of_mul_eq_mul_right (Nat.mul_pos (fac_pos a) (fac_pos b)) (h1.trans h2.symm)

theorem bin_symm' (n k : Nat) (h : k ≤ n) : bin n (n - k) = bin n k := by
  obtain ⟨b, rfl⟩ : ∃ b, n = k + b := ⟨n - k, by omega⟩
  rw [show k + b - k = b by omega, bin_symm k b]

/-- choosing a+b of a+b+c and then a of them, or a first and then b -/
theorem bin_twice (a b c : Nat) : bin (a + b + c) (a + b) * bin (a + b) a = bin (a + b + c) a * bin (b + c) b := by
  have p : 0 < fac a * (fac b * fac c) := Nat.mul_pos (fac_pos a) (Nat.mul_pos (fac_pos b) (fac_pos c))
  apply Nat.eq_of_mul_eq_mul_right p
  have h1 := bin_fac' (a + b) c
  have h2 := bin_fac' a b
  have h3 := bin_fac' a (b + c)
  have h4 := bin_fac' b c
  rw [← Nat.add_assoc] at h3
  calc bin (a + b + c) (a + b) * bin (a + b) a * (fac a * (fac b * fac c))
      = bin (a + b + c) (a + b) * ((bin (a + b) a * (fac a * fac b)) * fac c) := by ac_rfl
    _ = fac (a + b + c) := by rw [h2, h1]
    _ = bin (a + b + c) a * (fac a * (bin (b + c) b * (fac b * fac c))) := by rw [h4, h3]
    _ = _ := by ac_rfl

theorem bin_twice' (t p k : Nat) (h1 : k ≤ p) (h2 : p ≤ t) : bin t p * bin p k = bin t k * bin (t - k) (p - k) := by
  obtain ⟨b, rfl⟩ : ∃ b, p = k + b := ⟨p - k, by omega⟩
  obtain ⟨c, rfl⟩ : ∃ c, t = k + b + c := ⟨t - (k + b), by omega⟩
  rw [show k + b + c - k = b + c by omega, show k + b - k = b by omega]
  exact bin_twice k b c

/-- marked first, or picked first -/
theorem bin_cells (b x y z : Nat) :
    bin (b + x) b * bin (y + z) y * bin (b + x + (y + z)) (b + x) = bin (b + y) b * bin (x + z) x * bin (b + x + (y + z)) (b + y) := by
  have p : 0 < fac b * (fac x * (fac y * fac z)) := Nat.mul_pos (fac_pos b) (Nat.mul_pos (fac_pos x) (Nat.mul_pos (fac_pos y) (fac_pos z)))
  apply Nat.eq_of_mul_eq_mul_right p
  have h1 := bin_fac' b x
  have h2 := bin_fac' y z
  have h3 := bin_fac' (b + x) (y + z)
  have h4 := bin_fac' b y
  have h5 := bin_fac' x z
  have h6 := bin_fac' (b + y) (x + z)
  rw [show b + y + (x + z) = b + x + (y + z) by omega] at h6
  calc bin (b + x) b * bin (y + z) y * bin (b + x + (y + z)) (b + x) * (fac b * (fac x * (fac y * fac z)))
      = bin (b + x + (y + z)) (b + x) * ((bin (b + x) b * (fac b * fac x)) * (bin (y + z) y * (fac y * fac z))) := by ac_rfl
    _ = bin (b + x + (y + z)) (b + y) * ((bin (b + y) b * (fac b * fac y)) * (bin (x + z) x * (fac x * fac z))) := by rw [h1, h2, h3, h4, h5, h6]
    _ = _ := by ac_rfl

/-- (k+1) (n+1 choose k+1) = (n+1) (n choose k) -/
theorem bin_absorb : ∀ (n k : Nat), (k + 1) * bin (n + 1) (k + 1) = (n + 1) * bin n k := by
  intro n
  induction n with
  | zero => intro k; cases k with
    | zero => rfl
    | succ k => rw [bin_succ, bin_lt 0 (k + 1) (by omega), bin_lt 0 (k + 2) (by omega)]; omega
  | succ n ih =>
    intro k
    cases k with
    | zero =>
      have := ih 0
      rw [bin_succ (n + 1) 0, bin_zero] at *
      simp only [Nat.zero_add, Nat.one_mul, Nat.mul_one] at *
      omega
    | succ k =>
      rw [bin_succ (n + 1) (k + 1), Nat.mul_add]
      have h1 := ih k
      have h2 := ih (k + 1)
      rw [show (k + 1 + 1) * bin (n + 1) (k + 1) = (k + 1) * bin (n + 1) (k + 1) + bin (n + 1) (k + 1) by rw [Nat.add_mul, Nat.one_mul], h1, h2]
      rw [bin_succ n k]
      rw [Nat.add_mul (n + 1) 1, Nat.mul_add (n + 1)]
      omega

/-- (k+1) (n choose k+1) + k (n choose k) = n (n choose k) -/
theorem bin_next (n k : Nat) : (k + 1) * bin n (k + 1) + k * bin n k = n * bin n k := by
  have h := bin_absorb n k
  cases k with
  | zero =>
    rw [bin_succ, bin_zero] at *
    simp only [Nat.zero_add, Nat.one_mul, Nat.mul_one, Nat.add_zero] at *
    omega
  | succ k =>
    rw [bin_succ, Nat.mul_add, Nat.add_mul n 1, Nat.one_mul] at h
    have : (k + 1 + 1) * bin n (k + 1) = (k + 1) * bin n (k + 1) + bin n (k + 1) := by rw [Nat.add_mul, Nat.one_mul]
    omega

theorem bin_le_pow : ∀ (n k : Nat), bin n k ≤ 2 ^ n
  | n, 0 => by rw [bin_zero]; exact Nat.one_le_two_pow
  | 0, _ + 1 => by simp [bin]
  | n + 1, k + 1 => by
    rw [bin_succ, Nat.pow_succ]; have := bin_le_pow n k; have := bin_le_pow n (k + 1); omega

/-- sum of f 0 .. f (n-1) -/
def sumTo (f : Nat → Nat) : Nat → Nat
  | 0 => 0
  | n + 1 => sumTo f n + f n

theorem sumTo_succ (f : Nat → Nat) (n : Nat) : sumTo f (n + 1) = sumTo f n + f n := rfl

theorem sumTo_congr {f g : Nat → Nat} {n : Nat} (h : ∀ k, k < n → f k = g k) : sumTo f n = sumTo g n := by
  induction n with
  | zero => rfl
  | succ n ih => rw [sumTo_succ, sumTo_succ, ih (fun k hk => h k (by omega)), h n (by omega)]

theorem sumTo_add (f g : Nat → Nat) (n : Nat) : sumTo (fun k => f k + g k) n = sumTo f n + sumTo g n := by
  induction n with
  | zero => rfl
  | succ n ih => rw [sumTo_succ, sumTo_succ, sumTo_succ, ih]; omega

theorem sumTo_mul (c : Nat) (f : Nat → Nat) (n : Nat) : sumTo (fun k => c * f k) n = c * sumTo f n := by
  induction n with
  | zero => rfl
  | succ n ih => rw [sumTo_succ, sumTo_succ, ih, Nat.mul_add]

theorem sumTo_front (f : Nat → Nat) (n : Nat) : sumTo f (n + 1) = f 0 + sumTo (fun k => f (k + 1)) n := by
  induction n with
  | zero => simp [sumTo]
  | succ n ih => rw [sumTo_succ, ih, sumTo_succ]; omega

theorem sumTo_le {f g : Nat → Nat} {n : Nat} (h : ∀ k, k < n → f k ≤ g k) : sumTo f n ≤ sumTo g n := by
  induction n with
  | zero => exact Nat.le_refl _
  | succ n ih => rw [sumTo_succ, sumTo_succ]; have := ih (fun k hk => h k (by omega)); have := h n (by omega); omega

theorem sumTo_mono (f : Nat → Nat) {m n : Nat} (h : m ≤ n) : sumTo f m ≤ sumTo f n := by
  induction n with
  | zero => obtain rfl : m = 0 := by omega
            exact Nat.le_refl _
  | succ n ih =>
    by_cases e : m = n + 1
    · rw [e]; exact Nat.le_refl _
    · have := ih (by omega); rw [sumTo_succ]; omega

/-- picks to pick p, k of the m marked ones and p-k of the n others -/
def picks (m n p k : Nat) : Nat := bin m k * bin n (p - k)

theorem vander : ∀ (m n p : Nat), sumTo (picks m n p) (p + 1) = bin (m + n) p := by
  intro m
  induction m with
  | zero =>
    intro n p
    rw [sumTo_front]
    have : sumTo (fun k => picks 0 n p (k + 1)) p = 0 := by
      have h : ∀ k, k < p → picks 0 n p (k + 1) = (fun _ => 0) k := fun k _ => by simp [picks, bin_lt 0 (k + 1) (by omega)]
      rw [sumTo_congr h]
      clear h
      induction p with
      | zero => rfl
      | succ p ih => rw [sumTo_succ, ih]
    rw [this]; simp [picks, bin_zero]
  | succ m ih =>
    intro n p
    cases p with
    | zero => simp [sumTo, picks, bin_zero]
    | succ p =>
      rw [sumTo_front]
      have h : ∀ k, k < p + 1 → picks (m + 1) n (p + 1) (k + 1) = (fun k => picks m n p k + picks m n (p + 1) (k + 1)) k := fun k _ => by
        simp only [picks, bin_succ]
        rw [Nat.add_mul, show p + 1 - (k + 1) = p - k by omega]
      rw [sumTo_congr h, sumTo_add, ih n p]
      have h2 := ih n (p + 1)
      rw [sumTo_front] at h2
      have h3 : picks (m + 1) n (p + 1) 0 = picks m n (p + 1) 0 := by simp [picks, bin_zero]
      rw [h3, show m + 1 + n = (m + n) + 1 by omega, bin_succ]
      omega

/-- the mean: the sum with counts -/
theorem vander_mean (m n p : Nat) : (m + n) * sumTo (fun k => k * picks m n p k) (p + 1) = m * p * bin (m + n) p := by
  cases m with
  | zero =>
    have : sumTo (fun k => k * picks 0 n p k) (p + 1) = 0 := by
      rw [sumTo_front]
      have h : ∀ k, k < p → (k + 1) * picks 0 n p (k + 1) = (fun _ => 0) k := fun k _ => by simp [picks, bin_lt 0 (k + 1) (by omega)]
      rw [sumTo_congr h]
      simp only [Nat.zero_mul, Nat.zero_add]
      clear h
      induction p with
      | zero => rfl
      | succ p ih => rw [sumTo_succ, ih]
    rw [this]; simp
  | succ m =>
    cases p with
    | zero => simp [sumTo]
    | succ p =>
      rw [sumTo_front]
      have h : ∀ k, k < p + 1 → (k + 1) * picks (m + 1) n (p + 1) (k + 1) = (fun k => (m + 1) * picks m n p k) k := fun k _ => by
        simp only [picks]
        rw [← Nat.mul_assoc, bin_absorb, Nat.mul_assoc, show p + 1 - (k + 1) = p - k by omega]
      rw [sumTo_congr h, sumTo_mul, vander]
      have := bin_absorb (m + n) p
      rw [show m + 1 + n = m + n + 1 by omega]
      calc (m + n + 1) * (0 * picks (m + 1) n (p + 1) 0 + (m + 1) * bin (m + n) p)
          = (m + 1) * ((m + n + 1) * bin (m + n) p) := by rw [Nat.zero_mul, Nat.zero_add]; ac_rfl
        _ = (m + 1) * ((p + 1) * bin (m + n + 1) (p + 1)) := by rw [this]
        _ = _ := by ac_rfl

/-- shortened: with p + 1 picked and one draw left out -/
theorem picks_short (m n p k : Nat) (hk : k ≤ p) (hp : p + 1 ≤ m + n) :
    picks m n (p + 1) k * (p + 1 - k) + picks m n (p + 1) (k + 1) * (k + 1) = picks m n p k * (m + n - p) := by
  simp only [picks]
  rw [show p + 1 - (k + 1) = p - k by omega, show p + 1 - k = (p - k) + 1 by omega]
  have h1 := bin_next n (p - k)
  have h2 := bin_next m k
  by_cases hm : m < k
  · rw [bin_lt m k hm, bin_lt m (k + 1) (by omega)]; simp
  by_cases hn : n < p - k
  · rw [bin_lt n (p - k) hn, bin_lt n (p - k + 1) (by omega)]; simp
  have e1 : (p - k + 1) * bin n (p - k + 1) = (n - (p - k)) * bin n (p - k) := by
    rw [Nat.sub_mul]; omega
  have e2 : (k + 1) * bin m (k + 1) = (m - k) * bin m k := by
    rw [Nat.sub_mul]; omega
  calc bin m k * bin n (p - k + 1) * (p - k + 1) + bin m (k + 1) * bin n (p - k) * (k + 1)
      = bin m k * ((p - k + 1) * bin n (p - k + 1)) + ((k + 1) * bin m (k + 1)) * bin n (p - k) := by congr 1 <;> ac_rfl
    _ = bin m k * ((n - (p - k)) * bin n (p - k)) + ((m - k) * bin m k) * bin n (p - k) := by rw [e1, e2]
    _ = bin m k * bin n (p - k) * (n - (p - k)) + bin m k * bin n (p - k) * (m - k) := by congr 1 <;> ac_rfl
    _ = bin m k * bin n (p - k) * ((n - (p - k)) + (m - k)) := by rw [← Nat.mul_add]
    _ = _ := by congr 1; omega

end Go.Proofs.Ytmjlbkejlbckoaa.Plain
