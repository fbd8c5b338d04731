/- FnExactTailWays: for all arguments that the statement lets in, the law answers true. No condition of ours. -/
import Derived.Test.YthcemfpnppkepaaPFnExactTailWaysx2
import Derived.Test.YthcemfpnppkepaaBin
namespace Go.Proofs.Ythcemfpnppkepaa.Pure
open Go.RowKit Go.Proofs.Ythcemfpnppkepaa.PFnExactTailWays Go.Proofs.YthcemfpnppkepaaW.PrintWords Go.Proofs.YthcemfpnppkepaaW.PrintLast
open Go.Proofs.Ythcemfpnppkepaa.Plain

theorem wr {n : Int} (h0 : -9223372036854775808 ≤ n) (h1 : n < 9223372036854775808) : wrap64 n = n := by unfold wrap64; omega
theorem wrap_lo (x : Int) : -9223372036854775808 ≤ wrap64 x := by unfold wrap64; omega
theorem wrap_hi (x : Int) : wrap64 x < 9223372036854775808 := by unfold wrap64; omega

def pickW (t p : Int) : Int := if 0 ≤ t ∧ t ≤ 30 ∧ 0 ≤ p then ((bin t.toNat p.toNat : Nat) : Int) else -1

def sOk (t m p : Int) : Prop := 0 ≤ t ∧ t ≤ 30 ∧ 0 ≤ m ∧ m ≤ t ∧ 0 ≤ p ∧ p ≤ t

instance (t m p : Int) : Decidable (sOk t m p) := by unfold sOk; infer_instance

def markW (t m p b : Int) : Int := if sOk t m p ∧ 0 ≤ b ∧ b ≤ p then ((picks m.toNat (t - m).toNat p.toNat b.toNat : Nat) : Int) else -1

def tailW (t m p b : Int) : Int := if sOk t m p ∧ 0 ≤ b ∧ b ≤ p then ((sumTo (picks m.toNat (t - m).toNat p.toNat) (p.toNat + 1) : Nat) : Int) - (sumTo (picks m.toNat (t - m).toNat p.toNat) b.toNat : Nat) else -1

theorem picks_le (m n p k : Nat) (h : m + n ≤ 30) : picks m n p k ≤ 2 ^ 30 := by
  unfold picks
  have h1 := bin_le_pow m k
  have h2 := bin_le_pow n (p - k)
  have := Nat.mul_le_mul h1 h2
  rw [← Nat.pow_add] at this
  exact Nat.le_trans this (Nat.pow_le_pow_right (by omega) h)

theorem bin_le30 (n k : Nat) (h : n ≤ 30) : bin n k ≤ 2 ^ 30 := Nat.le_trans (bin_le_pow n k) (Nat.pow_le_pow_right (by omega) h)

theorem sum_picks_le (m n p i : Nat) (h : m + n ≤ 30) (hi : i ≤ p + 1) : sumTo (picks m n p) i ≤ 2 ^ 30 := by
  have h1 := sumTo_mono (picks m n p) hi
  rw [vander] at h1
  exact Nat.le_trans h1 (bin_le30 _ _ h)

theorem impl_choose_l0 (m k : Nat) (hn : m + k ≤ 30) : ∀ (d j f : Nat), j + d = k → d < f →
    impl_choose.l0 f ((m + k : Nat) : Int) (k : Int) ((bin (m + j) j : Nat) : Int) ((j : Int) + 1) = some ((bin (m + k) k : Nat) : Int) := by
  intro d
  induction d with
  | zero =>
    intro j f hj hf
    obtain ⟨f, rfl⟩ : ∃ g, f = g + 1 := ⟨f - 1, by omega⟩
    obtain rfl : j = k := by omega
    simp only [impl_choose.l0]; rw [if_neg (by omega)]
  | succ d ih =>
    intro j f hj hf
    obtain ⟨f, rfl⟩ : ∃ g, f = g + 1 := ⟨f - 1, by omega⟩
    have hb : bin (m + j) j ≤ 2 ^ 30 := Nat.le_trans (bin_le_pow _ _) (Nat.pow_le_pow_right (by omega) (by omega))
    have hb2 : bin (m + (j + 1)) (j + 1) ≤ 2 ^ 30 := Nat.le_trans (bin_le_pow _ _) (Nat.pow_le_pow_right (by omega) (by omega))
    have ha := bin_absorb (m + j) j
    have hmul : ((bin (m + j) j : Nat) : Int) * ((m : Int) + ((j : Int) + 1)) = ((j : Int) + 1) * ((bin (m + (j + 1)) (j + 1) : Nat) : Int) := by
      have : bin (m + j) j * (m + (j + 1)) = (j + 1) * bin (m + (j + 1)) (j + 1) := by rw [show m + (j + 1) = m + j + 1 by omega, ha, Nat.mul_comm]
      exact_mod_cast this
    have hle : (((j : Int) + 1) * ((bin (m + (j + 1)) (j + 1) : Nat) : Int)) ≤ 31 * 2 ^ 30 ∧ 0 ≤ (((j : Int) + 1) * ((bin (m + (j + 1)) (j + 1) : Nat) : Int)) := by
      have hle : (j + 1) * bin (m + (j + 1)) (j + 1) ≤ 31 * 2 ^ 30 := Nat.mul_le_mul (by omega) hb2
      have h0 : 0 ≤ (j + 1) * bin (m + (j + 1)) (j + 1) := Nat.zero_le _
      exact ⟨by exact_mod_cast hle, by exact_mod_cast h0⟩
    simp only [impl_choose.l0]
    rw [if_pos (by omega), if_neg (by omega), wr (n := ((m + k : Nat) : Int) - (k : Int)) (by omega) (by omega), show ((m + k : Nat) : Int) - (k : Int) = m by omega,
      wr (n := (m : Int) + ((j : Int) + 1)) (by omega) (by omega), hmul, wr (n := ((j : Int) + 1) * ((bin (m + (j + 1)) (j + 1) : Nat) : Int)) (by omega) (by omega), Int.mul_tdiv_cancel_left _ (by omega), wr (n := ((bin (m + (j + 1)) (j + 1) : Nat) : Int)) (by omega) (by omega), wr (n := (j : Int) + 1 + 1) (by omega) (by omega)]
    exact ih (j + 1) f (by omega) (by omega)

theorem impl_choose_ok (n k f : Nat) (hn : n ≤ 30) (hf : 33 ≤ f) : impl_choose.f f (n : Int) (k : Int) = some ((bin n k : Nat) : Int) := by
  obtain ⟨f, rfl⟩ : ∃ g, f = g + 1 := ⟨f - 1, by omega⟩
  unfold impl_choose.f
  rw [if_neg (by omega)]
  by_cases h : n < k
  · rw [decide_eq_true (by omega)]; simp only [impl_choose.j0, if_true]; rw [bin_lt n k h]; rfl
  · rw [decide_eq_false (by omega)]; simp only [impl_choose.j0]; rw [if_neg (by decide)]
    obtain ⟨m, rfl⟩ : ∃ m, n = m + k := ⟨n - k, by omega⟩
    have := impl_choose_l0 m k hn k 0 f (by omega) (by omega)
    rw [Nat.add_zero, bin_zero] at this
    exact this

theorem spec_l7Choose_l0 (m k : Nat) (hn : m + k ≤ 30) : ∀ (d j f : Nat), j + d = k → d < f →
    spec_l7Choose.l0 f ((m + k : Nat) : Int) (k : Int) ((bin (m + j) j : Nat) : Int) ((j : Int) + 1) = some ((bin (m + k) k : Nat) : Int) := by
  intro d
  induction d with
  | zero =>
    intro j f hj hf
    obtain ⟨f, rfl⟩ : ∃ g, f = g + 1 := ⟨f - 1, by omega⟩
    obtain rfl : j = k := by omega
    simp only [spec_l7Choose.l0]; rw [if_neg (by omega)]
  | succ d ih =>
    intro j f hj hf
    obtain ⟨f, rfl⟩ : ∃ g, f = g + 1 := ⟨f - 1, by omega⟩
    have hb : bin (m + j) j ≤ 2 ^ 30 := Nat.le_trans (bin_le_pow _ _) (Nat.pow_le_pow_right (by omega) (by omega))
    have hb2 : bin (m + (j + 1)) (j + 1) ≤ 2 ^ 30 := Nat.le_trans (bin_le_pow _ _) (Nat.pow_le_pow_right (by omega) (by omega))
    have ha := bin_absorb (m + j) j
    have hmul : ((bin (m + j) j : Nat) : Int) * ((m : Int) + ((j : Int) + 1)) = ((j : Int) + 1) * ((bin (m + (j + 1)) (j + 1) : Nat) : Int) := by
      have : bin (m + j) j * (m + (j + 1)) = (j + 1) * bin (m + (j + 1)) (j + 1) := by rw [show m + (j + 1) = m + j + 1 by omega, ha, Nat.mul_comm]
      exact_mod_cast this
    have hle : (((j : Int) + 1) * ((bin (m + (j + 1)) (j + 1) : Nat) : Int)) ≤ 31 * 2 ^ 30 ∧ 0 ≤ (((j : Int) + 1) * ((bin (m + (j + 1)) (j + 1) : Nat) : Int)) := by
      have hle : (j + 1) * bin (m + (j + 1)) (j + 1) ≤ 31 * 2 ^ 30 := Nat.mul_le_mul (by omega) hb2
      have h0 : 0 ≤ (j + 1) * bin (m + (j + 1)) (j + 1) := Nat.zero_le _
      exact ⟨by exact_mod_cast hle, by exact_mod_cast h0⟩
    simp only [spec_l7Choose.l0]
    rw [if_pos (by omega), if_neg (by omega), wr (n := ((m + k : Nat) : Int) - (k : Int)) (by omega) (by omega), show ((m + k : Nat) : Int) - (k : Int) = m by omega,
      wr (n := (m : Int) + ((j : Int) + 1)) (by omega) (by omega), hmul, wr (n := ((j : Int) + 1) * ((bin (m + (j + 1)) (j + 1) : Nat) : Int)) (by omega) (by omega), Int.mul_tdiv_cancel_left _ (by omega), wr (n := ((bin (m + (j + 1)) (j + 1) : Nat) : Int)) (by omega) (by omega), wr (n := (j : Int) + 1 + 1) (by omega) (by omega)]
    exact ih (j + 1) f (by omega) (by omega)

theorem spec_l7Choose_ok (n k f : Nat) (hn : n ≤ 30) (hf : 33 ≤ f) : spec_l7Choose.f f (n : Int) (k : Int) = some ((bin n k : Nat) : Int) := by
  obtain ⟨f, rfl⟩ : ∃ g, f = g + 1 := ⟨f - 1, by omega⟩
  unfold spec_l7Choose.f
  rw [if_neg (by omega)]
  by_cases h : n < k
  · rw [decide_eq_true (by omega)]; simp only [spec_l7Choose.j0, if_true]; rw [bin_lt n k h]; rfl
  · rw [decide_eq_false (by omega)]; simp only [spec_l7Choose.j0]; rw [if_neg (by decide)]
    obtain ⟨m, rfl⟩ : ∃ m, n = m + k := ⟨n - k, by omega⟩
    have := spec_l7Choose_l0 m k hn k 0 f (by omega) (by omega)
    rw [Nat.add_zero, bin_zero] at this
    exact this

theorem l1In_ok (a b c : Int) : spec_l1In.f a b c = some (decide (b ≤ a ∧ a ≤ c)) := by
  unfold spec_l1In.f
  by_cases h : a ≥ b
  · rw [if_pos h]; simp [h]
  · rw [if_neg h]; simp; omega

theorem impl_SampleOk_ok (t m p : Int) : impl_SampleOk.f t m p = some (decide (sOk t m p)) := by
  unfold impl_SampleOk.f sOk
  by_cases h1 : t ≥ 0 <;> by_cases h2 : t ≤ 30 <;> by_cases h3 : m ≥ 0 <;> by_cases h4 : m ≤ t <;> by_cases h5 : p ≥ 0 <;> simp [h1, h2, h3, h4, h5]

theorem spec_SampleOk_ok (t m p : Int) : spec_SampleOk.f t m p = some (decide (sOk t m p)) := by
  unfold spec_SampleOk.f
  simp only [l1In_ok, Option.bind_some]
  by_cases h1 : 0 ≤ t ∧ t ≤ 30
  · rw [if_pos (decide_eq_true h1)]
    by_cases h2 : 0 ≤ m ∧ m ≤ t
    · rw [if_pos (decide_eq_true h2)]
      congr 1; apply decide_eq_decide.2; unfold sOk; omega
    · rw [decide_eq_false h2, if_neg (by decide), decide_eq_false (show ¬ sOk t m p by unfold sOk; omega)]
  · rw [decide_eq_false h1, if_neg (by decide), decide_eq_false (show ¬ sOk t m p by unfold sOk; omega)]

theorem impl_MarkedWays_ok (t m p b : Int) (f : Nat) (hf : 34 ≤ f) : impl_MarkedWays.f f t m p b = some (markW t m p b) := by
  obtain ⟨f, rfl⟩ : ∃ g, f = g + 1 := ⟨f - 1, by omega⟩
  unfold impl_MarkedWays.f markW
  rw [impl_SampleOk_ok]; simp only [Option.bind_some]
  by_cases h : sOk t m p ∧ 0 ≤ b ∧ b ≤ p
  · have hs := h.1
    unfold sOk at hs
    rw [if_pos h, if_pos (decide_eq_true h.1), if_neg (show ¬ b < 0 from fun c => absurd c (Int.not_lt.2 h.2.1)), decide_eq_false (show ¬ b > p from Int.not_lt.2 h.2.2)]
    simp only [impl_MarkedWays.j0]; rw [if_neg (by decide)]
    obtain ⟨m, rfl⟩ := Int.eq_ofNat_of_zero_le (show 0 ≤ m by omega)
    obtain ⟨n, hn⟩ := Int.eq_ofNat_of_zero_le (show 0 ≤ t - m by omega)
    obtain ⟨b, rfl⟩ := Int.eq_ofNat_of_zero_le (show 0 ≤ b by omega)
    obtain ⟨q, hq⟩ := Int.eq_ofNat_of_zero_le (show 0 ≤ p - b by omega)
    obtain rfl : p = ((b + q : Nat) : Int) := by omega
    rw [wr (by omega) (by omega), wr (n := ((b + q : Nat) : Int) - b) (by omega) (by omega), hn, hq, impl_choose_ok m b f (by omega) (by omega), impl_choose_ok n q f (by omega) (by omega)]
    simp only [Option.bind_some]
    have hw := picks_le m n (b + q) b (by omega)
    unfold picks at hw ⊢
    simp only [Int.toNat_natCast]
    rw [show b + q - b = q by omega] at hw ⊢
    rw [← Int.natCast_mul, wr (by omega) (by omega)]
  · rw [if_neg h]
    have e : ∀ g, impl_MarkedWays.j0 (g + 1) t m p b true = some (-1) := fun g => by simp only [impl_MarkedWays.j0, if_true]
    by_cases h1 : sOk t m p
    · rw [if_pos (decide_eq_true h1)]
      by_cases h2 : b < 0
      · rw [if_pos h2, e]
      · rw [if_neg h2, decide_eq_true (show b > p from Int.not_le.1 fun c => h ⟨h1, by omega, c⟩), e]
    · rw [if_neg (by simpa using h1), e]

theorem spec_MarkedWays_ok (t m p b : Int) (f : Nat) (hf : 34 ≤ f) : spec_MarkedWays.f f t m p b = some (markW t m p b) := by
  obtain ⟨f, rfl⟩ : ∃ g, f = g + 1 := ⟨f - 1, by omega⟩
  unfold spec_MarkedWays.f markW
  rw [spec_SampleOk_ok]; simp only [Option.bind_some, l1In_ok]
  by_cases h : sOk t m p ∧ 0 ≤ b ∧ b ≤ p
  · have hs := h.1
    unfold sOk at hs
    rw [if_pos h, if_pos (decide_eq_true h.1), decide_eq_true h.2]
    simp only [spec_MarkedWays.j0, Bool.not_true]; rw [if_neg (by decide)]
    obtain ⟨m, rfl⟩ := Int.eq_ofNat_of_zero_le (show 0 ≤ m by omega)
    obtain ⟨n, hn⟩ := Int.eq_ofNat_of_zero_le (show 0 ≤ t - m by omega)
    obtain ⟨b, rfl⟩ := Int.eq_ofNat_of_zero_le (show 0 ≤ b by omega)
    obtain ⟨q, hq⟩ := Int.eq_ofNat_of_zero_le (show 0 ≤ p - b by omega)
    obtain rfl : p = ((b + q : Nat) : Int) := by omega
    rw [wr (by omega) (by omega), wr (n := ((b + q : Nat) : Int) - b) (by omega) (by omega), hn, hq, spec_l7Choose_ok m b f (by omega) (by omega), spec_l7Choose_ok n q f (by omega) (by omega)]
    simp only [Option.bind_some]
    have hw := picks_le m n (b + q) b (by omega)
    unfold picks at hw ⊢
    simp only [Int.toNat_natCast]
    rw [show b + q - b = q by omega] at hw ⊢
    rw [← Int.natCast_mul, wr (by omega) (by omega)]
  · rw [if_neg h]
    have e : ∀ g, spec_MarkedWays.j0 (g + 1) t m p b true = some (-1) := fun g => by simp only [spec_MarkedWays.j0, if_true]
    by_cases h1 : sOk t m p
    · rw [if_pos (decide_eq_true h1), decide_eq_false (fun c => h ⟨h1, c⟩)]
      exact e f
    · rw [if_neg (by simpa using h1), e]

theorem impl_TailWays_l0 (t m p b : Int) (hs : sOk t m p) (_ : 0 ≤ b) : ∀ (d i f : Nat), i + d = p.toNat + 1 → b.toNat ≤ i → d + 34 < f →
    impl_TailWays.l0 f t m p ((sumTo (picks m.toNat (t - m).toNat p.toNat) i : Nat) - (sumTo (picks m.toNat (t - m).toNat p.toNat) b.toNat : Nat)) (i : Int)
      = some (((sumTo (picks m.toNat (t - m).toNat p.toNat) (p.toNat + 1) : Nat) : Int) - (sumTo (picks m.toNat (t - m).toNat p.toNat) b.toNat : Nat)) := by
  have hs' := hs
  unfold sOk at hs'
  intro d
  induction d with
  | zero =>
    intro i f hi hbi hf
    obtain ⟨f, rfl⟩ : ∃ g, f = g + 1 := ⟨f - 1, by omega⟩
    simp only [impl_TailWays.l0]; rw [if_neg (by omega), show i = p.toNat + 1 by omega]
  | succ d ih =>
    intro i f hi hbi hf
    obtain ⟨f, rfl⟩ : ∃ g, f = g + 1 := ⟨f - 1, by omega⟩
    simp only [impl_TailWays.l0]
    rw [if_pos (by omega), impl_MarkedWays_ok t m p i f (by omega)]
    simp only [Option.bind_some]
    unfold markW
    rw [if_pos ⟨hs, by omega, by omega⟩, Int.toNat_natCast]
    have h1 := sum_picks_le m.toNat (t - m).toNat p.toNat (i + 1) (by omega) (by omega)
    have h2 := sum_picks_le m.toNat (t - m).toNat p.toNat b.toNat (by omega) (by omega)
    have h3 := sumTo_succ (picks m.toNat (t - m).toNat p.toNat) i
    have h4 : ((sumTo (picks m.toNat (t - m).toNat p.toNat) i : Nat) : Int) - (sumTo (picks m.toNat (t - m).toNat p.toNat) b.toNat : Nat) + (picks m.toNat (t - m).toNat p.toNat i : Nat)
      = ((sumTo (picks m.toNat (t - m).toNat p.toNat) (i + 1) : Nat) : Int) - (sumTo (picks m.toNat (t - m).toNat p.toNat) b.toNat : Nat) := by omega
    rw [h4, wr (by omega) (by omega), wr (by omega) (by omega)]
    exact ih (i + 1) f (by omega) (by omega) (by omega)

theorem impl_TailWays_ok (t m p b : Int) (f : Nat) (hf : 70 ≤ f) : impl_TailWays.f f t m p b = some (tailW t m p b) := by
  obtain ⟨f, rfl⟩ : ∃ g, f = g + 1 := ⟨f - 1, by omega⟩
  unfold impl_TailWays.f tailW
  rw [impl_SampleOk_ok]; simp only [Option.bind_some]
  by_cases h : sOk t m p ∧ 0 ≤ b ∧ b ≤ p
  · have hs := h.1
    unfold sOk at hs
    rw [if_pos h, if_pos (decide_eq_true h.1), if_neg (show ¬ b < 0 from fun c => absurd c (Int.not_lt.2 h.2.1)), decide_eq_false (show ¬ b > p from Int.not_lt.2 h.2.2)]
    simp only [impl_TailWays.j0]; rw [if_neg (by decide)]
    have := impl_TailWays_l0 t m p b h.1 h.2.1 (p.toNat + 1 - b.toNat) b.toNat f (by omega) (by omega) (by omega)
    rw [Int.sub_self, Int.toNat_of_nonneg h.2.1] at this
    exact this
  · rw [if_neg h]
    have e : ∀ g, impl_TailWays.j0 (g + 1) t m p b true = some (-1) := fun g => by simp only [impl_TailWays.j0, if_true]
    by_cases h1 : sOk t m p
    · rw [if_pos (decide_eq_true h1)]
      by_cases h2 : b < 0
      · rw [if_pos h2, e]
      · rw [if_neg h2, decide_eq_true (show b > p from Int.not_le.1 fun c => h ⟨h1, by omega, c⟩), e]
    · rw [if_neg (by simpa using h1), e]

theorem spec_TailWays_l0 (t m p b : Int) (hs : sOk t m p) (_ : 0 ≤ b) : ∀ (d i f : Nat), i + d = p.toNat + 1 → b.toNat ≤ i → d + 34 < f →
    spec_TailWays.l0 f t m p ((sumTo (picks m.toNat (t - m).toNat p.toNat) i : Nat) - (sumTo (picks m.toNat (t - m).toNat p.toNat) b.toNat : Nat)) (i : Int)
      = some (((sumTo (picks m.toNat (t - m).toNat p.toNat) (p.toNat + 1) : Nat) : Int) - (sumTo (picks m.toNat (t - m).toNat p.toNat) b.toNat : Nat)) := by
  have hs' := hs
  unfold sOk at hs'
  intro d
  induction d with
  | zero =>
    intro i f hi hbi hf
    obtain ⟨f, rfl⟩ : ∃ g, f = g + 1 := ⟨f - 1, by omega⟩
    simp only [spec_TailWays.l0]; rw [if_neg (by omega), show i = p.toNat + 1 by omega]
  | succ d ih =>
    intro i f hi hbi hf
    obtain ⟨f, rfl⟩ : ∃ g, f = g + 1 := ⟨f - 1, by omega⟩
    simp only [spec_TailWays.l0]
    rw [if_pos (by omega), spec_MarkedWays_ok t m p i f (by omega)]
    simp only [Option.bind_some]
    unfold markW
    rw [if_pos ⟨hs, by omega, by omega⟩, Int.toNat_natCast]
    have h1 := sum_picks_le m.toNat (t - m).toNat p.toNat (i + 1) (by omega) (by omega)
    have h2 := sum_picks_le m.toNat (t - m).toNat p.toNat b.toNat (by omega) (by omega)
    have h3 := sumTo_succ (picks m.toNat (t - m).toNat p.toNat) i
    have h4 : ((sumTo (picks m.toNat (t - m).toNat p.toNat) i : Nat) : Int) - (sumTo (picks m.toNat (t - m).toNat p.toNat) b.toNat : Nat) + (picks m.toNat (t - m).toNat p.toNat i : Nat)
      = ((sumTo (picks m.toNat (t - m).toNat p.toNat) (i + 1) : Nat) : Int) - (sumTo (picks m.toNat (t - m).toNat p.toNat) b.toNat : Nat) := by omega
    rw [h4, wr (by omega) (by omega), wr (by omega) (by omega)]
    exact ih (i + 1) f (by omega) (by omega) (by omega)

theorem spec_TailWays_ok (t m p b : Int) (f : Nat) (hf : 70 ≤ f) : spec_TailWays.f f t m p b = some (tailW t m p b) := by
  obtain ⟨f, rfl⟩ : ∃ g, f = g + 1 := ⟨f - 1, by omega⟩
  unfold spec_TailWays.f tailW
  rw [spec_SampleOk_ok]; simp only [Option.bind_some, l1In_ok]
  by_cases h : sOk t m p ∧ 0 ≤ b ∧ b ≤ p
  · have hs := h.1
    unfold sOk at hs
    rw [if_pos h, if_pos (decide_eq_true h.1), decide_eq_true h.2]
    simp only [spec_TailWays.j0, Bool.not_true]; rw [if_neg (by decide)]
    have := spec_TailWays_l0 t m p b h.1 h.2.1 (p.toNat + 1 - b.toNat) b.toNat f (by omega) (by omega) (by omega)
    rw [Int.sub_self, Int.toNat_of_nonneg h.2.1] at this
    exact this
  · rw [if_neg h]
    have e : ∀ g, spec_TailWays.j0 (g + 1) t m p b true = some (-1) := fun g => by simp only [spec_TailWays.j0, if_true]
    by_cases h1 : sOk t m p
    · rw [if_pos (decide_eq_true h1), decide_eq_false (fun c => h ⟨h1, c⟩)]
      exact e f
    · rw [if_neg (by simpa using h1), e]

theorem FnExactTailWays : laws_FnExactTailWays.Pure := by
  intro t m p b _ _ _ _
  refine ⟨100, ?_⟩
  unfold laws_FnExactTailWays.f
  simp only [impl_TailWays_ok _ _ _ _ 100 (by omega), spec_TailWays_ok _ _ _ _ 100 (by omega), Option.bind_some, if_true]

end Go.Proofs.Ythcemfpnppkepaa.Pure
