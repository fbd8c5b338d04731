/- FnExactSampleRow: for all arguments that the statement lets in, the law answers true. No condition of ours. -/
import Derived.Test.YtncjjgfiddgckaaPFnExactSampleRowx3
import Derived.Test.YtncjjgfiddgckaaBin
namespace Go.Proofs.Ytncjjgfiddgckaa.Pure
open Go.RowKit Go.Proofs.Ytncjjgfiddgckaa.PFnExactSampleRow Go.Proofs.YtncjjgfiddgckaaW.PrintWords Go.Proofs.YtncjjgfiddgckaaW.PrintLast
open Go.Proofs.Ytncjjgfiddgckaa.Plain

theorem wr {n : Int} (h0 : -9223372036854775808 ≤ n) (h1 : n < 9223372036854775808) : wrap64 n = n := by unfold wrap64; omega
theorem wrap_lo (x : Int) : -9223372036854775808 ≤ wrap64 x := by unfold wrap64; omega
theorem wrap_hi (x : Int) : wrap64 x < 9223372036854775808 := by unfold wrap64; omega

def pickW (t p : Int) : Int := if 0 ≤ t ∧ t ≤ 30 ∧ 0 ≤ p then ((bin t.toNat p.toNat : Nat) : Int) else -1

def sOk (t m p : Int) : Prop := 0 ≤ t ∧ t ≤ 30 ∧ 0 ≤ m ∧ m ≤ t ∧ 0 ≤ p ∧ p ≤ t

instance (t m p : Int) : Decidable (sOk t m p) := by unfold sOk; infer_instance

def markW (t m p b : Int) : Int := if sOk t m p ∧ 0 ≤ b ∧ b ≤ p then ((picks m.toNat (t - m).toNat p.toNat b.toNat : Nat) : Int) else -1

def tailW (t m p b : Int) : Int := if sOk t m p ∧ 0 ≤ b ∧ b ≤ p then ((sumTo (picks m.toNat (t - m).toNat p.toNat) (p.toNat + 1) : Nat) : Int) - (sumTo (picks m.toNat (t - m).toNat p.toNat) b.toNat : Nat) else -1

theorem picks_le (m n p k : Nat) (h : m + n ≤ 30) : picks m n p k ≤ 2 ^ 30 := by
  unfold picks
  have h1 := bin_le_pow m k
  have h2 := bin_le_pow n (p - k)
  have := Nat.mul_le_mul h1 h2
  rw [← Nat.pow_add] at this
  exact Nat.le_trans this (Nat.pow_le_pow_right (by omega) h)

theorem bin_le30 (n k : Nat) (h : n ≤ 30) : bin n k ≤ 2 ^ 30 := Nat.le_trans (bin_le_pow n k) (Nat.pow_le_pow_right (by omega) h)

theorem sum_picks_le (m n p i : Nat) (h : m + n ≤ 30) (hi : i ≤ p + 1) : sumTo (picks m n p) i ≤ 2 ^ 30 := by
  have h1 := sumTo_mono (picks m n p) hi
  rw [vander] at h1
  exact Nat.le_trans h1 (bin_le30 _ _ h)

theorem impl_choose_l0 (m k : Nat) (hn : m + k ≤ 30) : ∀ (d j f : Nat), j + d = k → d < f →
    impl_choose.l0 f ((m + k : Nat) : Int) (k : Int) ((bin (m + j) j : Nat) : Int) ((j : Int) + 1) = some ((bin (m + k) k : Nat) : Int) := by
  intro d
  induction d with
  | zero =>
    intro j f hj hf
    obtain ⟨f, rfl⟩ : ∃ g, f = g + 1 := ⟨f - 1, by omega⟩
    obtain rfl : j = k := by omega
    simp only [impl_choose.l0]; rw [if_neg (by omega)]
  | succ d ih =>
    intro j f hj hf
    obtain ⟨f, rfl⟩ : ∃ g, f = g + 1 := ⟨f - 1, by omega⟩
    have hb : bin (m + j) j ≤ 2 ^ 30 := Nat.le_trans (bin_le_pow _ _) (Nat.pow_le_pow_right (by omega) (by omega))
    have hb2 : bin (m + (j + 1)) (j + 1) ≤ 2 ^ 30 := Nat.le_trans (bin_le_pow _ _) (Nat.pow_le_pow_right (by omega) (by omega))
    have ha := bin_absorb (m + j) j
    have hmul : ((bin (m + j) j : Nat) : Int) * ((m : Int) + ((j : Int) + 1)) = ((j : Int) + 1) * ((bin (m + (j + 1)) (j + 1) : Nat) : Int) := by
      have : bin (m + j) j * (m + (j + 1)) = (j + 1) * bin (m + (j + 1)) (j + 1) := by rw [show m + (j + 1) = m + j + 1 by omega, ha, Nat.mul_comm]
      exact_mod_cast this
    have hle : (((j : Int) + 1) * ((bin (m + (j + 1)) (j + 1) : Nat) : Int)) ≤ 31 * 2 ^ 30 ∧ 0 ≤ (((j : Int) + 1) * ((bin (m + (j + 1)) (j + 1) : Nat) : Int)) := by
      have hle : (j + 1) * bin (m + (j + 1)) (j + 1) ≤ 31 * 2 ^ 30 := Nat.mul_le_mul (by omega) hb2
      have h0 : 0 ≤ (j + 1) * bin (m + (j + 1)) (j + 1) := Nat.zero_le _
      exact ⟨by exact_mod_cast hle, by exact_mod_cast h0⟩
    simp only [impl_choose.l0]
    rw [if_pos (by omega), if_neg (by omega), wr (n := ((m + k : Nat) : Int) - (k : Int)) (by omega) (by omega), show ((m + k : Nat) : Int) - (k : Int) = m by omega,
      wr (n := (m : Int) + ((j : Int) + 1)) (by omega) (by omega), hmul, wr (n := ((j : Int) + 1) * ((bin (m + (j + 1)) (j + 1) : Nat) : Int)) (by omega) (by omega), Int.mul_tdiv_cancel_left _ (by omega), wr (n := ((bin (m + (j + 1)) (j + 1) : Nat) : Int)) (by omega) (by omega), wr (n := (j : Int) + 1 + 1) (by omega) (by omega)]
    exact ih (j + 1) f (by omega) (by omega)

theorem impl_choose_ok (n k f : Nat) (hn : n ≤ 30) (hf : 33 ≤ f) : impl_choose.f f (n : Int) (k : Int) = some ((bin n k : Nat) : Int) := by
  obtain ⟨f, rfl⟩ : ∃ g, f = g + 1 := ⟨f - 1, by omega⟩
  unfold impl_choose.f
  rw [if_neg (by omega)]
  by_cases h : n < k
  · rw [decide_eq_true (by omega)]; simp only [impl_choose.j0, if_true]; rw [bin_lt n k h]; rfl
  · rw [decide_eq_false (by omega)]; simp only [impl_choose.j0]; rw [if_neg (by decide)]
    obtain ⟨m, rfl⟩ : ∃ m, n = m + k := ⟨n - k, by omega⟩
    have := impl_choose_l0 m k hn k 0 f (by omega) (by omega)
    rw [Nat.add_zero, bin_zero] at this
    exact this

theorem spec_l7Choose_l0 (m k : Nat) (hn : m + k ≤ 30) : ∀ (d j f : Nat), j + d = k → d < f →
    spec_l7Choose.l0 f ((m + k : Nat) : Int) (k : Int) ((bin (m + j) j : Nat) : Int) ((j : Int) + 1) = some ((bin (m + k) k : Nat) : Int) := by
  intro d
  induction d with
  | zero =>
    intro j f hj hf
    obtain ⟨f, rfl⟩ : ∃ g, f = g + 1 := ⟨f - 1, by omega⟩
    obtain rfl : j = k := by omega
    simp only [spec_l7Choose.l0]; rw [if_neg (by omega)]
  | succ d ih =>
    intro j f hj hf
    obtain ⟨f, rfl⟩ : ∃ g, f = g + 1 := ⟨f - 1, by omega⟩
    have hb : bin (m + j) j ≤ 2 ^ 30 := Nat.le_trans (bin_le_pow _ _) (Nat.pow_le_pow_right (by omega) (by omega))
    have hb2 : bin (m + (j + 1)) (j + 1) ≤ 2 ^ 30 := Nat.le_trans (bin_le_pow _ _) (Nat.pow_le_pow_right (by omega) (by omega))
    have ha := bin_absorb (m + j) j
    have hmul : ((bin (m + j) j : Nat) : Int) * ((m : Int) + ((j : Int) + 1)) = ((j : Int) + 1) * ((bin (m + (j + 1)) (j + 1) : Nat) : Int) := by
      have : bin (m + j) j * (m + (j + 1)) = (j + 1) * bin (m + (j + 1)) (j + 1) := by rw [show m + (j + 1) = m + j + 1 by omega, ha, Nat.mul_comm]
      exact_mod_cast this
    have hle : (((j : Int) + 1) * ((bin (m + (j + 1)) (j + 1) : Nat) : Int)) ≤ 31 * 2 ^ 30 ∧ 0 ≤ (((j : Int) + 1) * ((bin (m + (j + 1)) (j + 1) : Nat) : Int)) := by
      have hle : (j + 1) * bin (m + (j + 1)) (j + 1) ≤ 31 * 2 ^ 30 := Nat.mul_le_mul (by omega) hb2
      have h0 : 0 ≤ (j + 1) * bin (m + (j + 1)) (j + 1) := Nat.zero_le _
      exact ⟨by exact_mod_cast hle, by exact_mod_cast h0⟩
    simp only [spec_l7Choose.l0]
    rw [if_pos (by omega), if_neg (by omega), wr (n := ((m + k : Nat) : Int) - (k : Int)) (by omega) (by omega), show ((m + k : Nat) : Int) - (k : Int) = m by omega,
      wr (n := (m : Int) + ((j : Int) + 1)) (by omega) (by omega), hmul, wr (n := ((j : Int) + 1) * ((bin (m + (j + 1)) (j + 1) : Nat) : Int)) (by omega) (by omega), Int.mul_tdiv_cancel_left _ (by omega), wr (n := ((bin (m + (j + 1)) (j + 1) : Nat) : Int)) (by omega) (by omega), wr (n := (j : Int) + 1 + 1) (by omega) (by omega)]
    exact ih (j + 1) f (by omega) (by omega)

theorem spec_l7Choose_ok (n k f : Nat) (hn : n ≤ 30) (hf : 33 ≤ f) : spec_l7Choose.f f (n : Int) (k : Int) = some ((bin n k : Nat) : Int) := by
  obtain ⟨f, rfl⟩ : ∃ g, f = g + 1 := ⟨f - 1, by omega⟩
  unfold spec_l7Choose.f
  rw [if_neg (by omega)]
  by_cases h : n < k
  · rw [decide_eq_true (by omega)]; simp only [spec_l7Choose.j0, if_true]; rw [bin_lt n k h]; rfl
  · rw [decide_eq_false (by omega)]; simp only [spec_l7Choose.j0]; rw [if_neg (by decide)]
    obtain ⟨m, rfl⟩ : ∃ m, n = m + k := ⟨n - k, by omega⟩
    have := spec_l7Choose_l0 m k hn k 0 f (by omega) (by omega)
    rw [Nat.add_zero, bin_zero] at this
    exact this

theorem l1In_ok (a b c : Int) : spec_l1In.f a b c = some (decide (b ≤ a ∧ a ≤ c)) := by
  unfold spec_l1In.f
  by_cases h : a ≥ b
  · rw [if_pos h]; simp [h]
  · rw [if_neg h]; simp; omega

theorem impl_SampleOk_ok (t m p : Int) : impl_SampleOk.f t m p = some (decide (sOk t m p)) := by
  unfold impl_SampleOk.f sOk
  by_cases h1 : t ≥ 0 <;> by_cases h2 : t ≤ 30 <;> by_cases h3 : m ≥ 0 <;> by_cases h4 : m ≤ t <;> by_cases h5 : p ≥ 0 <;> simp [h1, h2, h3, h4, h5]

theorem spec_SampleOk_ok (t m p : Int) : spec_SampleOk.f t m p = some (decide (sOk t m p)) := by
  unfold spec_SampleOk.f
  simp only [l1In_ok, Option.bind_some]
  by_cases h1 : 0 ≤ t ∧ t ≤ 30
  · rw [if_pos (decide_eq_true h1)]
    by_cases h2 : 0 ≤ m ∧ m ≤ t
    · rw [if_pos (decide_eq_true h2)]
      congr 1; apply decide_eq_decide.2; unfold sOk; omega
    · rw [decide_eq_false h2, if_neg (by decide), decide_eq_false (show ¬ sOk t m p by unfold sOk; omega)]
  · rw [decide_eq_false h1, if_neg (by decide), decide_eq_false (show ¬ sOk t m p by unfold sOk; omega)]

theorem impl_MarkedWays_ok (t m p b : Int) (f : Nat) (hf : 34 ≤ f) : impl_MarkedWays.f f t m p b = some (markW t m p b) := by
  obtain ⟨f, rfl⟩ : ∃ g, f = g + 1 := ⟨f - 1, by omega⟩
  unfold impl_MarkedWays.f markW
  rw [impl_SampleOk_ok]; simp only [Option.bind_some]
  by_cases h : sOk t m p ∧ 0 ≤ b ∧ b ≤ p
  · have hs := h.1
    unfold sOk at hs
    rw [if_pos h, if_pos (decide_eq_true h.1), if_neg (show ¬ b < 0 from fun c => absurd c (Int.not_lt.2 h.2.1)), decide_eq_false (show ¬ b > p from Int.not_lt.2 h.2.2)]
    simp only [impl_MarkedWays.j0]; rw [if_neg (by decide)]
    obtain ⟨m, rfl⟩ := Int.eq_ofNat_of_zero_le (show 0 ≤ m by omega)
    obtain ⟨n, hn⟩ := Int.eq_ofNat_of_zero_le (show 0 ≤ t - m by omega)
    obtain ⟨b, rfl⟩ := Int.eq_ofNat_of_zero_le (show 0 ≤ b by omega)
    obtain ⟨q, hq⟩ := Int.eq_ofNat_of_zero_le (show 0 ≤ p - b by omega)
    obtain rfl : p = ((b + q : Nat) : Int) := by omega
    rw [wr (by omega) (by omega), wr (n := ((b + q : Nat) : Int) - b) (by omega) (by omega), hn, hq, impl_choose_ok m b f (by omega) (by omega), impl_choose_ok n q f (by omega) (by omega)]
    simp only [Option.bind_some]
    have hw := picks_le m n (b + q) b (by omega)
    unfold picks at hw ⊢
    simp only [Int.toNat_natCast]
    rw [show b + q - b = q by omega] at hw ⊢
    rw [← Int.natCast_mul, wr (by omega) (by omega)]
  · rw [if_neg h]
    have e : ∀ g, impl_MarkedWays.j0 (g + 1) t m p b true = some (-1) := fun g => by simp only [impl_MarkedWays.j0, if_true]
    by_cases h1 : sOk t m p
    · rw [if_pos (decide_eq_true h1)]
      by_cases h2 : b < 0
      · rw [if_pos h2, e]
      · rw [if_neg h2, decide_eq_true (show b > p from Int.not_le.1 fun c => h ⟨h1, by omega, c⟩), e]
    · rw [if_neg (by simpa using h1), e]

theorem spec_MarkedWays_ok (t m p b : Int) (f : Nat) (hf : 34 ≤ f) : spec_MarkedWays.f f t m p b = some (markW t m p b) := by
  obtain ⟨f, rfl⟩ : ∃ g, f = g + 1 := ⟨f - 1, by omega⟩
  unfold spec_MarkedWays.f markW
  rw [spec_SampleOk_ok]; simp only [Option.bind_some, l1In_ok]
  by_cases h : sOk t m p ∧ 0 ≤ b ∧ b ≤ p
  · have hs := h.1
    unfold sOk at hs
    rw [if_pos h, if_pos (decide_eq_true h.1), decide_eq_true h.2]
    simp only [spec_MarkedWays.j0, Bool.not_true]; rw [if_neg (by decide)]
    obtain ⟨m, rfl⟩ := Int.eq_ofNat_of_zero_le (show 0 ≤ m by omega)
    obtain ⟨n, hn⟩ := Int.eq_ofNat_of_zero_le (show 0 ≤ t - m by omega)
    obtain ⟨b, rfl⟩ := Int.eq_ofNat_of_zero_le (show 0 ≤ b by omega)
    obtain ⟨q, hq⟩ := Int.eq_ofNat_of_zero_le (show 0 ≤ p - b by omega)
    obtain rfl : p = ((b + q : Nat) : Int) := by omega
    rw [wr (by omega) (by omega), wr (n := ((b + q : Nat) : Int) - b) (by omega) (by omega), hn, hq, spec_l7Choose_ok m b f (by omega) (by omega), spec_l7Choose_ok n q f (by omega) (by omega)]
    simp only [Option.bind_some]
    have hw := picks_le m n (b + q) b (by omega)
    unfold picks at hw ⊢
    simp only [Int.toNat_natCast]
    rw [show b + q - b = q by omega] at hw ⊢
    rw [← Int.natCast_mul, wr (by omega) (by omega)]
  · rw [if_neg h]
    have e : ∀ g, spec_MarkedWays.j0 (g + 1) t m p b true = some (-1) := fun g => by simp only [spec_MarkedWays.j0, if_true]
    by_cases h1 : sOk t m p
    · rw [if_pos (decide_eq_true h1), decide_eq_false (fun c => h ⟨h1, c⟩)]
      exact e f
    · rw [if_neg (by simpa using h1), e]

theorem rd_nat (l : List Int) (i : Nat) (h : i < l.length) : rd l (i : Int) = l[i] := by
  unfold rd
  rw [Int.toNat_natCast, List.getD_eq_getElem?_getD, List.getElem?_eq_getElem h]; rfl

theorem rd_getD (l : List Int) (i : Nat) : rd l (i : Int) = l.getD i 0 := by
  unfold rd; rw [Int.toNat_natCast]

theorem eqIntS_l0 (a b : List Int) (hab : a.length = b.length) (hl : a.length ≤ 17592186044416) : ∀ (d i f : Nat), i + d = a.length → d < f →
    laws_eqIntS.l0 f a b (i : Int) = some (decide (a.drop i = b.drop i)) := by
  intro d
  induction d with
  | zero =>
    intro i f hi hf
    obtain ⟨f, rfl⟩ : ∃ g, f = g + 1 := ⟨f - 1, by omega⟩
    simp only [laws_eqIntS.l0]; rw [if_neg (by omega), List.drop_of_length_le (by omega), List.drop_of_length_le (by omega)]; rfl
  | succ d ih =>
    intro i f hi hf
    obtain ⟨f, rfl⟩ : ∃ g, f = g + 1 := ⟨f - 1, by omega⟩
    simp only [laws_eqIntS.l0]
    rw [if_pos (by omega), if_pos (by omega), if_pos (by omega), rd_nat a i (by omega), rd_nat b i (by omega), wr (by omega) (by omega)]
    rw [List.drop_eq_getElem_cons (show i < a.length by omega), List.drop_eq_getElem_cons (show i < b.length by omega)]
    by_cases h : a[i] = b[i]
    · rw [if_pos h]
      have := ih (i + 1) f (by omega) (by omega)
      rw [show ((i : Int) + 1) = ((i + 1 : Nat) : Int) by omega, this, h]
      congr 1; apply decide_eq_decide.2; exact ⟨fun c => by rw [c], fun c => (List.cons.inj c).2⟩
    · rw [if_neg h, decide_eq_false (fun c => h (List.cons.inj c).1)]

theorem eqIntS_ok (a b : List Int) (f : Nat) (hl : a.length ≤ 17592186044416) (hf : a.length + 2 ≤ f) : laws_eqIntS.f f a b = some (decide (a = b)) := by
  unfold laws_eqIntS.f
  by_cases h : (a.length : Int) = (b.length : Int)
  · rw [if_pos h]
    have := eqIntS_l0 a b (by omega) hl a.length 0 f (by omega) (by omega)
    rw [List.drop_zero, List.drop_zero] at this
    exact this
  · rw [if_neg h, decide_eq_false (fun c => h (by rw [c]))]

def markL (m : Int) : Nat → List Int
  | 0 => []
  | n + 1 => m :: markL (m + 1) n

theorem markL_length (n : Nat) : ∀ m, (markL m n).length = n := by
  induction n with
  | zero => intro m; rfl
  | succ n ih => intro m; simp [markL, ih]

theorem markL_get (n : Nat) : ∀ (m : Int) (i : Nat) (h : i < (markL m n).length), (markL m n)[i] = m + i := by
  induction n with
  | zero => intro m i h; simp [markL] at h
  | succ n ih =>
    intro m i h
    cases i with
    | zero => simp [markL]
    | succ i => simp only [markL, List.getElem_cons_succ]; rw [ih]; omega

theorem markIntS_l0 : ∀ (d i f : Nat) (y : List Int) (m : Int), i + d = y.length → y.length ≤ 17592186044416 → d < f → 0 ≤ m → m + d ≤ 70368744177664 →
    laws_markIntS.l0 f y m (i : Int) = some (m + d, y.take i ++ markL m d) := by
  intro d
  induction d with
  | zero =>
    intro i f y m hi hl hf h0 h1
    obtain ⟨f, rfl⟩ : ∃ g, f = g + 1 := ⟨f - 1, by omega⟩
    simp only [laws_markIntS.l0]; rw [if_neg (by omega), List.take_of_length_le (by omega)]; simp [markL]
  | succ d ih =>
    intro i f y m hi hl hf h0 h1
    obtain ⟨f, rfl⟩ : ∃ g, f = g + 1 := ⟨f - 1, by omega⟩
    simp only [laws_markIntS.l0]
    rw [if_pos (by omega), if_pos (by omega), Int.toNat_natCast, wr (n := m + 1) (by omega) (by omega), wr (n := (i : Int) + 1) (by omega) (by omega)]
    have := ih (i + 1) f (y.set i m) (m + 1) (by simp; omega) (by simpa using hl) (by omega) (by omega) (by omega)
    rw [show ((i : Int) + 1) = ((i + 1 : Nat) : Int) by omega, this]
    rw [List.take_succ_eq_append_getElem (by simp; omega), List.take_set_of_le (by omega)]
    simp [markL]; omega

theorem markIntS_ok (y : List Int) (m : Int) (f : Nat) (hl : y.length ≤ 17592186044416) (hf : y.length + 2 ≤ f) (h0 : 0 ≤ m) (h1 : m ≤ 17592186044416) :
    laws_markIntS.f f y m = some (m + y.length, markL m y.length) := by
  unfold laws_markIntS.f
  have := markIntS_l0 y.length 0 f y m (by omega) hl (by omega) h0 (by omega)
  rw [List.take_zero, List.nil_append] at this
  exact this

theorem heldIntS_l0 (n : Nat) (m : Int) (h0 : 0 ≤ m) (h1 : m + n ≤ 70368744177664) : ∀ (d i f : Nat), i + d = n → d < f →
    laws_heldIntS.l0 f (markL m n) (m + i) (i : Int) = some (m + n) := by
  intro d
  induction d with
  | zero =>
    intro i f hi hf
    obtain ⟨f, rfl⟩ : ∃ g, f = g + 1 := ⟨f - 1, by omega⟩
    simp only [laws_heldIntS.l0]; rw [if_neg (by rw [markL_length]; omega), show i = n by omega]
  | succ d ih =>
    intro i f hi hf
    obtain ⟨f, rfl⟩ : ∃ g, f = g + 1 := ⟨f - 1, by omega⟩
    simp only [laws_heldIntS.l0]
    rw [if_pos (by rw [markL_length]; omega), if_pos (by omega), rd_nat _ i (by rw [markL_length]; omega), markL_get, if_pos rfl, wr (n := m + i + 1) (by omega) (by omega), wr (n := (i : Int) + 1) (by omega) (by omega)]
    have := ih (i + 1) f (by omega) (by omega)
    rw [show ((i : Int) + 1) = ((i + 1 : Nat) : Int) by omega, show m + (i : Int) + 1 = m + ((i + 1 : Nat) : Int) by omega]
    exact this

theorem heldIntS_ok (n : Nat) (m : Int) (f : Nat) (hf : n + 2 ≤ f) (h0 : 0 ≤ m) (h1 : m + n ≤ 70368744177664) : laws_heldIntS.f f (markL m n) m = some (m + n) := by
  unfold laws_heldIntS.f
  have := heldIntS_l0 n m h0 h1 n 0 f (by omega) (by omega)
  rw [show m + ((0 : Nat) : Int) = m by omega] at this
  exact this

def inB (x : Int) : Bool := decide (0 ≤ x ∧ x ≤ 100000)

/-- a row of weights -/
def mixB (l : List Int) : Bool := l.all inB && decide (1 ≤ l.length ∧ l.length ≤ 9)

theorem mixB_len {l : List Int} (h : mixB l = true) : 1 ≤ l.length ∧ l.length ≤ 9 := by
  unfold mixB at h; simp only [Bool.and_eq_true, decide_eq_true_eq] at h; exact h.2

theorem mixB_mem {l : List Int} (h : mixB l = true) : ∀ x ∈ l, 0 ≤ x ∧ x ≤ 100000 := by
  unfold mixB at h; simp only [Bool.and_eq_true, List.all_eq_true] at h
  intro x hx; have := h.1 x hx; unfold inB at this; simpa using this

theorem mixB_get {l : List Int} (h : mixB l = true) (i : Nat) : 0 ≤ l.getD i 0 ∧ l.getD i 0 ≤ 100000 := by
  rw [List.getD_eq_getElem?_getD]
  cases e : l[i]? with
  | none => simp
  | some x => exact mixB_mem h x (List.mem_of_getElem? e)

theorem impl_MixOk_l0 (l : List Int) (hl : l.length ≤ 17592186044416) : ∀ (d i f : Nat), i + d = l.length → d < f →
    impl_MixOk.l0 f l l (l.length : Int) (i : Int) = some ((l.drop i).all inB && decide (1 ≤ l.length ∧ l.length ≤ 9)) := by
  intro d
  induction d with
  | zero =>
    intro i f hi hf
    obtain ⟨f, rfl⟩ : ∃ g, f = g + 1 := ⟨f - 1, by omega⟩
    simp only [impl_MixOk.l0]; rw [if_neg (by omega), List.drop_of_length_le (by omega)]
    rw [List.all_nil, Bool.true_and]
    by_cases h : (l.length : Int) ≥ 1
    · rw [if_pos h]; congr 1; apply decide_eq_decide.2; omega
    · rw [if_neg h, decide_eq_false (by omega)]
  | succ d ih =>
    intro i f hi hf
    obtain ⟨f, rfl⟩ : ∃ g, f = g + 1 := ⟨f - 1, by omega⟩
    simp only [impl_MixOk.l0]
    rw [if_pos (by omega), if_pos (by omega), if_pos (by omega), rd_nat l i (by omega), wr (by omega) (by omega), List.drop_eq_getElem_cons (show i < l.length by omega), List.all_cons]
    by_cases h1 : l[i] < 0
    · rw [if_pos h1, show inB l[i] = false from decide_eq_false (by omega)]; rfl
    by_cases h2 : l[i] > 100000
    · rw [if_neg h1, if_pos h2, show inB l[i] = false from decide_eq_false (by omega)]; rfl
    · rw [if_neg h1, if_neg h2]
      have := ih (i + 1) f (by omega) (by omega)
      rw [show ((i : Int) + 1) = ((i + 1 : Nat) : Int) by omega, this, show inB l[i] = true from decide_eq_true (by omega), Bool.true_and]

theorem impl_MixOk_ok (l : List Int) (f : Nat) (hl : l.length ≤ 17592186044416) (hf : l.length + 2 ≤ f) : impl_MixOk.f f l = some (mixB l) := by
  unfold impl_MixOk.f mixB
  have := impl_MixOk_l0 l hl l.length 0 f (by omega) (by omega)
  rw [List.drop_zero] at this
  exact this

theorem spec_MixOk_l0 (l : List Int) (hl : l.length ≤ 17592186044416) : ∀ (d i f : Nat), i + d = l.length → d < f →
    spec_MixOk.l0 f l (i : Int) = some ((l.drop i).all inB && decide (1 ≤ l.length ∧ l.length ≤ 9)) := by
  intro d
  induction d with
  | zero =>
    intro i f hi hf
    obtain ⟨f, rfl⟩ : ∃ g, f = g + 1 := ⟨f - 1, by omega⟩
    simp only [spec_MixOk.l0]; rw [if_neg (by omega), List.drop_of_length_le (by omega), l1In_ok]
    simp only [Option.bind_some]
    rw [List.all_nil, Bool.true_and]
    congr 1; apply decide_eq_decide.2; omega
  | succ d ih =>
    intro i f hi hf
    obtain ⟨f, rfl⟩ : ∃ g, f = g + 1 := ⟨f - 1, by omega⟩
    simp only [spec_MixOk.l0]
    rw [if_pos (by omega), if_pos (by omega), rd_nat l i (by omega), l1In_ok, wr (by omega) (by omega), List.drop_eq_getElem_cons (show i < l.length by omega), List.all_cons]
    simp only [Option.bind_some]
    by_cases h : 0 ≤ l[i] ∧ l[i] ≤ 100000
    · rw [if_pos (decide_eq_true h)]
      have := ih (i + 1) f (by omega) (by omega)
      rw [show ((i : Int) + 1) = ((i + 1 : Nat) : Int) by omega, this, show inB l[i] = true from decide_eq_true h, Bool.true_and]
    · rw [if_neg (by simpa using h), show inB l[i] = false from decide_eq_false h]; rfl

theorem spec_MixOk_ok (l : List Int) (f : Nat) (hl : l.length ≤ 17592186044416) (hf : l.length + 2 ≤ f) : spec_MixOk.f f l = some (mixB l) := by
  unfold spec_MixOk.f mixB
  have := spec_MixOk_l0 l hl l.length 0 f (by omega) (by omega)
  rw [List.drop_zero] at this
  exact this

theorem mul_bd {a c A C : Int} (h0 : 0 ≤ a) (h1 : a ≤ A) (h2 : 0 ≤ c) (h3 : c ≤ C) : 0 ≤ a * c ∧ a * c ≤ A * C :=
  ⟨Int.mul_nonneg h0 h2, Int.mul_le_mul h1 h3 h2 (by omega)⟩

theorem elem_ok {a b c e : Int} (ha : 0 ≤ a ∧ a ≤ 100000) (hb : 0 ≤ b ∧ b ≤ 100000) (hc : 0 ≤ c ∧ c ≤ 9) (he : 0 ≤ e ∧ e ≤ 9) :
    wrap64 ((wrap64 (a * c)) + (wrap64 (b * e))) = a * c + b * e := by
  have h1 := mul_bd ha.1 ha.2 hc.1 hc.2
  have h2 := mul_bd hb.1 hb.2 he.1 he.2
  rw [wr (n := a * c) (by omega) (by omega), wr (n := b * e) (by omega) (by omega), wr (by omega) (by omega)]

theorem range_snoc (g : Nat → Int) (i : Nat) : (List.range i).map g ++ [g i] = (List.range (i + 1)).map g := by
  rw [List.range_succ, List.map_append]; rfl

/-- the row, if it is one -/
def fin (l : List Int) : List Int × Bool := if mixB l = true then (l, true) else ([], false)

theorem impl_mixed_ok (l : List Int) (f : Nat) (hl : l.length ≤ 17592186044416) (hf : l.length + 2 ≤ f) : impl_mixed.f f l = some (fin l) := by
  unfold impl_mixed.f fin
  rw [impl_MixOk_ok l f hl hf]; simp only [Option.bind_some]
  split <;> rfl

def sampE (t m p : Int) (k : Nat) : Int := markW t m p (k : Int)
def sampL (t m p : Int) : List Int := (List.range (p.toNat + 1)).map (sampE t m p)
def sampleR (t m p : Int) : List Int × Bool := if sOk t m p ∧ p ≤ 8 then fin (sampL t m p) else ([], false)

theorem sampL_length (t m p : Int) : (sampL t m p).length = p.toNat + 1 := by simp [sampL]

theorem impl_SampleRow_l0 (t m p : Int) (h : sOk t m p ∧ p ≤ 8) : ∀ (d i f : Nat), i + d = p.toNat + 1 → d + 60 ≤ f →
    impl_SampleRow.l0 f t m p ((List.range i).map (sampE t m p)) (i : Int) = some (fin (sampL t m p)) := by
  have hs := h.1
  unfold sOk at hs
  intro d
  induction d with
  | zero =>
    intro i f hi hf
    obtain ⟨f, rfl⟩ : ∃ g, f = g + 1 := ⟨f - 1, by omega⟩
    obtain rfl : i = p.toNat + 1 := by omega
    simp only [impl_SampleRow.l0]
    rw [if_neg (by omega), impl_mixed_ok _ f (by simp; omega) (by simp; omega)]
    rfl
  | succ d ih =>
    intro i f hi hf
    obtain ⟨f, rfl⟩ : ∃ g, f = g + 1 := ⟨f - 1, by omega⟩
    simp only [impl_SampleRow.l0]
    rw [if_pos (by omega), impl_MarkedWays_ok _ _ _ _ f (by omega)]
    simp only [Option.bind_some]
    rw [if_pos (by simp; omega), wr (n := (i : Int) + 1) (by omega) (by omega)]
    have e : markW t m p (i : Int) = sampE t m p i := rfl
    rw [e, range_snoc]
    exact ih (i + 1) f (by omega) (by omega)

theorem impl_SampleRow_ok (t m p : Int) (f : Nat) (hf : 80 ≤ f) : impl_SampleRow.f f t m p = some (sampleR t m p) := by
  obtain ⟨f, rfl⟩ : ∃ g, f = g + 1 := ⟨f - 1, by omega⟩
  unfold impl_SampleRow.f sampleR
  rw [impl_SampleOk_ok]; simp only [Option.bind_some]
  by_cases h : sOk t m p
  · rw [if_pos (decide_eq_true h)]
    have hs := h
    unfold sOk at hs
    by_cases h8 : p > 8
    · rw [decide_eq_true h8, if_neg (fun c => by have := c.2; omega)]
      simp only [impl_SampleRow.j0, if_true]
    · rw [decide_eq_false h8, if_pos ⟨h, by omega⟩]
      simp only [impl_SampleRow.j0]
      rw [if_neg (by decide)]
      exact impl_SampleRow_l0 t m p ⟨h, by omega⟩ (p.toNat + 1) 0 f (by omega) (by omega)
  · rw [decide_eq_false h, if_neg (by decide), if_neg (fun c => h c.1)]
    simp only [impl_SampleRow.j0, if_true]

theorem spec_SampleRow_l0 (t m p : Int) (h : sOk t m p ∧ p ≤ 8) : ∀ (d i f : Nat), i + d = p.toNat + 1 → d + 60 ≤ f →
    spec_SampleRow.l0 f t m p ((List.range i).map (sampE t m p)) (i : Int) = some (fin (sampL t m p)) := by
  have hs := h.1
  unfold sOk at hs
  intro d
  induction d with
  | zero =>
    intro i f hi hf
    obtain ⟨f, rfl⟩ : ∃ g, f = g + 1 := ⟨f - 1, by omega⟩
    obtain rfl : i = p.toNat + 1 := by omega
    simp only [spec_SampleRow.l0]
    rw [if_neg (by omega), spec_MixOk_ok _ f (by simp; omega) (by simp; omega)]
    simp only [Option.bind_some]
    unfold fin
    change (if mixB (sampL t m p) = true then _ else _) = _
    split <;> rfl
  | succ d ih =>
    intro i f hi hf
    obtain ⟨f, rfl⟩ : ∃ g, f = g + 1 := ⟨f - 1, by omega⟩
    simp only [spec_SampleRow.l0]
    rw [if_pos (by omega), spec_SampleOk_ok, decide_eq_true h.1]
    simp only [Option.bind_some, if_true]
    rw [if_pos h.2, spec_MarkedWays_ok _ _ _ _ f (by omega)]
    simp only [Option.bind_some]
    rw [if_pos (by simp; omega), wr (n := (i : Int) + 1) (by omega) (by omega)]
    have e : markW t m p (i : Int) = sampE t m p i := rfl
    rw [e, range_snoc]
    exact ih (i + 1) f (by omega) (by omega)

theorem spec_SampleRow_ok (t m p : Int) (f : Nat) (hf : 80 ≤ f) : spec_SampleRow.f f t m p = some (sampleR t m p) := by
  unfold spec_SampleRow.f sampleR
  have e0 : mixB [] = false := by decide
  by_cases h : sOk t m p ∧ p ≤ 8
  · have hs := h.1
    unfold sOk at hs
    rw [if_pos h]
    exact spec_SampleRow_l0 t m p h (p.toNat + 1) 0 f (by omega) (by omega)
  · rw [if_neg h]
    obtain ⟨f, rfl⟩ : ∃ g, f = g + 1 := ⟨f - 1, by omega⟩
    simp only [spec_SampleRow.l0]
    rw [spec_MixOk_ok [] f (by simp) (by simp; omega), e0, spec_SampleOk_ok]
    simp only [Option.bind_some, Bool.false_eq_true, if_false]
    by_cases h1 : 0 ≤ p
    · rw [if_pos h1]
      by_cases h2 : sOk t m p
      · rw [if_pos (decide_eq_true h2), if_neg (fun c => h ⟨h2, c⟩)]
      · rw [decide_eq_false h2, if_neg (by decide)]
    · rw [if_neg h1]

theorem sampleR_length (t m p : Int) : (sampleR t m p).1.length ≤ 9 := by
  unfold sampleR fin
  split
  · split
    · rename_i h _; show (sampL t m p).length ≤ _; rw [sampL_length]; omega
    · simp
  · simp

theorem FnExactSampleRow : laws_FnExactSampleRow.Pure := by
  intro t m p _ _ _
  refine ⟨102, ?_⟩
  have hs := sampleR_length t m p
  have s1 : ∀ f, 80 ≤ f → impl_SampleRow.f f t m p = some (sampleR t m p) := fun f hf => impl_SampleRow_ok t m p f hf
  have s2 : ∀ f, 80 ≤ f → spec_SampleRow.f f t m p = some (sampleR t m p) := fun f hf => spec_SampleRow_ok t m p f hf
  have e1 : ∀ f, 20 ≤ f → laws_eqIntS.f f (sampleR t m p).1 (sampleR t m p).1 = some true := fun f hf => by rw [eqIntS_ok _ _ f (by omega) (by omega)]; simp
  have m2 : ∀ f, 20 ≤ f → laws_markIntS.f f (sampleR t m p).1 1 = some (1 + ((sampleR t m p).1.length : Int), markL 1 (sampleR t m p).1.length) := fun f hf => markIntS_ok _ _ f (by omega) (by omega) (by omega) (by omega)
  have g1 : ∀ f, 20 ≤ f → laws_heldIntS.f f (markL 1 (sampleR t m p).1.length) 1 = some (1 + ((sampleR t m p).1.length : Int)) := fun f hf => heldIntS_ok _ _ f (by omega) (by omega) (by omega)
  unfold laws_FnExactSampleRow.f
  rw [s2 _ (by omega)]; simp only [Option.bind_some]
  rw [s1 _ (by omega)]; simp only [Option.bind_some]
  rw [e1 _ (by omega)]; simp only [Option.bind_some, if_true, bne_self_eq_false]
  simp only [laws_FnExactSampleRow.j0, Bool.false_eq_true, if_false]
  rw [m2 _ (by omega)]; simp only [Option.bind_some]
  rw [g1 _ (by omega)]; simp only [Option.bind_some]
  rw [if_neg (by omega), if_pos trivial, s1 _ (by omega)]; simp only [Option.bind_some]
  rw [e1 _ (by omega)]; simp only [Option.bind_some, if_true, bne_self_eq_false]
  simp only [laws_FnExactSampleRow.j1, Bool.false_eq_true, if_false]
  rw [g1 _ (by omega)]; simp only [Option.bind_some]
  rw [if_neg (by omega), if_true]

end Go.Proofs.Ytncjjgfiddgckaa.Pure
