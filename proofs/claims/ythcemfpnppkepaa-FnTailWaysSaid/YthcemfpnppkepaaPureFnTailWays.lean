/- FnTailWays: for all arguments that the statement lets in, the law answers true. No condition of ours. -/
import Derived.Test.YthcemfpnppkepaaOwnFnTailWays
import Derived.Test.YthcemfpnppkepaaBin
namespace Go.Proofs.Ythcemfpnppkepaa.Pure
open Go.RowKit Go.Proofs.Ythcemfpnppkepaa.PFnTailWays Go.Proofs.YthcemfpnppkepaaW.PrintWords Go.Proofs.YthcemfpnppkepaaW.PrintLast
open Go.Proofs.Ythcemfpnppkepaa.Plain

theorem wr {n : Int} (h0 : -9223372036854775808 ≤ n) (h1 : n < 9223372036854775808) : wrap64 n = n := by unfold wrap64; omega
theorem wrap_lo (x : Int) : -9223372036854775808 ≤ wrap64 x := by unfold wrap64; omega
theorem wrap_hi (x : Int) : wrap64 x < 9223372036854775808 := by unfold wrap64; omega


theorem rd_byte {b : List Int} (hb : ∀ x ∈ b, 0 ≤ x ∧ x < 256) (i : Int) : 0 ≤ rd b i ∧ rd b i < 256 := by
  unfold rd
  rw [List.getD_eq_getElem?_getD]
  cases h : b[i.toNat]? with
  | none => simp
  | some x => exact hb x (List.mem_of_getElem? h)

theorem xor_nonneg {a c : Int} (ha : 0 ≤ a) (ha' : a < 4611686018427387904) (hc : 0 ≤ c) (hc' : c < 4611686018427387904) : 0 ≤ Go.bits .xor .i64 a c := by
  obtain ⟨a, rfl⟩ := Int.eq_ofNat_of_zero_le ha
  obtain ⟨c, rfl⟩ := Int.eq_ofNat_of_zero_le hc
  have ha2 : a < 2 ^ 62 := by omega
  have hc2 : c < 2 ^ 62 := by omega
  have hx := Nat.xor_lt_two_pow ha2 hc2
  have h1 : a % 2 ^ 64 = a := Nat.mod_eq_of_lt (by omega)
  have h2 : c % 2 ^ 64 = c := Nat.mod_eq_of_lt (by omega)
  have e : Go.bits .xor .i64 (a : Int) (c : Int) = wrap64 ((a ^^^ c : Nat) : Int) := by
    simp only [Go.bits, BitVec.ofInt_natCast, BitVec.toNat_xor, BitVec.toNat_ofNat]
    rw [show Go.IntKind.i64.bits = 64 from rfl, h1, h2, Go.IntKind.wrap_i64]
    unfold wrap64
    with_reducible rfl
  rw [e, wr (by omega) (by omega)]
  omega

theorem tmod_lt {x n : Int} (hx : 0 ≤ x) (hn : 1 ≤ n) : 0 ≤ Int.tmod x n ∧ Int.tmod x n < n :=
  ⟨Int.tmod_nonneg n hx, Int.tmod_lt_of_pos x (by omega)⟩

theorem tdiv_le (x n : Int) (hx : 0 ≤ x) : Int.tdiv x n ≤ x := by
  by_cases hn : n = 0
  · subst hn; simp; omega
  by_cases h : 0 ≤ n
  · rw [Int.tdiv_eq_ediv_of_nonneg hx]; exact Int.ediv_le_self n hx
  · have : Int.tdiv x n ≤ 0 := Int.tdiv_nonpos_of_nonneg_of_nonpos hx (by omega)
    omega

theorem pick_ok {b : List Int} (hb : ∀ x ∈ b, 0 ≤ x ∧ x < 256) (hl : b.length ≤ 2000) {p : Int} (n : Int) (hp0 : 0 ≤ p) (hp1 : p < 1000000000) :
    ∃ v, (∀ k, 1 ≤ k → spec_l20Rd_pick.f k b p n = some (v, p + 1)) ∧ 0 ≤ v ∧ (v = 0 ∨ v < n) := by
  have e0 : wrap64 (p + 1) = p + 1 := wr (by omega) (by omega)
  have e1 : wrap64 (p + 1 - 1) = p := by rw [wr (by omega) (by omega)]; omega
  by_cases hn : n < 1
  · refine ⟨0, fun k hk => ?_, Int.le_refl _, .inl rfl⟩
    obtain ⟨k, rfl⟩ : ∃ m, k = m + 1 := ⟨k - 1, by omega⟩
    unfold spec_l20Rd_pick.f; rw [if_pos hn, e0]; simp only [spec_l20Rd_pick.j0, if_true]
  by_cases hz : (b.length : Int) = 0
  · refine ⟨0, fun k hk => ?_, Int.le_refl _, .inl rfl⟩
    obtain ⟨k, rfl⟩ : ∃ m, k = m + 1 := ⟨k - 1, by omega⟩
    unfold spec_l20Rd_pick.f; rw [if_neg hn, e0, hz]; simp only [spec_l20Rd_pick.j0, beq_self_eq_true, if_true]
  have hz' : ((b.length : Int) == 0) = false := by simpa using hz
  by_cases hp : p < (b.length : Int)
  · have hr := rd_byte hb p
    have ew : wrap64 (rd b p) = rd b p := wr (by omega) (by omega)
    have hm := tmod_lt (n := n) hr.1 (by omega)
    refine ⟨Int.tmod (rd b p) n, fun k hk => ?_, hm.1, .inr hm.2⟩
    obtain ⟨k, rfl⟩ : ∃ m, k = m + 1 := ⟨k - 1, by omega⟩
    unfold spec_l20Rd_pick.f; rw [if_neg hn, e0, hz']; simp only [spec_l20Rd_pick.j0]; rw [e1, if_neg (by decide), if_pos hp, if_pos hp0, if_neg (by omega), ew]
  · have hL : (1 : Int) ≤ b.length := by omega
    have m1 := tmod_lt (n := (b.length : Int)) hp0 hL
    have e7 : wrap64 (p * 7) = p * 7 := wr (by omega) (by omega)
    have e73 : wrap64 (p * 7 + 3) = p * 7 + 3 := wr (by omega) (by omega)
    have m2 := tmod_lt (x := p * 7 + 3) (n := (b.length : Int)) (by omega) hL
    have r1 := rd_byte hb (Int.tmod p (b.length : Int))
    have r2 := rd_byte hb (Int.tmod (p * 7 + 3) (b.length : Int))
    have d0 : 0 ≤ Int.tdiv p (b.length : Int) := Int.tdiv_nonneg hp0 (by omega)
    have d1 : Int.tdiv p (b.length : Int) ≤ p := tdiv_le p _ hp0
    have ex : ∃ v, (∀ k, spec_l20Rd_pick.j0 (k + 1) n false b (p + 1) = some (v, p + 1)) ∧ 0 ≤ v ∧ (v = 0 ∨ v < n) := by
      simp only [spec_l20Rd_pick.j0]
      rw [e1, if_neg (by decide), if_neg hp, if_neg hz, if_pos m1.1, if_pos m1.2, e7, e73, if_pos m2.1, if_pos m2.2, if_neg (show ¬ n = 0 by omega)]
      generalize rd b (Int.tmod p (b.length : Int)) = x1 at r1
      generalize rd b (Int.tmod (p * 7 + 3) (b.length : Int)) = x2 at r2
      generalize Int.tdiv p (b.length : Int) = q at d0 d1
      rw [wr (n := x1) (by omega) (by omega), wr (n := x2) (by omega) (by omega), wr (n := x1 * 131) (by omega) (by omega), wr (n := x2 * 1117) (by omega) (by omega),
        wr (n := x1 * 131 + x2 * 1117) (by omega) (by omega), wr (n := p * 29) (by omega) (by omega), wr (n := x1 * 131 + x2 * 1117 + p * 29) (by omega) (by omega),
        wr (n := q) (by omega) (by omega), wr (n := q * 53) (by omega) (by omega), wr (n := x1 * 131 + x2 * 1117 + p * 29 + q * 53) (by omega) (by omega)]
      have hX : 0 ≤ x1 * 131 + x2 * 1117 + p * 29 + q * 53 := by omega
      have hX' : x1 * 131 + x2 * 1117 + p * 29 + q * 53 < 4611686018427387904 := by omega
      generalize x1 * 131 + x2 * 1117 + p * 29 + q * 53 = X at hX hX'
      have q0 : 0 ≤ Int.tdiv X 64 := Int.tdiv_nonneg hX (by omega)
      have q1 : Int.tdiv X 64 ≤ X := tdiv_le X 64 hX
      rw [wr (n := Int.tdiv X 64) (by omega) (by omega)]
      have hm := tmod_lt (n := n) (xor_nonneg hX hX' q0 (by omega)) (by omega)
      exact ⟨_, fun _ => rfl, hm.1, .inr hm.2⟩
    obtain ⟨v, hv, h0, h1⟩ := ex
    refine ⟨v, fun k hk => ?_, h0, h1⟩
    obtain ⟨k, rfl⟩ : ∃ m, k = m + 1 := ⟨k - 1, by omega⟩
    unfold spec_l20Rd_pick.f; rw [if_neg hn, e0, hz', hv]

theorem open_ok {l : List Int} (hl : ∀ x ∈ l, (Lit.int .u8 x).wf = true) :
    ∃ b, spec_l20Open.f l = some (b, 0) ∧ (∀ x ∈ b, 0 ≤ x ∧ x < 256) ∧ b.length ≤ 2000 := by
  have hl' : ∀ x ∈ l, 0 ≤ x ∧ x < 256 := fun x hx => by
    have := hl x hx
    simp [Lit.wf, Go.IntKind.min, Go.IntKind.max, Go.IntKind.bits, Go.IntKind.signed] at this
    omega
  unfold spec_l20Open.f
  by_cases h : (l.length : Int) > 2000
  · rw [if_pos h, if_pos (by omega)]
    exact ⟨_, rfl, fun x hx => hl' x (List.mem_of_mem_take hx), by simp; omega⟩
  · rw [if_neg h]
    exact ⟨_, rfl, hl', by omega⟩

/-- one number drawn: what it is, and where the reader stands behind it -/
theorem pick_one {b : List Int} (hb : ∀ x ∈ b, 0 ≤ x ∧ x < 256) (hl : b.length ≤ 2000) {p : Int} (n : Int) (hp0 : 0 ≤ p) (hp1 : p < 1000000000) :
    ∃ v q, (∀ k, 1 ≤ k → spec_l20Rd_pick.f k b p n = some (v, q)) ∧ 0 ≤ v ∧ (v = 0 ∨ v < n) ∧ 0 ≤ q ∧ q ≤ p + 1 := by
  obtain ⟨v, h, h0, h1⟩ := pick_ok hb hl n hp0 hp1
  exact ⟨v, p + 1, h, h0, h1, by omega, by omega⟩

/-- from some number of rounds on it tells r, and Q r -/
def Dr {α : Type} (g : Nat → Option α) (Q : α → Prop) : Prop := ∃ r, (∃ K, ∀ k, K ≤ k → g k = some r) ∧ Q r

theorem Dr.now {α : Type} {Q : α → Prop} (r : α) (h : Q r) : Dr (fun _ => some r) Q := ⟨r, ⟨0, fun _ _ => rfl⟩, h⟩
theorem Dr.const {α : Type} {Q : α → Prop} {g : Option α} {r : α} (e : g = some r) (h : Q r) : Dr (fun _ => g) Q := ⟨r, ⟨0, fun _ _ => e⟩, h⟩
theorem Dr.bind {α β : Type} {g : Nat → Option α} {f : Nat → α → Option β} {P : α → Prop} {Q : β → Prop} (h : Dr g P) (k : ∀ a, P a → Dr (fun n => f n a) Q) : Dr (fun n => (g n).bind (f n)) Q := by
  obtain ⟨a, ⟨K, hK⟩, hP⟩ := h
  obtain ⟨r, ⟨L, hL⟩, hQ⟩ := k a hP
  exact ⟨r, ⟨K + L, fun n hn => by show (g n).bind (f n) = _; rw [hK n (by omega)]; exact hL n (by omega)⟩, hQ⟩
theorem Dr.step {α : Type} {g f : Nat → Option α} {Q : α → Prop} (h : ∀ k, g (k + 1) = f k) (d : Dr f Q) : Dr g Q := by
  obtain ⟨r, ⟨K, hK⟩, hQ⟩ := d
  refine ⟨r, ⟨K + 1, fun n hn => ?_⟩, hQ⟩
  obtain ⟨n, rfl⟩ : ∃ m, n = m + 1 := ⟨n - 1, by omega⟩
  rw [h]; exact hK n (by omega)
theorem Dr.congr {α : Type} {g f : Nat → Option α} {Q : α → Prop} (h : ∀ k, g k = f k) (d : Dr f Q) : Dr g Q := by
  obtain ⟨r, ⟨K, hK⟩, hQ⟩ := d
  exact ⟨r, ⟨K, fun n hn => by rw [h]; exact hK n hn⟩, hQ⟩
theorem Dr.ifp {α : Type} {c : Prop} [Decidable c] {g f : Nat → Option α} {Q : α → Prop} (h : c) (d : Dr g Q) : Dr (fun k => if c then g k else f k) Q := by
  simp only [if_pos h]; exact d
theorem Dr.ifn {α : Type} {c : Prop} [Decidable c] {g f : Nat → Option α} {Q : α → Prop} (h : ¬ c) (d : Dr f Q) : Dr (fun k => if c then g k else f k) Q := by
  simp only [if_neg h]; exact d
theorem Dr.mono {α : Type} {g : Nat → Option α} {P Q : α → Prop} (h : ∀ r, P r → Q r) (d : Dr g P) : Dr g Q := by
  obtain ⟨r, hr, hP⟩ := d
  exact ⟨r, hr, h r hP⟩

theorem pick_dr {b : List Int} (hb : ∀ x ∈ b, 0 ≤ x ∧ x < 256) (hl : b.length ≤ 2000) {p : Int} (n : Int) (hp0 : 0 ≤ p) (hp1 : p < 1000000000) :
    Dr (fun k => spec_l20Rd_pick.f k b p n) (fun r => 0 ≤ r.1 ∧ (r.1 = 0 ∨ r.1 < n) ∧ 0 ≤ r.2 ∧ r.2 ≤ p + 1) := by
  obtain ⟨v, q, h, h0, h1, h2, h3⟩ := pick_one hb hl n hp0 hp1
  exact ⟨(v, q), ⟨1, h⟩, h0, h1, h2, h3⟩

theorem open_dr {l : List Int} (hl : ∀ x ∈ l, (Lit.int .u8 x).wf = true) :
    Dr (fun _ => spec_l20Open.f l) (fun r => r.2 = 0 ∧ (∀ x ∈ r.1, 0 ≤ x ∧ x < 256) ∧ r.1.length ≤ 2000) := by
  obtain ⟨b, h, h1, h2⟩ := open_ok hl
  exact Dr.const h ⟨rfl, h1, h2⟩

def pickW (t p : Int) : Int := if 0 ≤ t ∧ t ≤ 30 ∧ 0 ≤ p then ((bin t.toNat p.toNat : Nat) : Int) else -1

def sOk (t m p : Int) : Prop := 0 ≤ t ∧ t ≤ 30 ∧ 0 ≤ m ∧ m ≤ t ∧ 0 ≤ p ∧ p ≤ t

instance (t m p : Int) : Decidable (sOk t m p) := by unfold sOk; infer_instance

def markW (t m p b : Int) : Int := if sOk t m p ∧ 0 ≤ b ∧ b ≤ p then ((picks m.toNat (t - m).toNat p.toNat b.toNat : Nat) : Int) else -1

def tailW (t m p b : Int) : Int := if sOk t m p ∧ 0 ≤ b ∧ b ≤ p then ((sumTo (picks m.toNat (t - m).toNat p.toNat) (p.toNat + 1) : Nat) : Int) - (sumTo (picks m.toNat (t - m).toNat p.toNat) b.toNat : Nat) else -1

theorem picks_le (m n p k : Nat) (h : m + n ≤ 30) : picks m n p k ≤ 2 ^ 30 := by
  unfold picks
  have h1 := bin_le_pow m k
  have h2 := bin_le_pow n (p - k)
  have := Nat.mul_le_mul h1 h2
  rw [← Nat.pow_add] at this
  exact Nat.le_trans this (Nat.pow_le_pow_right (by omega) h)

theorem bin_le30 (n k : Nat) (h : n ≤ 30) : bin n k ≤ 2 ^ 30 := Nat.le_trans (bin_le_pow n k) (Nat.pow_le_pow_right (by omega) h)

theorem sum_picks_le (m n p i : Nat) (h : m + n ≤ 30) (hi : i ≤ p + 1) : sumTo (picks m n p) i ≤ 2 ^ 30 := by
  have h1 := sumTo_mono (picks m n p) hi
  rw [vander] at h1
  exact Nat.le_trans h1 (bin_le30 _ _ h)

theorem impl_choose_l0 (m k : Nat) (hn : m + k ≤ 30) : ∀ (d j f : Nat), j + d = k → d < f →
    impl_choose.l0 f ((m + k : Nat) : Int) (k : Int) ((bin (m + j) j : Nat) : Int) ((j : Int) + 1) = some ((bin (m + k) k : Nat) : Int) := by
  intro d
  induction d with
  | zero =>
    intro j f hj hf
    obtain ⟨f, rfl⟩ : ∃ g, f = g + 1 := ⟨f - 1, by omega⟩
    obtain rfl : j = k := by omega
    simp only [impl_choose.l0]; rw [if_neg (by omega)]
  | succ d ih =>
    intro j f hj hf
    obtain ⟨f, rfl⟩ : ∃ g, f = g + 1 := ⟨f - 1, by omega⟩
    have hb : bin (m + j) j ≤ 2 ^ 30 := Nat.le_trans (bin_le_pow _ _) (Nat.pow_le_pow_right (by omega) (by omega))
    have hb2 : bin (m + (j + 1)) (j + 1) ≤ 2 ^ 30 := Nat.le_trans (bin_le_pow _ _) (Nat.pow_le_pow_right (by omega) (by omega))
    have ha := bin_absorb (m + j) j
    have hmul : ((bin (m + j) j : Nat) : Int) * ((m : Int) + ((j : Int) + 1)) = ((j : Int) + 1) * ((bin (m + (j + 1)) (j + 1) : Nat) : Int) := by
      have : bin (m + j) j * (m + (j + 1)) = (j + 1) * bin (m + (j + 1)) (j + 1) := by rw [show m + (j + 1) = m + j + 1 by omega, ha, Nat.mul_comm]
      exact_mod_cast this
    have hle : (((j : Int) + 1) * ((bin (m + (j + 1)) (j + 1) : Nat) : Int)) ≤ 31 * 2 ^ 30 ∧ 0 ≤ (((j : Int) + 1) * ((bin (m + (j + 1)) (j + 1) : Nat) : Int)) := by
      have hle : (j + 1) * bin (m + (j + 1)) (j + 1) ≤ 31 * 2 ^ 30 := Nat.mul_le_mul (by omega) hb2
      have h0 : 0 ≤ (j + 1) * bin (m + (j + 1)) (j + 1) := Nat.zero_le _
      exact ⟨by exact_mod_cast hle, by exact_mod_cast h0⟩
    simp only [impl_choose.l0]
    rw [if_pos (by omega), if_neg (by omega), wr (n := ((m + k : Nat) : Int) - (k : Int)) (by omega) (by omega), show ((m + k : Nat) : Int) - (k : Int) = m by omega,
      wr (n := (m : Int) + ((j : Int) + 1)) (by omega) (by omega), hmul, wr (n := ((j : Int) + 1) * ((bin (m + (j + 1)) (j + 1) : Nat) : Int)) (by omega) (by omega), Int.mul_tdiv_cancel_left _ (by omega), wr (n := ((bin (m + (j + 1)) (j + 1) : Nat) : Int)) (by omega) (by omega), wr (n := (j : Int) + 1 + 1) (by omega) (by omega)]
    exact ih (j + 1) f (by omega) (by omega)

theorem impl_choose_ok (n k f : Nat) (hn : n ≤ 30) (hf : 33 ≤ f) : impl_choose.f f (n : Int) (k : Int) = some ((bin n k : Nat) : Int) := by
  obtain ⟨f, rfl⟩ : ∃ g, f = g + 1 := ⟨f - 1, by omega⟩
  unfold impl_choose.f
  rw [if_neg (by omega)]
  by_cases h : n < k
  · rw [decide_eq_true (by omega)]; simp only [impl_choose.j0, if_true]; rw [bin_lt n k h]; rfl
  · rw [decide_eq_false (by omega)]; simp only [impl_choose.j0]; rw [if_neg (by decide)]
    obtain ⟨m, rfl⟩ : ∃ m, n = m + k := ⟨n - k, by omega⟩
    have := impl_choose_l0 m k hn k 0 f (by omega) (by omega)
    rw [Nat.add_zero, bin_zero] at this
    exact this

theorem spec_l7Choose_l0 (m k : Nat) (hn : m + k ≤ 30) : ∀ (d j f : Nat), j + d = k → d < f →
    spec_l7Choose.l0 f ((m + k : Nat) : Int) (k : Int) ((bin (m + j) j : Nat) : Int) ((j : Int) + 1) = some ((bin (m + k) k : Nat) : Int) := by
  intro d
  induction d with
  | zero =>
    intro j f hj hf
    obtain ⟨f, rfl⟩ : ∃ g, f = g + 1 := ⟨f - 1, by omega⟩
    obtain rfl : j = k := by omega
    simp only [spec_l7Choose.l0]; rw [if_neg (by omega)]
  | succ d ih =>
    intro j f hj hf
    obtain ⟨f, rfl⟩ : ∃ g, f = g + 1 := ⟨f - 1, by omega⟩
    have hb : bin (m + j) j ≤ 2 ^ 30 := Nat.le_trans (bin_le_pow _ _) (Nat.pow_le_pow_right (by omega) (by omega))
    have hb2 : bin (m + (j + 1)) (j + 1) ≤ 2 ^ 30 := Nat.le_trans (bin_le_pow _ _) (Nat.pow_le_pow_right (by omega) (by omega))
    have ha := bin_absorb (m + j) j
    have hmul : ((bin (m + j) j : Nat) : Int) * ((m : Int) + ((j : Int) + 1)) = ((j : Int) + 1) * ((bin (m + (j + 1)) (j + 1) : Nat) : Int) := by
      have : bin (m + j) j * (m + (j + 1)) = (j + 1) * bin (m + (j + 1)) (j + 1) := by rw [show m + (j + 1) = m + j + 1 by omega, ha, Nat.mul_comm]
      exact_mod_cast this
    have hle : (((j : Int) + 1) * ((bin (m + (j + 1)) (j + 1) : Nat) : Int)) ≤ 31 * 2 ^ 30 ∧ 0 ≤ (((j : Int) + 1) * ((bin (m + (j + 1)) (j + 1) : Nat) : Int)) := by
      have hle : (j + 1) * bin (m + (j + 1)) (j + 1) ≤ 31 * 2 ^ 30 := Nat.mul_le_mul (by omega) hb2
      have h0 : 0 ≤ (j + 1) * bin (m + (j + 1)) (j + 1) := Nat.zero_le _
      exact ⟨by exact_mod_cast hle, by exact_mod_cast h0⟩
    simp only [spec_l7Choose.l0]
    rw [if_pos (by omega), if_neg (by omega), wr (n := ((m + k : Nat) : Int) - (k : Int)) (by omega) (by omega), show ((m + k : Nat) : Int) - (k : Int) = m by omega,
      wr (n := (m : Int) + ((j : Int) + 1)) (by omega) (by omega), hmul, wr (n := ((j : Int) + 1) * ((bin (m + (j + 1)) (j + 1) : Nat) : Int)) (by omega) (by omega), Int.mul_tdiv_cancel_left _ (by omega), wr (n := ((bin (m + (j + 1)) (j + 1) : Nat) : Int)) (by omega) (by omega), wr (n := (j : Int) + 1 + 1) (by omega) (by omega)]
    exact ih (j + 1) f (by omega) (by omega)

theorem spec_l7Choose_ok (n k f : Nat) (hn : n ≤ 30) (hf : 33 ≤ f) : spec_l7Choose.f f (n : Int) (k : Int) = some ((bin n k : Nat) : Int) := by
  obtain ⟨f, rfl⟩ : ∃ g, f = g + 1 := ⟨f - 1, by omega⟩
  unfold spec_l7Choose.f
  rw [if_neg (by omega)]
  by_cases h : n < k
  · rw [decide_eq_true (by omega)]; simp only [spec_l7Choose.j0, if_true]; rw [bin_lt n k h]; rfl
  · rw [decide_eq_false (by omega)]; simp only [spec_l7Choose.j0]; rw [if_neg (by decide)]
    obtain ⟨m, rfl⟩ : ∃ m, n = m + k := ⟨n - k, by omega⟩
    have := spec_l7Choose_l0 m k hn k 0 f (by omega) (by omega)
    rw [Nat.add_zero, bin_zero] at this
    exact this

theorem l1In_ok (a b c : Int) : spec_l1In.f a b c = some (decide (b ≤ a ∧ a ≤ c)) := by
  unfold spec_l1In.f
  by_cases h : a ≥ b
  · rw [if_pos h]; simp [h]
  · rw [if_neg h]; simp; omega

theorem impl_PickWays_ok (t p : Int) (f : Nat) (hf : 33 ≤ f) : impl_PickWays.f f t p = some (pickW t p) := by
  unfold impl_PickWays.f pickW
  by_cases h1 : t < 0
  · rw [if_pos h1, if_neg (by omega)]
  by_cases h2 : t > 30
  · rw [if_neg h1, if_pos h2, if_neg (by omega)]
  by_cases h3 : p < 0
  · rw [if_neg h1, if_neg h2, if_pos h3, if_neg (by omega)]
  · rw [if_neg h1, if_neg h2, if_neg h3, if_pos (by omega)]
    obtain ⟨t, rfl⟩ := Int.eq_ofNat_of_zero_le (show 0 ≤ t by omega)
    obtain ⟨p, rfl⟩ := Int.eq_ofNat_of_zero_le (show 0 ≤ p by omega)
    rw [impl_choose_ok t p f (by omega) hf]
    rfl

theorem impl_SampleOk_ok (t m p : Int) : impl_SampleOk.f t m p = some (decide (sOk t m p)) := by
  unfold impl_SampleOk.f sOk
  by_cases h1 : t ≥ 0 <;> by_cases h2 : t ≤ 30 <;> by_cases h3 : m ≥ 0 <;> by_cases h4 : m ≤ t <;> by_cases h5 : p ≥ 0 <;> simp [h1, h2, h3, h4, h5]

theorem spec_SampleOk_ok (t m p : Int) : spec_SampleOk.f t m p = some (decide (sOk t m p)) := by
  unfold spec_SampleOk.f
  simp only [l1In_ok, Option.bind_some]
  by_cases h1 : 0 ≤ t ∧ t ≤ 30
  · rw [if_pos (decide_eq_true h1)]
    by_cases h2 : 0 ≤ m ∧ m ≤ t
    · rw [if_pos (decide_eq_true h2)]
      congr 1; apply decide_eq_decide.2; unfold sOk; omega
    · rw [decide_eq_false h2, if_neg (by decide), decide_eq_false (show ¬ sOk t m p by unfold sOk; omega)]
  · rw [decide_eq_false h1, if_neg (by decide), decide_eq_false (show ¬ sOk t m p by unfold sOk; omega)]

theorem impl_MarkedWays_ok (t m p b : Int) (f : Nat) (hf : 34 ≤ f) : impl_MarkedWays.f f t m p b = some (markW t m p b) := by
  obtain ⟨f, rfl⟩ : ∃ g, f = g + 1 := ⟨f - 1, by omega⟩
  unfold impl_MarkedWays.f markW
  rw [impl_SampleOk_ok]; simp only [Option.bind_some]
  by_cases h : sOk t m p ∧ 0 ≤ b ∧ b ≤ p
  · have hs := h.1
    unfold sOk at hs
    rw [if_pos h, if_pos (decide_eq_true h.1), if_neg (show ¬ b < 0 from fun c => absurd c (Int.not_lt.2 h.2.1)), decide_eq_false (show ¬ b > p from Int.not_lt.2 h.2.2)]
    simp only [impl_MarkedWays.j0]; rw [if_neg (by decide)]
    obtain ⟨m, rfl⟩ := Int.eq_ofNat_of_zero_le (show 0 ≤ m by omega)
    obtain ⟨n, hn⟩ := Int.eq_ofNat_of_zero_le (show 0 ≤ t - m by omega)
    obtain ⟨b, rfl⟩ := Int.eq_ofNat_of_zero_le (show 0 ≤ b by omega)
    obtain ⟨q, hq⟩ := Int.eq_ofNat_of_zero_le (show 0 ≤ p - b by omega)
    obtain rfl : p = ((b + q : Nat) : Int) := by omega
    rw [wr (by omega) (by omega), wr (n := ((b + q : Nat) : Int) - b) (by omega) (by omega), hn, hq, impl_choose_ok m b f (by omega) (by omega), impl_choose_ok n q f (by omega) (by omega)]
    simp only [Option.bind_some]
    have hw := picks_le m n (b + q) b (by omega)
    unfold picks at hw ⊢
    simp only [Int.toNat_natCast]
    rw [show b + q - b = q by omega] at hw ⊢
    rw [← Int.natCast_mul, wr (by omega) (by omega)]
  · rw [if_neg h]
    have e : ∀ g, impl_MarkedWays.j0 (g + 1) t m p b true = some (-1) := fun g => by simp only [impl_MarkedWays.j0, if_true]
    by_cases h1 : sOk t m p
    · rw [if_pos (decide_eq_true h1)]
      by_cases h2 : b < 0
      · rw [if_pos h2, e]
      · rw [if_neg h2, decide_eq_true (show b > p from Int.not_le.1 fun c => h ⟨h1, by omega, c⟩), e]
    · rw [if_neg (by simpa using h1), e]

theorem spec_MarkedWays_ok (t m p b : Int) (f : Nat) (hf : 34 ≤ f) : spec_MarkedWays.f f t m p b = some (markW t m p b) := by
  obtain ⟨f, rfl⟩ : ∃ g, f = g + 1 := ⟨f - 1, by omega⟩
  unfold spec_MarkedWays.f markW
  rw [spec_SampleOk_ok]; simp only [Option.bind_some, l1In_ok]
  by_cases h : sOk t m p ∧ 0 ≤ b ∧ b ≤ p
  · have hs := h.1
    unfold sOk at hs
    rw [if_pos h, if_pos (decide_eq_true h.1), decide_eq_true h.2]
    simp only [spec_MarkedWays.j0, Bool.not_true]; rw [if_neg (by decide)]
    obtain ⟨m, rfl⟩ := Int.eq_ofNat_of_zero_le (show 0 ≤ m by omega)
    obtain ⟨n, hn⟩ := Int.eq_ofNat_of_zero_le (show 0 ≤ t - m by omega)
    obtain ⟨b, rfl⟩ := Int.eq_ofNat_of_zero_le (show 0 ≤ b by omega)
    obtain ⟨q, hq⟩ := Int.eq_ofNat_of_zero_le (show 0 ≤ p - b by omega)
    obtain rfl : p = ((b + q : Nat) : Int) := by omega
    rw [wr (by omega) (by omega), wr (n := ((b + q : Nat) : Int) - b) (by omega) (by omega), hn, hq, spec_l7Choose_ok m b f (by omega) (by omega), spec_l7Choose_ok n q f (by omega) (by omega)]
    simp only [Option.bind_some]
    have hw := picks_le m n (b + q) b (by omega)
    unfold picks at hw ⊢
    simp only [Int.toNat_natCast]
    rw [show b + q - b = q by omega] at hw ⊢
    rw [← Int.natCast_mul, wr (by omega) (by omega)]
  · rw [if_neg h]
    have e : ∀ g, spec_MarkedWays.j0 (g + 1) t m p b true = some (-1) := fun g => by simp only [spec_MarkedWays.j0, if_true]
    by_cases h1 : sOk t m p
    · rw [if_pos (decide_eq_true h1), decide_eq_false (fun c => h ⟨h1, c⟩)]
      exact e f
    · rw [if_neg (by simpa using h1), e]

theorem impl_TailWays_l0 (t m p b : Int) (hs : sOk t m p) (_ : 0 ≤ b) : ∀ (d i f : Nat), i + d = p.toNat + 1 → b.toNat ≤ i → d + 34 < f →
    impl_TailWays.l0 f t m p ((sumTo (picks m.toNat (t - m).toNat p.toNat) i : Nat) - (sumTo (picks m.toNat (t - m).toNat p.toNat) b.toNat : Nat)) (i : Int)
      = some (((sumTo (picks m.toNat (t - m).toNat p.toNat) (p.toNat + 1) : Nat) : Int) - (sumTo (picks m.toNat (t - m).toNat p.toNat) b.toNat : Nat)) := by
  have hs' := hs
  unfold sOk at hs'
  intro d
  induction d with
  | zero =>
    intro i f hi hbi hf
    obtain ⟨f, rfl⟩ : ∃ g, f = g + 1 := ⟨f - 1, by omega⟩
    simp only [impl_TailWays.l0]; rw [if_neg (by omega), show i = p.toNat + 1 by omega]
  | succ d ih =>
    intro i f hi hbi hf
    obtain ⟨f, rfl⟩ : ∃ g, f = g + 1 := ⟨f - 1, by omega⟩
    simp only [impl_TailWays.l0]
    rw [if_pos (by omega), impl_MarkedWays_ok t m p i f (by omega)]
    simp only [Option.bind_some]
    unfold markW
    rw [if_pos ⟨hs, by omega, by omega⟩, Int.toNat_natCast]
    have h1 := sum_picks_le m.toNat (t - m).toNat p.toNat (i + 1) (by omega) (by omega)
    have h2 := sum_picks_le m.toNat (t - m).toNat p.toNat b.toNat (by omega) (by omega)
    have h3 := sumTo_succ (picks m.toNat (t - m).toNat p.toNat) i
    have h4 : ((sumTo (picks m.toNat (t - m).toNat p.toNat) i : Nat) : Int) - (sumTo (picks m.toNat (t - m).toNat p.toNat) b.toNat : Nat) + (picks m.toNat (t - m).toNat p.toNat i : Nat)
      = ((sumTo (picks m.toNat (t - m).toNat p.toNat) (i + 1) : Nat) : Int) - (sumTo (picks m.toNat (t - m).toNat p.toNat) b.toNat : Nat) := by omega
    rw [h4, wr (by omega) (by omega), wr (by omega) (by omega)]
    exact ih (i + 1) f (by omega) (by omega) (by omega)

theorem impl_TailWays_ok (t m p b : Int) (f : Nat) (hf : 70 ≤ f) : impl_TailWays.f f t m p b = some (tailW t m p b) := by
  obtain ⟨f, rfl⟩ : ∃ g, f = g + 1 := ⟨f - 1, by omega⟩
  unfold impl_TailWays.f tailW
  rw [impl_SampleOk_ok]; simp only [Option.bind_some]
  by_cases h : sOk t m p ∧ 0 ≤ b ∧ b ≤ p
  · have hs := h.1
    unfold sOk at hs
    rw [if_pos h, if_pos (decide_eq_true h.1), if_neg (show ¬ b < 0 from fun c => absurd c (Int.not_lt.2 h.2.1)), decide_eq_false (show ¬ b > p from Int.not_lt.2 h.2.2)]
    simp only [impl_TailWays.j0]; rw [if_neg (by decide)]
    have := impl_TailWays_l0 t m p b h.1 h.2.1 (p.toNat + 1 - b.toNat) b.toNat f (by omega) (by omega) (by omega)
    rw [Int.sub_self, Int.toNat_of_nonneg h.2.1] at this
    exact this
  · rw [if_neg h]
    have e : ∀ g, impl_TailWays.j0 (g + 1) t m p b true = some (-1) := fun g => by simp only [impl_TailWays.j0, if_true]
    by_cases h1 : sOk t m p
    · rw [if_pos (decide_eq_true h1)]
      by_cases h2 : b < 0
      · rw [if_pos h2, e]
      · rw [if_neg h2, decide_eq_true (show b > p from Int.not_le.1 fun c => h ⟨h1, by omega, c⟩), e]
    · rw [if_neg (by simpa using h1), e]

theorem spec_TailWays_l0 (t m p b : Int) (hs : sOk t m p) (_ : 0 ≤ b) : ∀ (d i f : Nat), i + d = p.toNat + 1 → b.toNat ≤ i → d + 34 < f →
    spec_TailWays.l0 f t m p ((sumTo (picks m.toNat (t - m).toNat p.toNat) i : Nat) - (sumTo (picks m.toNat (t - m).toNat p.toNat) b.toNat : Nat)) (i : Int)
      = some (((sumTo (picks m.toNat (t - m).toNat p.toNat) (p.toNat + 1) : Nat) : Int) - (sumTo (picks m.toNat (t - m).toNat p.toNat) b.toNat : Nat)) := by
  have hs' := hs
  unfold sOk at hs'
  intro d
  induction d with
  | zero =>
    intro i f hi hbi hf
    obtain ⟨f, rfl⟩ : ∃ g, f = g + 1 := ⟨f - 1, by omega⟩
    simp only [spec_TailWays.l0]; rw [if_neg (by omega), show i = p.toNat + 1 by omega]
  | succ d ih =>
    intro i f hi hbi hf
    obtain ⟨f, rfl⟩ : ∃ g, f = g + 1 := ⟨f - 1, by omega⟩
    simp only [spec_TailWays.l0]
    rw [if_pos (by omega), spec_MarkedWays_ok t m p i f (by omega)]
    simp only [Option.bind_some]
    unfold markW
    rw [if_pos ⟨hs, by omega, by omega⟩, Int.toNat_natCast]
    have h1 := sum_picks_le m.toNat (t - m).toNat p.toNat (i + 1) (by omega) (by omega)
    have h2 := sum_picks_le m.toNat (t - m).toNat p.toNat b.toNat (by omega) (by omega)
    have h3 := sumTo_succ (picks m.toNat (t - m).toNat p.toNat) i
    have h4 : ((sumTo (picks m.toNat (t - m).toNat p.toNat) i : Nat) : Int) - (sumTo (picks m.toNat (t - m).toNat p.toNat) b.toNat : Nat) + (picks m.toNat (t - m).toNat p.toNat i : Nat)
      = ((sumTo (picks m.toNat (t - m).toNat p.toNat) (i + 1) : Nat) : Int) - (sumTo (picks m.toNat (t - m).toNat p.toNat) b.toNat : Nat) := by omega
    rw [h4, wr (by omega) (by omega), wr (by omega) (by omega)]
    exact ih (i + 1) f (by omega) (by omega) (by omega)

theorem spec_TailWays_ok (t m p b : Int) (f : Nat) (hf : 70 ≤ f) : spec_TailWays.f f t m p b = some (tailW t m p b) := by
  obtain ⟨f, rfl⟩ : ∃ g, f = g + 1 := ⟨f - 1, by omega⟩
  unfold spec_TailWays.f tailW
  rw [spec_SampleOk_ok]; simp only [Option.bind_some, l1In_ok]
  by_cases h : sOk t m p ∧ 0 ≤ b ∧ b ≤ p
  · have hs := h.1
    unfold sOk at hs
    rw [if_pos h, if_pos (decide_eq_true h.1), decide_eq_true h.2]
    simp only [spec_TailWays.j0, Bool.not_true]; rw [if_neg (by decide)]
    have := spec_TailWays_l0 t m p b h.1 h.2.1 (p.toNat + 1 - b.toNat) b.toNat f (by omega) (by omega) (by omega)
    rw [Int.sub_self, Int.toNat_of_nonneg h.2.1] at this
    exact this
  · rw [if_neg h]
    have e : ∀ g, spec_TailWays.j0 (g + 1) t m p b true = some (-1) := fun g => by simp only [spec_TailWays.j0, if_true]
    by_cases h1 : sOk t m p
    · rw [if_pos (decide_eq_true h1), decide_eq_false (fun c => h ⟨h1, c⟩)]
      exact e f
    · rw [if_neg (by simpa using h1), e]

theorem alive_ok (f : Nat) (hf : 5 ≤ f) : laws_alive.f f = some true := by
  obtain ⟨f, rfl⟩ : ∃ g, f = g + 5 := ⟨f - 5, by omega⟩
  have h1 : impl_UrnOk.f (f + 5) [1] = some true := by
    simp [impl_UrnOk.f, impl_UrnOk.l0, impl_coloursOk.f, rd, wrap64]
  have h2 : impl_UrnOk.f (f + 5) [] = some false := by
    simp [impl_UrnOk.f, impl_UrnOk.l0, impl_coloursOk.f]
  unfold laws_alive.f
  rw [h1, h2]; rfl

theorem pickW_neg {t p : Int} (h : pickW t p < 0) : pickW t p = -1 := by
  unfold pickW at h ⊢; split at h
  · omega
  · rw [if_neg (by assumption)]

theorem pickW_some {t p : Int} (h : ¬ pickW t p < 0) : 0 ≤ t ∧ t ≤ 30 ∧ 0 ≤ p := by
  unfold pickW at h; split at h
  · assumption
  · omega

theorem pickW_val {t p : Int} (h : 0 ≤ t ∧ t ≤ 30 ∧ 0 ≤ p) : pickW t p = ((bin t.toNat p.toNat : Nat) : Int) := by
  unfold pickW; rw [if_pos h]

theorem pickW_le (t p : Int) : pickW t p ≤ 1073741824 := by
  unfold pickW; split
  · have := bin_le30 t.toNat p.toNat (by omega); omega
  · omega

theorem markW_neg {t m p b : Int} (h : markW t m p b < 0) : markW t m p b = -1 := by
  unfold markW at h ⊢; split at h
  · omega
  · rw [if_neg (by assumption)]

theorem markW_some {t m p b : Int} (h : ¬ markW t m p b < 0) : sOk t m p ∧ 0 ≤ b ∧ b ≤ p := by
  unfold markW at h; split at h
  · assumption
  · omega

theorem markW_val {t m p b : Int} (h : sOk t m p ∧ 0 ≤ b ∧ b ≤ p) : markW t m p b = ((picks m.toNat (t - m).toNat p.toNat b.toNat : Nat) : Int) := by
  unfold markW; rw [if_pos h]

theorem picks_cells (m p t b : Nat) (h1 : m ≤ t) (h2 : p ≤ t) (h3 : b ≤ p) (h4 : b ≤ m) : picks m (t - m) p b * bin t m = picks p (t - p) m b * bin t p := by
  unfold picks
  obtain ⟨x, rfl⟩ : ∃ x, m = b + x := ⟨m - b, by omega⟩
  obtain ⟨y, rfl⟩ : ∃ y, p = b + y := ⟨p - b, by omega⟩
  by_cases hz : b + x + y ≤ t
  · obtain ⟨z, rfl⟩ : ∃ z, t = b + x + (y + z) := ⟨t - (b + x + y), by omega⟩
    have := bin_cells b x y z
    rw [show b + x + (y + z) - (b + x) = y + z by omega, show b + x + (y + z) - (b + y) = x + z by omega, show b + y - b = y by omega, show b + x - b = x by omega]
    exact this
  · rw [bin_lt (t - (b + x)) (b + y - b) (by omega), bin_lt (t - (b + y)) (b + x - b) (by omega)]
    simp

theorem sample_dr {b : List Int} (hb : ∀ x ∈ b, 0 ≤ x ∧ x < 256) (hl : b.length ≤ 2000) {p : Int} (hp0 : 0 ≤ p) (hp1 : p < 1000) :
    Dr (fun k => spec_l20Sample.f k b p) (fun r => 0 ≤ r.2.2.2 ∧ r.2.2.2 ≤ p + 6) := by
  unfold spec_l20Sample.f
  refine Dr.bind (pick_dr hb hl 12 (by omega) (by omega)) fun r1 ⟨_, _, _, _⟩ => ?_
  refine Dr.bind (pick_dr hb hl 40 (by omega) (by omega)) fun r2 ⟨_, _, _, _⟩ => ?_
  refine Dr.bind (pick_dr hb hl _ (by omega) (by omega)) fun r3 ⟨_, _, _, _⟩ => ?_
  refine Dr.bind (pick_dr hb hl 40 (by omega) (by omega)) fun r4 ⟨_, _, _, _⟩ => ?_
  refine Dr.bind (pick_dr hb hl _ (by omega) (by omega)) fun r5 ⟨_, _, _, _⟩ => ?_
  refine Dr.bind (pick_dr hb hl 40 (by omega) (by omega)) fun r6 ⟨_, _, _, _⟩ => ?_
  exact Dr.now _ ⟨by show 0 ≤ r6.2; omega, by show r6.2 ≤ _; omega⟩

theorem draw_marked {l : List Int} (hl : ∀ x ∈ l, (Lit.int .u8 x).wf = true) :
    Dr (fun k => spec_DrawMarkedWays.f k l) (fun _ => True) := by
  unfold spec_DrawMarkedWays.f
  refine Dr.bind (open_dr hl) fun b ⟨b0, b1, b2⟩ => ?_
  refine Dr.bind (sample_dr b1 b2 (by omega) (by omega)) fun r1 ⟨_, _⟩ => ?_
  refine Dr.bind (pick_dr b1 b2 _ (by omega) (by omega)) fun r2 ⟨_, _, _, _⟩ => ?_
  refine Dr.bind (pick_dr b1 b2 40 (by omega) (by omega)) fun r3 ⟨_, _, _, _⟩ => ?_
  exact Dr.now _ trivial

theorem tailW_neg {t m p b : Int} (h : tailW t m p b < 0) : ¬ (sOk t m p ∧ 0 ≤ b ∧ b ≤ p) := by
  intro c
  unfold tailW at h
  rw [if_pos c] at h
  have hs := c.1
  unfold sOk at hs
  have := sumTo_mono (picks m.toNat (t - m).toNat p.toNat) (show b.toNat ≤ p.toNat + 1 by omega)
  omega

theorem tailW_val {t m p b : Int} (h : sOk t m p ∧ 0 ≤ b ∧ b ≤ p) : tailW t m p b = ((sumTo (picks m.toNat (t - m).toNat p.toNat) (p.toNat + 1) : Nat) : Int) - (sumTo (picks m.toNat (t - m).toNat p.toNat) b.toNat : Nat) := by
  unfold tailW; rw [if_pos h]

theorem tail_zero {t m p : Int} (h : sOk t m p) : tailW t m p 0 = pickW t p := by
  have hs := h
  unfold sOk at hs
  rw [tailW_val ⟨h, by omega, by omega⟩, vander, pickW_val ⟨by omega, by omega, by omega⟩, show m.toNat + (t - m).toNat = t.toNat by omega]
  show _ - ((0 : Nat) : Int) = _
  omega

theorem tail_more {t m p b : Int} (h : sOk t m p ∧ 0 ≤ b ∧ b ≤ p) (h1 : ¬ tailW t m p (wrap64 (b + 1)) < 0) :
    tailW t m p b = wrap64 (tailW t m p (wrap64 (b + 1)) + markW t m p b) := by
  have hs := h.1
  unfold sOk at hs
  rw [wr (n := b + 1) (by omega) (by omega)] at h1 ⊢
  have h2 : sOk t m p ∧ 0 ≤ b + 1 ∧ b + 1 ≤ p := by
    refine ⟨h.1, by omega, ?_⟩
    unfold tailW at h1
    split at h1
    · rename_i c; exact c.2.2
    · omega
  have a1 := sum_picks_le m.toNat (t - m).toNat p.toNat (p.toNat + 1) (by omega) (by omega)
  have a2 := sum_picks_le m.toNat (t - m).toNat p.toNat (b.toNat + 1) (by omega) (by omega)
  have a3 := sumTo_succ (picks m.toNat (t - m).toNat p.toNat) b.toNat
  rw [tailW_val h, tailW_val h2, markW_val h, show (b + 1).toNat = b.toNat + 1 by omega, wr (by omega) (by omega)]
  omega

theorem tail_last {t m p b : Int} (h : sOk t m p ∧ 0 ≤ b ∧ b ≤ p) (h1 : tailW t m p (wrap64 (b + 1)) < 0) : tailW t m p b = markW t m p b := by
  have hs := h.1
  unfold sOk at hs
  rw [wr (n := b + 1) (by omega) (by omega)] at h1
  have h2 := tailW_neg h1
  have h3 : b = p := by
    have : ¬ (b + 1 ≤ p) := fun c => h2 ⟨h.1, by omega, c⟩
    omega
  have a3 := sumTo_succ (picks m.toNat (t - m).toNat p.toNat) b.toNat
  rw [tailW_val h, markW_val h, show p.toNat + 1 = b.toNat + 1 by omega]
  omega

theorem FnTailWays : laws_FnTailWays.Pure := by
  intro l _ _ hl
  obtain ⟨⟨t, m, p, b⟩, ⟨K, hK⟩, _⟩ := draw_marked hl
  have hd : spec_DrawTailWays.f (K + 100) l = some (t, m, p, b) := by
    have : spec_DrawMarkedWays.f (K + 100) l = some (t, m, p, b) := hK _ (by omega)
    unfold spec_DrawTailWays.f
    rw [this]; rfl
  refine ⟨K + 100, ?_⟩
  unfold laws_FnTailWays.f
  by_cases hlen : (l.length : Int) > 1048576
  · rw [if_pos hlen]
  rw [if_neg hlen, hd]
  simp only [Option.bind_some, impl_MarkedWays_ok _ _ _ _ (K + 100) (by omega), impl_TailWays_ok _ _ _ _ (K + 100) (by omega), spec_TailWays_ok _ _ _ _ (K + 100) (by omega),
    impl_PickWays_ok _ _ (K + 100) (by omega), alive_ok (K + 100) (by omega), if_true]
  by_cases hn : tailW t m p b < 0
  · rw [if_pos hn]
    have h := tailW_neg hn
    rw [if_pos (by unfold tailW; rw [if_neg h])]
  rw [if_neg hn]
  have hs : sOk t m p ∧ 0 ≤ b ∧ b ≤ p := by
    unfold tailW at hn
    split at hn
    · assumption
    · omega
  rw [if_pos (tail_zero hs.1)]
  by_cases h1 : tailW t m p (wrap64 (b + 1)) < 0
  · rw [if_pos h1, if_neg (by omega), tail_last hs h1]; simp
  · rw [if_neg h1, if_pos (tail_more hs h1), if_pos (by omega)]

end Go.Proofs.Ythcemfpnppkepaa.Pure
