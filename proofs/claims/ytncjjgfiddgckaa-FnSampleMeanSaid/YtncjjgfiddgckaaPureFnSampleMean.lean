/- FnSampleMean: for all arguments that the statement lets in, the law answers true. No condition of ours. -/
import Derived.Test.YtncjjgfiddgckaaPFnSampleMeanx3
import Derived.Test.YtncjjgfiddgckaaBin
namespace Go.Proofs.Ytncjjgfiddgckaa.Pure
open Go.RowKit Go.Proofs.Ytncjjgfiddgckaa.PFnSampleMean Go.Proofs.YtncjjgfiddgckaaW.PrintWords Go.Proofs.YtncjjgfiddgckaaW.PrintLast
open Go.Proofs.Ytncjjgfiddgckaa.Plain

theorem wr {n : Int} (h0 : -9223372036854775808 ≤ n) (h1 : n < 9223372036854775808) : wrap64 n = n := by unfold wrap64; omega
theorem wrap_lo (x : Int) : -9223372036854775808 ≤ wrap64 x := by unfold wrap64; omega
theorem wrap_hi (x : Int) : wrap64 x < 9223372036854775808 := by unfold wrap64; omega


theorem rd_byte {b : List Int} (hb : ∀ x ∈ b, 0 ≤ x ∧ x < 256) (i : Int) : 0 ≤ rd b i ∧ rd b i < 256 := by
  unfold rd
  rw [List.getD_eq_getElem?_getD]
  cases h : b[i.toNat]? with
  | none => simp
  | some x => exact hb x (List.mem_of_getElem? h)

theorem xor_nonneg {a c : Int} (ha : 0 ≤ a) (ha' : a < 4611686018427387904) (hc : 0 ≤ c) (hc' : c < 4611686018427387904) : 0 ≤ Go.bits .xor .i64 a c := by
  obtain ⟨a, rfl⟩ := Int.eq_ofNat_of_zero_le ha
  obtain ⟨c, rfl⟩ := Int.eq_ofNat_of_zero_le hc
  have ha2 : a < 2 ^ 62 := by omega
  have hc2 : c < 2 ^ 62 := by omega
  have hx := Nat.xor_lt_two_pow ha2 hc2
  have h1 : a % 2 ^ 64 = a := Nat.mod_eq_of_lt (by omega)
  have h2 : c % 2 ^ 64 = c := Nat.mod_eq_of_lt (by omega)
  have e : Go.bits .xor .i64 (a : Int) (c : Int) = wrap64 ((a ^^^ c : Nat) : Int) := by
    simp only [Go.bits, BitVec.ofInt_natCast, BitVec.toNat_xor, BitVec.toNat_ofNat]
    rw [show Go.IntKind.i64.bits = 64 from rfl, h1, h2, Go.IntKind.wrap_i64]
    unfold wrap64
    with_reducible rfl
  rw [e, wr (by omega) (by omega)]
  omega

theorem tmod_lt {x n : Int} (hx : 0 ≤ x) (hn : 1 ≤ n) : 0 ≤ Int.tmod x n ∧ Int.tmod x n < n :=
  ⟨Int.tmod_nonneg n hx, Int.tmod_lt_of_pos x (by omega)⟩

theorem tdiv_le (x n : Int) (hx : 0 ≤ x) : Int.tdiv x n ≤ x := by
  by_cases hn : n = 0
  · subst hn; simp; omega
  by_cases h : 0 ≤ n
  · rw [Int.tdiv_eq_ediv_of_nonneg hx]; exact Int.ediv_le_self n hx
  · have : Int.tdiv x n ≤ 0 := Int.tdiv_nonpos_of_nonneg_of_nonpos hx (by omega)
    omega

theorem pick_ok {b : List Int} (hb : ∀ x ∈ b, 0 ≤ x ∧ x < 256) (hl : b.length ≤ 2000) {p : Int} (n : Int) (hp0 : 0 ≤ p) (hp1 : p < 1000000000) :
    ∃ v, (∀ k, 1 ≤ k → spec_l20Rd_pick.f k b p n = some (v, p + 1)) ∧ 0 ≤ v ∧ (v = 0 ∨ v < n) := by
  have e0 : wrap64 (p + 1) = p + 1 := wr (by omega) (by omega)
  have e1 : wrap64 (p + 1 - 1) = p := by rw [wr (by omega) (by omega)]; omega
  by_cases hn : n < 1
  · refine ⟨0, fun k hk => ?_, Int.le_refl _, .inl rfl⟩
    obtain ⟨k, rfl⟩ : ∃ m, k = m + 1 := ⟨k - 1, by omega⟩
    unfold spec_l20Rd_pick.f; rw [if_pos hn, e0]; simp only [spec_l20Rd_pick.j0, if_true]
  by_cases hz : (b.length : Int) = 0
  · refine ⟨0, fun k hk => ?_, Int.le_refl _, .inl rfl⟩
    obtain ⟨k, rfl⟩ : ∃ m, k = m + 1 := ⟨k - 1, by omega⟩
    unfold spec_l20Rd_pick.f; rw [if_neg hn, e0, hz]; simp only [spec_l20Rd_pick.j0, beq_self_eq_true, if_true]
  have hz' : ((b.length : Int) == 0) = false := by simpa using hz
  by_cases hp : p < (b.length : Int)
  · have hr := rd_byte hb p
    have ew : wrap64 (rd b p) = rd b p := wr (by omega) (by omega)
    have hm := tmod_lt (n := n) hr.1 (by omega)
    refine ⟨Int.tmod (rd b p) n, fun k hk => ?_, hm.1, .inr hm.2⟩
    obtain ⟨k, rfl⟩ : ∃ m, k = m + 1 := ⟨k - 1, by omega⟩
    unfold spec_l20Rd_pick.f; rw [if_neg hn, e0, hz']; simp only [spec_l20Rd_pick.j0]; rw [e1, if_neg (by decide), if_pos hp, if_pos hp0, if_neg (by omega), ew]
  · have hL : (1 : Int) ≤ b.length := by omega
    have m1 := tmod_lt (n := (b.length : Int)) hp0 hL
    have e7 : wrap64 (p * 7) = p * 7 := wr (by omega) (by omega)
    have e73 : wrap64 (p * 7 + 3) = p * 7 + 3 := wr (by omega) (by omega)
    have m2 := tmod_lt (x := p * 7 + 3) (n := (b.length : Int)) (by omega) hL
    have r1 := rd_byte hb (Int.tmod p (b.length : Int))
    have r2 := rd_byte hb (Int.tmod (p * 7 + 3) (b.length : Int))
    have d0 : 0 ≤ Int.tdiv p (b.length : Int) := Int.tdiv_nonneg hp0 (by omega)
    have d1 : Int.tdiv p (b.length : Int) ≤ p := tdiv_le p _ hp0
    have ex : ∃ v, (∀ k, spec_l20Rd_pick.j0 (k + 1) n false b (p + 1) = some (v, p + 1)) ∧ 0 ≤ v ∧ (v = 0 ∨ v < n) := by
      simp only [spec_l20Rd_pick.j0]
      rw [e1, if_neg (by decide), if_neg hp, if_neg hz, if_pos m1.1, if_pos m1.2, e7, e73, if_pos m2.1, if_pos m2.2, if_neg (show ¬ n = 0 by omega)]
      generalize rd b (Int.tmod p (b.length : Int)) = x1 at r1
      generalize rd b (Int.tmod (p * 7 + 3) (b.length : Int)) = x2 at r2
      generalize Int.tdiv p (b.length : Int) = q at d0 d1
      rw [wr (n := x1) (by omega) (by omega), wr (n := x2) (by omega) (by omega), wr (n := x1 * 131) (by omega) (by omega), wr (n := x2 * 1117) (by omega) (by omega),
        wr (n := x1 * 131 + x2 * 1117) (by omega) (by omega), wr (n := p * 29) (by omega) (by omega), wr (n := x1 * 131 + x2 * 1117 + p * 29) (by omega) (by omega),
        wr (n := q) (by omega) (by omega), wr (n := q * 53) (by omega) (by omega), wr (n := x1 * 131 + x2 * 1117 + p * 29 + q * 53) (by omega) (by omega)]
      have hX : 0 ≤ x1 * 131 + x2 * 1117 + p * 29 + q * 53 := by omega
      have hX' : x1 * 131 + x2 * 1117 + p * 29 + q * 53 < 4611686018427387904 := by omega
      generalize x1 * 131 + x2 * 1117 + p * 29 + q * 53 = X at hX hX'
      have q0 : 0 ≤ Int.tdiv X 64 := Int.tdiv_nonneg hX (by omega)
      have q1 : Int.tdiv X 64 ≤ X := tdiv_le X 64 hX
      rw [wr (n := Int.tdiv X 64) (by omega) (by omega)]
      have hm := tmod_lt (n := n) (xor_nonneg hX hX' q0 (by omega)) (by omega)
      exact ⟨_, fun _ => rfl, hm.1, .inr hm.2⟩
    obtain ⟨v, hv, h0, h1⟩ := ex
    refine ⟨v, fun k hk => ?_, h0, h1⟩
    obtain ⟨k, rfl⟩ : ∃ m, k = m + 1 := ⟨k - 1, by omega⟩
    unfold spec_l20Rd_pick.f; rw [if_neg hn, e0, hz', hv]

theorem open_ok {l : List Int} (hl : ∀ x ∈ l, (Lit.int .u8 x).wf = true) :
    ∃ b, spec_l20Open.f l = some (b, 0) ∧ (∀ x ∈ b, 0 ≤ x ∧ x < 256) ∧ b.length ≤ 2000 := by
  have hl' : ∀ x ∈ l, 0 ≤ x ∧ x < 256 := fun x hx => by
    have := hl x hx
    simp [Lit.wf, Go.IntKind.min, Go.IntKind.max, Go.IntKind.bits, Go.IntKind.signed] at this
    omega
  unfold spec_l20Open.f
  by_cases h : (l.length : Int) > 2000
  · rw [if_pos h, if_pos (by omega)]
    exact ⟨_, rfl, fun x hx => hl' x (List.mem_of_mem_take hx), by simp; omega⟩
  · rw [if_neg h]
    exact ⟨_, rfl, hl', by omega⟩

/-- one number drawn: what it is, and where the reader stands behind it -/
theorem pick_one {b : List Int} (hb : ∀ x ∈ b, 0 ≤ x ∧ x < 256) (hl : b.length ≤ 2000) {p : Int} (n : Int) (hp0 : 0 ≤ p) (hp1 : p < 1000000000) :
    ∃ v q, (∀ k, 1 ≤ k → spec_l20Rd_pick.f k b p n = some (v, q)) ∧ 0 ≤ v ∧ (v = 0 ∨ v < n) ∧ 0 ≤ q ∧ q ≤ p + 1 := by
  obtain ⟨v, h, h0, h1⟩ := pick_ok hb hl n hp0 hp1
  exact ⟨v, p + 1, h, h0, h1, by omega, by omega⟩

/-- from some number of rounds on it tells r, and Q r -/
def Dr {α : Type} (g : Nat → Option α) (Q : α → Prop) : Prop := ∃ r, (∃ K, ∀ k, K ≤ k → g k = some r) ∧ Q r

theorem Dr.now {α : Type} {Q : α → Prop} (r : α) (h : Q r) : Dr (fun _ => some r) Q := ⟨r, ⟨0, fun _ _ => rfl⟩, h⟩
theorem Dr.const {α : Type} {Q : α → Prop} {g : Option α} {r : α} (e : g = some r) (h : Q r) : Dr (fun _ => g) Q := ⟨r, ⟨0, fun _ _ => e⟩, h⟩
theorem Dr.bind {α β : Type} {g : Nat → Option α} {f : Nat → α → Option β} {P : α → Prop} {Q : β → Prop} (h : Dr g P) (k : ∀ a, P a → Dr (fun n => f n a) Q) : Dr (fun n => (g n).bind (f n)) Q := by
  obtain ⟨a, ⟨K, hK⟩, hP⟩ := h
  obtain ⟨r, ⟨L, hL⟩, hQ⟩ := k a hP
  exact ⟨r, ⟨K + L, fun n hn => by show (g n).bind (f n) = _; rw [hK n (by omega)]; exact hL n (by omega)⟩, hQ⟩
theorem Dr.step {α : Type} {g f : Nat → Option α} {Q : α → Prop} (h : ∀ k, g (k + 1) = f k) (d : Dr f Q) : Dr g Q := by
  obtain ⟨r, ⟨K, hK⟩, hQ⟩ := d
  refine ⟨r, ⟨K + 1, fun n hn => ?_⟩, hQ⟩
  obtain ⟨n, rfl⟩ : ∃ m, n = m + 1 := ⟨n - 1, by omega⟩
  rw [h]; exact hK n (by omega)
theorem Dr.congr {α : Type} {g f : Nat → Option α} {Q : α → Prop} (h : ∀ k, g k = f k) (d : Dr f Q) : Dr g Q := by
  obtain ⟨r, ⟨K, hK⟩, hQ⟩ := d
  exact ⟨r, ⟨K, fun n hn => by rw [h]; exact hK n hn⟩, hQ⟩
theorem Dr.ifp {α : Type} {c : Prop} [Decidable c] {g f : Nat → Option α} {Q : α → Prop} (h : c) (d : Dr g Q) : Dr (fun k => if c then g k else f k) Q := by
  simp only [if_pos h]; exact d
theorem Dr.ifn {α : Type} {c : Prop} [Decidable c] {g f : Nat → Option α} {Q : α → Prop} (h : ¬ c) (d : Dr f Q) : Dr (fun k => if c then g k else f k) Q := by
  simp only [if_neg h]; exact d
theorem Dr.mono {α : Type} {g : Nat → Option α} {P Q : α → Prop} (h : ∀ r, P r → Q r) (d : Dr g P) : Dr g Q := by
  obtain ⟨r, hr, hP⟩ := d
  exact ⟨r, hr, h r hP⟩

theorem pick_dr {b : List Int} (hb : ∀ x ∈ b, 0 ≤ x ∧ x < 256) (hl : b.length ≤ 2000) {p : Int} (n : Int) (hp0 : 0 ≤ p) (hp1 : p < 1000000000) :
    Dr (fun k => spec_l20Rd_pick.f k b p n) (fun r => 0 ≤ r.1 ∧ (r.1 = 0 ∨ r.1 < n) ∧ 0 ≤ r.2 ∧ r.2 ≤ p + 1) := by
  obtain ⟨v, q, h, h0, h1, h2, h3⟩ := pick_one hb hl n hp0 hp1
  exact ⟨(v, q), ⟨1, h⟩, h0, h1, h2, h3⟩

theorem open_dr {l : List Int} (hl : ∀ x ∈ l, (Lit.int .u8 x).wf = true) :
    Dr (fun _ => spec_l20Open.f l) (fun r => r.2 = 0 ∧ (∀ x ∈ r.1, 0 ≤ x ∧ x < 256) ∧ r.1.length ≤ 2000) := by
  obtain ⟨b, h, h1, h2⟩ := open_ok hl
  exact Dr.const h ⟨rfl, h1, h2⟩

theorem Dr.up {α : Type} {g : Nat → Option α} {Q : α → Prop} (d : Dr (fun k => g (k + 1)) Q) : Dr g Q := Dr.step (fun _ => rfl) d

def pickW (t p : Int) : Int := if 0 ≤ t ∧ t ≤ 30 ∧ 0 ≤ p then ((bin t.toNat p.toNat : Nat) : Int) else -1

def sOk (t m p : Int) : Prop := 0 ≤ t ∧ t ≤ 30 ∧ 0 ≤ m ∧ m ≤ t ∧ 0 ≤ p ∧ p ≤ t

instance (t m p : Int) : Decidable (sOk t m p) := by unfold sOk; infer_instance

def markW (t m p b : Int) : Int := if sOk t m p ∧ 0 ≤ b ∧ b ≤ p then ((picks m.toNat (t - m).toNat p.toNat b.toNat : Nat) : Int) else -1

def tailW (t m p b : Int) : Int := if sOk t m p ∧ 0 ≤ b ∧ b ≤ p then ((sumTo (picks m.toNat (t - m).toNat p.toNat) (p.toNat + 1) : Nat) : Int) - (sumTo (picks m.toNat (t - m).toNat p.toNat) b.toNat : Nat) else -1

theorem picks_le (m n p k : Nat) (h : m + n ≤ 30) : picks m n p k ≤ 2 ^ 30 := by
  unfold picks
  have h1 := bin_le_pow m k
  have h2 := bin_le_pow n (p - k)
  have := Nat.mul_le_mul h1 h2
  rw [← Nat.pow_add] at this
  exact Nat.le_trans this (Nat.pow_le_pow_right (by omega) h)

theorem bin_le30 (n k : Nat) (h : n ≤ 30) : bin n k ≤ 2 ^ 30 := Nat.le_trans (bin_le_pow n k) (Nat.pow_le_pow_right (by omega) h)

theorem sum_picks_le (m n p i : Nat) (h : m + n ≤ 30) (hi : i ≤ p + 1) : sumTo (picks m n p) i ≤ 2 ^ 30 := by
  have h1 := sumTo_mono (picks m n p) hi
  rw [vander] at h1
  exact Nat.le_trans h1 (bin_le30 _ _ h)

theorem impl_choose_l0 (m k : Nat) (hn : m + k ≤ 30) : ∀ (d j f : Nat), j + d = k → d < f →
    impl_choose.l0 f ((m + k : Nat) : Int) (k : Int) ((bin (m + j) j : Nat) : Int) ((j : Int) + 1) = some ((bin (m + k) k : Nat) : Int) := by
  intro d
  induction d with
  | zero =>
    intro j f hj hf
    obtain ⟨f, rfl⟩ : ∃ g, f = g + 1 := ⟨f - 1, by omega⟩
    obtain rfl : j = k := by omega
    simp only [impl_choose.l0]; rw [if_neg (by omega)]
  | succ d ih =>
    intro j f hj hf
    obtain ⟨f, rfl⟩ : ∃ g, f = g + 1 := ⟨f - 1, by omega⟩
    have hb : bin (m + j) j ≤ 2 ^ 30 := Nat.le_trans (bin_le_pow _ _) (Nat.pow_le_pow_right (by omega) (by omega))
    have hb2 : bin (m + (j + 1)) (j + 1) ≤ 2 ^ 30 := Nat.le_trans (bin_le_pow _ _) (Nat.pow_le_pow_right (by omega) (by omega))
    have ha := bin_absorb (m + j) j
    have hmul : ((bin (m + j) j : Nat) : Int) * ((m : Int) + ((j : Int) + 1)) = ((j : Int) + 1) * ((bin (m + (j + 1)) (j + 1) : Nat) : Int) := by
      have : bin (m + j) j * (m + (j + 1)) = (j + 1) * bin (m + (j + 1)) (j + 1) := by rw [show m + (j + 1) = m + j + 1 by omega, ha, Nat.mul_comm]
      exact_mod_cast this
    have hle : (((j : Int) + 1) * ((bin (m + (j + 1)) (j + 1) : Nat) : Int)) ≤ 31 * 2 ^ 30 ∧ 0 ≤ (((j : Int) + 1) * ((bin (m + (j + 1)) (j + 1) : Nat) : Int)) := by
      have hle : (j + 1) * bin (m + (j + 1)) (j + 1) ≤ 31 * 2 ^ 30 := Nat.mul_le_mul (by omega) hb2
      have h0 : 0 ≤ (j + 1) * bin (m + (j + 1)) (j + 1) := Nat.zero_le _
      exact ⟨by exact_mod_cast hle, by exact_mod_cast h0⟩
    simp only [impl_choose.l0]
    rw [if_pos (by omega), if_neg (by omega), wr (n := ((m + k : Nat) : Int) - (k : Int)) (by omega) (by omega), show ((m + k : Nat) : Int) - (k : Int) = m by omega,
      wr (n := (m : Int) + ((j : Int) + 1)) (by omega) (by omega), hmul, wr (n := ((j : Int) + 1) * ((bin (m + (j + 1)) (j + 1) : Nat) : Int)) (by omega) (by omega), Int.mul_tdiv_cancel_left _ (by omega), wr (n := ((bin (m + (j + 1)) (j + 1) : Nat) : Int)) (by omega) (by omega), wr (n := (j : Int) + 1 + 1) (by omega) (by omega)]
    exact ih (j + 1) f (by omega) (by omega)

theorem impl_choose_ok (n k f : Nat) (hn : n ≤ 30) (hf : 33 ≤ f) : impl_choose.f f (n : Int) (k : Int) = some ((bin n k : Nat) : Int) := by
  obtain ⟨f, rfl⟩ : ∃ g, f = g + 1 := ⟨f - 1, by omega⟩
  unfold impl_choose.f
  rw [if_neg (by omega)]
  by_cases h : n < k
  · rw [decide_eq_true (by omega)]; simp only [impl_choose.j0, if_true]; rw [bin_lt n k h]; rfl
  · rw [decide_eq_false (by omega)]; simp only [impl_choose.j0]; rw [if_neg (by decide)]
    obtain ⟨m, rfl⟩ : ∃ m, n = m + k := ⟨n - k, by omega⟩
    have := impl_choose_l0 m k hn k 0 f (by omega) (by omega)
    rw [Nat.add_zero, bin_zero] at this
    exact this

theorem impl_SampleOk_ok (t m p : Int) : impl_SampleOk.f t m p = some (decide (sOk t m p)) := by
  unfold impl_SampleOk.f sOk
  by_cases h1 : t ≥ 0 <;> by_cases h2 : t ≤ 30 <;> by_cases h3 : m ≥ 0 <;> by_cases h4 : m ≤ t <;> by_cases h5 : p ≥ 0 <;> simp [h1, h2, h3, h4, h5]

theorem impl_MarkedWays_ok (t m p b : Int) (f : Nat) (hf : 34 ≤ f) : impl_MarkedWays.f f t m p b = some (markW t m p b) := by
  obtain ⟨f, rfl⟩ : ∃ g, f = g + 1 := ⟨f - 1, by omega⟩
  unfold impl_MarkedWays.f markW
  rw [impl_SampleOk_ok]; simp only [Option.bind_some]
  by_cases h : sOk t m p ∧ 0 ≤ b ∧ b ≤ p
  · have hs := h.1
    unfold sOk at hs
    rw [if_pos h, if_pos (decide_eq_true h.1), if_neg (show ¬ b < 0 from fun c => absurd c (Int.not_lt.2 h.2.1)), decide_eq_false (show ¬ b > p from Int.not_lt.2 h.2.2)]
    simp only [impl_MarkedWays.j0]; rw [if_neg (by decide)]
    obtain ⟨m, rfl⟩ := Int.eq_ofNat_of_zero_le (show 0 ≤ m by omega)
    obtain ⟨n, hn⟩ := Int.eq_ofNat_of_zero_le (show 0 ≤ t - m by omega)
    obtain ⟨b, rfl⟩ := Int.eq_ofNat_of_zero_le (show 0 ≤ b by omega)
    obtain ⟨q, hq⟩ := Int.eq_ofNat_of_zero_le (show 0 ≤ p - b by omega)
    obtain rfl : p = ((b + q : Nat) : Int) := by omega
    rw [wr (by omega) (by omega), wr (n := ((b + q : Nat) : Int) - b) (by omega) (by omega), hn, hq, impl_choose_ok m b f (by omega) (by omega), impl_choose_ok n q f (by omega) (by omega)]
    simp only [Option.bind_some]
    have hw := picks_le m n (b + q) b (by omega)
    unfold picks at hw ⊢
    simp only [Int.toNat_natCast]
    rw [show b + q - b = q by omega] at hw ⊢
    rw [← Int.natCast_mul, wr (by omega) (by omega)]
  · rw [if_neg h]
    have e : ∀ g, impl_MarkedWays.j0 (g + 1) t m p b true = some (-1) := fun g => by simp only [impl_MarkedWays.j0, if_true]
    by_cases h1 : sOk t m p
    · rw [if_pos (decide_eq_true h1)]
      by_cases h2 : b < 0
      · rw [if_pos h2, e]
      · rw [if_neg h2, decide_eq_true (show b > p from Int.not_le.1 fun c => h ⟨h1, by omega, c⟩), e]
    · rw [if_neg (by simpa using h1), e]

theorem rd_nat (l : List Int) (i : Nat) (h : i < l.length) : rd l (i : Int) = l[i] := by
  unfold rd
  rw [Int.toNat_natCast, List.getD_eq_getElem?_getD, List.getElem?_eq_getElem h]; rfl

theorem rd_getD (l : List Int) (i : Nat) : rd l (i : Int) = l.getD i 0 := by
  unfold rd; rw [Int.toNat_natCast]

def inB (x : Int) : Bool := decide (0 ≤ x ∧ x ≤ 100000)

/-- a row of weights -/
def mixB (l : List Int) : Bool := l.all inB && decide (1 ≤ l.length ∧ l.length ≤ 9)

theorem mixB_len {l : List Int} (h : mixB l = true) : 1 ≤ l.length ∧ l.length ≤ 9 := by
  unfold mixB at h; simp only [Bool.and_eq_true, decide_eq_true_eq] at h; exact h.2

theorem mixB_mem {l : List Int} (h : mixB l = true) : ∀ x ∈ l, 0 ≤ x ∧ x ≤ 100000 := by
  unfold mixB at h; simp only [Bool.and_eq_true, List.all_eq_true] at h
  intro x hx; have := h.1 x hx; unfold inB at this; simpa using this

theorem mixB_get {l : List Int} (h : mixB l = true) (i : Nat) : 0 ≤ l.getD i 0 ∧ l.getD i 0 ≤ 100000 := by
  rw [List.getD_eq_getElem?_getD]
  cases e : l[i]? with
  | none => simp
  | some x => exact mixB_mem h x (List.mem_of_getElem? e)

theorem impl_MixOk_l0 (l : List Int) (hl : l.length ≤ 17592186044416) : ∀ (d i f : Nat), i + d = l.length → d < f →
    impl_MixOk.l0 f l l (l.length : Int) (i : Int) = some ((l.drop i).all inB && decide (1 ≤ l.length ∧ l.length ≤ 9)) := by
  intro d
  induction d with
  | zero =>
    intro i f hi hf
    obtain ⟨f, rfl⟩ : ∃ g, f = g + 1 := ⟨f - 1, by omega⟩
    simp only [impl_MixOk.l0]; rw [if_neg (by omega), List.drop_of_length_le (by omega)]
    rw [List.all_nil, Bool.true_and]
    by_cases h : (l.length : Int) ≥ 1
    · rw [if_pos h]; congr 1; apply decide_eq_decide.2; omega
    · rw [if_neg h, decide_eq_false (by omega)]
  | succ d ih =>
    intro i f hi hf
    obtain ⟨f, rfl⟩ : ∃ g, f = g + 1 := ⟨f - 1, by omega⟩
    simp only [impl_MixOk.l0]
    rw [if_pos (by omega), if_pos (by omega), if_pos (by omega), rd_nat l i (by omega), wr (by omega) (by omega), List.drop_eq_getElem_cons (show i < l.length by omega), List.all_cons]
    by_cases h1 : l[i] < 0
    · rw [if_pos h1, show inB l[i] = false from decide_eq_false (by omega)]; rfl
    by_cases h2 : l[i] > 100000
    · rw [if_neg h1, if_pos h2, show inB l[i] = false from decide_eq_false (by omega)]; rfl
    · rw [if_neg h1, if_neg h2]
      have := ih (i + 1) f (by omega) (by omega)
      rw [show ((i : Int) + 1) = ((i + 1 : Nat) : Int) by omega, this, show inB l[i] = true from decide_eq_true (by omega), Bool.true_and]

theorem impl_MixOk_ok (l : List Int) (f : Nat) (hl : l.length ≤ 17592186044416) (hf : l.length + 2 ≤ f) : impl_MixOk.f f l = some (mixB l) := by
  unfold impl_MixOk.f mixB
  have := impl_MixOk_l0 l hl l.length 0 f (by omega) (by omega)
  rw [List.drop_zero] at this
  exact this

theorem mul_bd {a c A C : Int} (h0 : 0 ≤ a) (h1 : a ≤ A) (h2 : 0 ≤ c) (h3 : c ≤ C) : 0 ≤ a * c ∧ a * c ≤ A * C :=
  ⟨Int.mul_nonneg h0 h2, Int.mul_le_mul h1 h3 h2 (by omega)⟩

theorem elem_ok {a b c e : Int} (ha : 0 ≤ a ∧ a ≤ 100000) (hb : 0 ≤ b ∧ b ≤ 100000) (hc : 0 ≤ c ∧ c ≤ 9) (he : 0 ≤ e ∧ e ≤ 9) :
    wrap64 ((wrap64 (a * c)) + (wrap64 (b * e))) = a * c + b * e := by
  have h1 := mul_bd ha.1 ha.2 hc.1 hc.2
  have h2 := mul_bd hb.1 hb.2 he.1 he.2
  rw [wr (n := a * c) (by omega) (by omega), wr (n := b * e) (by omega) (by omega), wr (by omega) (by omega)]

theorem range_snoc (g : Nat → Int) (i : Nat) : (List.range i).map g ++ [g i] = (List.range (i + 1)).map g := by
  rw [List.range_succ, List.map_append]; rfl

/-- the row, if it is one -/
def fin (l : List Int) : List Int × Bool := if mixB l = true then (l, true) else ([], false)

theorem impl_mixed_ok (l : List Int) (f : Nat) (hl : l.length ≤ 17592186044416) (hf : l.length + 2 ≤ f) : impl_mixed.f f l = some (fin l) := by
  unfold impl_mixed.f fin
  rw [impl_MixOk_ok l f hl hf]; simp only [Option.bind_some]
  split <;> rfl

def sampE (t m p : Int) (k : Nat) : Int := markW t m p (k : Int)
def sampL (t m p : Int) : List Int := (List.range (p.toNat + 1)).map (sampE t m p)
def sampleR (t m p : Int) : List Int × Bool := if sOk t m p ∧ p ≤ 8 then fin (sampL t m p) else ([], false)

theorem sampL_length (t m p : Int) : (sampL t m p).length = p.toNat + 1 := by simp [sampL]

theorem impl_SampleRow_l0 (t m p : Int) (h : sOk t m p ∧ p ≤ 8) : ∀ (d i f : Nat), i + d = p.toNat + 1 → d + 60 ≤ f →
    impl_SampleRow.l0 f t m p ((List.range i).map (sampE t m p)) (i : Int) = some (fin (sampL t m p)) := by
  have hs := h.1
  unfold sOk at hs
  intro d
  induction d with
  | zero =>
    intro i f hi hf
    obtain ⟨f, rfl⟩ : ∃ g, f = g + 1 := ⟨f - 1, by omega⟩
    obtain rfl : i = p.toNat + 1 := by omega
    simp only [impl_SampleRow.l0]
    rw [if_neg (by omega), impl_mixed_ok _ f (by simp; omega) (by simp; omega)]
    rfl
  | succ d ih =>
    intro i f hi hf
    obtain ⟨f, rfl⟩ : ∃ g, f = g + 1 := ⟨f - 1, by omega⟩
    simp only [impl_SampleRow.l0]
    rw [if_pos (by omega), impl_MarkedWays_ok _ _ _ _ f (by omega)]
    simp only [Option.bind_some]
    rw [if_pos (by simp; omega), wr (n := (i : Int) + 1) (by omega) (by omega)]
    have e : markW t m p (i : Int) = sampE t m p i := rfl
    rw [e, range_snoc]
    exact ih (i + 1) f (by omega) (by omega)

theorem impl_SampleRow_ok (t m p : Int) (f : Nat) (hf : 80 ≤ f) : impl_SampleRow.f f t m p = some (sampleR t m p) := by
  obtain ⟨f, rfl⟩ : ∃ g, f = g + 1 := ⟨f - 1, by omega⟩
  unfold impl_SampleRow.f sampleR
  rw [impl_SampleOk_ok]; simp only [Option.bind_some]
  by_cases h : sOk t m p
  · rw [if_pos (decide_eq_true h)]
    have hs := h
    unfold sOk at hs
    by_cases h8 : p > 8
    · rw [decide_eq_true h8, if_neg (fun c => by have := c.2; omega)]
      simp only [impl_SampleRow.j0, if_true]
    · rw [decide_eq_false h8, if_pos ⟨h, by omega⟩]
      simp only [impl_SampleRow.j0]
      rw [if_neg (by decide)]
      exact impl_SampleRow_l0 t m p ⟨h, by omega⟩ (p.toNat + 1) 0 f (by omega) (by omega)
  · rw [decide_eq_false h, if_neg (by decide), if_neg (fun c => h c.1)]
    simp only [impl_SampleRow.j0, if_true]

/-- sum of f 0 .. f (n-1) -/
def SZ (f : Nat → Int) : Nat → Int
  | 0 => 0
  | n + 1 => SZ f n + f n

theorem SZ_succ (f : Nat → Int) (n : Nat) : SZ f (n + 1) = SZ f n + f n := rfl

theorem SZ_congr {f g : Nat → Int} {n : Nat} (h : ∀ k, k < n → f k = g k) : SZ f n = SZ g n := by
  induction n with
  | zero => rfl
  | succ n ih => rw [SZ_succ, SZ_succ, ih (fun k hk => h k (by omega)), h n (by omega)]

theorem SZ_add (f g : Nat → Int) (n : Nat) : SZ (fun k => f k + g k) n = SZ f n + SZ g n := by
  induction n with
  | zero => rfl
  | succ n ih => rw [SZ_succ, SZ_succ, SZ_succ, ih]; omega

theorem SZ_mul (c : Int) (f : Nat → Int) (n : Nat) : SZ (fun k => f k * c) n = SZ f n * c := by
  induction n with
  | zero => simp [SZ]
  | succ n ih => rw [SZ_succ, SZ_succ, ih, Int.add_mul]

theorem SZ_front (f : Nat → Int) (n : Nat) : SZ f (n + 1) = f 0 + SZ (fun k => f (k + 1)) n := by
  induction n with
  | zero => simp [SZ]
  | succ n ih => rw [SZ_succ, ih, SZ_succ]; omega

theorem SZ_bd {f : Nat → Int} {B : Int} {n : Nat} (h : ∀ k, k < n → 0 ≤ f k ∧ f k ≤ B) : 0 ≤ SZ f n ∧ SZ f n ≤ n * B := by
  induction n with
  | zero => simp [SZ]
  | succ n ih =>
    have h1 := ih (fun k hk => h k (by omega))
    have h2 := h n (by omega)
    rw [SZ_succ]
    refine ⟨by omega, ?_⟩
    rw [show ((n + 1 : Nat) : Int) * B = n * B + B by rw [show ((n + 1 : Nat) : Int) = (n : Int) + 1 by omega, Int.add_mul, Int.one_mul]]
    omega

def sumL (l : List Int) : Int := SZ (fun k => l.getD k 0) l.length
def wsumL (l : List Int) : Int := SZ (fun k => (k : Int) * l.getD k 0) l.length
def sumsR (l : List Int) : Int × Int × Bool := if mixB l = true then (sumL l, wsumL l, true) else (0, 0, false)

theorem sum_bd {l : List Int} (h : mixB l = true) (i : Nat) (hi : i ≤ 9) : 0 ≤ SZ (fun k => l.getD k 0) i ∧ SZ (fun k => l.getD k 0) i ≤ 900000 := by
  have := SZ_bd (f := fun k => l.getD k 0) (B := 100000) (n := i) (fun k _ => mixB_get h k)
  omega

theorem wsum_bd {l : List Int} (h : mixB l = true) (i : Nat) (hi : i ≤ 9) : 0 ≤ SZ (fun k => (k : Int) * l.getD k 0) i ∧ SZ (fun k => (k : Int) * l.getD k 0) i ≤ 8100000 := by
  have := SZ_bd (f := fun k => (k : Int) * l.getD k 0) (B := 900000) (n := i) (fun k hk => by
    have h1 := mixB_get h k
    have := mul_bd (a := (k : Int)) (A := 9) (by omega) (by omega) h1.1 h1.2
    omega)
  omega

theorem impl_sum_l0 (l : List Int) (h : mixB l = true) : ∀ (d i f : Nat), i + d = l.length → d < f →
    impl_sum.l0 f (SZ (fun k => l.getD k 0) i) l (l.length : Int) (i : Int) = some (sumL l) := by
  have hlen := mixB_len h
  intro d
  induction d with
  | zero =>
    intro i f hi hf
    obtain ⟨f, rfl⟩ : ∃ g, f = g + 1 := ⟨f - 1, by omega⟩
    obtain rfl : i = l.length := by omega
    simp only [impl_sum.l0]; rw [if_neg (by omega)]; rfl
  | succ d ih =>
    intro i f hi hf
    obtain ⟨f, rfl⟩ : ∃ g, f = g + 1 := ⟨f - 1, by omega⟩
    have h1 := sum_bd h i (by omega)
    have h2 := mixB_get h i
    simp only [impl_sum.l0]
    rw [if_pos (by omega), if_pos (by omega), if_pos (by omega), rd_getD, wr (n := SZ (fun k => l.getD k 0) i + l.getD i 0) (by omega) (by omega), wr (n := (i : Int) + 1) (by omega) (by omega)]
    exact ih (i + 1) f (by omega) (by omega)

theorem impl_sum_ok (l : List Int) (h : mixB l = true) (f : Nat) (hf : 12 ≤ f) : impl_sum.f f l = some (sumL l) := by
  have hlen := mixB_len h
  unfold impl_sum.f
  exact impl_sum_l0 l h l.length 0 f (by omega) (by omega)

theorem impl_RowSums_l0 (l : List Int) (h : mixB l = true) : ∀ (d i f : Nat), i + d = l.length → d + 20 ≤ f →
    impl_RowSums.l0 f l (SZ (fun k => (k : Int) * l.getD k 0) i) l (l.length : Int) (i : Int) = some (sumL l, wsumL l, true) := by
  have hlen := mixB_len h
  intro d
  induction d with
  | zero =>
    intro i f hi hf
    obtain ⟨f, rfl⟩ : ∃ g, f = g + 1 := ⟨f - 1, by omega⟩
    obtain rfl : i = l.length := by omega
    simp only [impl_RowSums.l0]; rw [if_neg (by omega), impl_sum_ok l h f (by omega)]; rfl
  | succ d ih =>
    intro i f hi hf
    obtain ⟨f, rfl⟩ : ∃ g, f = g + 1 := ⟨f - 1, by omega⟩
    have h1 := wsum_bd h i (by omega)
    have h2 := mixB_get h i
    have h3 := mul_bd (a := (i : Int)) (A := 9) (by omega) (by omega) h2.1 h2.2
    simp only [impl_RowSums.l0]
    rw [if_pos (by omega), if_pos (by omega), if_pos (by omega), rd_getD, wr (n := (i : Int) * l.getD i 0) (by omega) (by omega),
      wr (n := SZ (fun k => (k : Int) * l.getD k 0) i + (i : Int) * l.getD i 0) (by omega) (by omega), wr (n := (i : Int) + 1) (by omega) (by omega)]
    exact ih (i + 1) f (by omega) (by omega)

theorem impl_RowSums_ok (l : List Int) (f : Nat) (hl : l.length ≤ 17592186044416) (hf : l.length + 40 ≤ f) : impl_RowSums.f f l = some (sumsR l) := by
  unfold impl_RowSums.f sumsR
  rw [impl_MixOk_ok l f hl (by omega)]; simp only [Option.bind_some]
  by_cases h : mixB l = true
  · rw [if_pos h, if_pos h]
    have hlen := mixB_len h
    exact impl_RowSums_l0 l h l.length 0 f (by omega) (by omega)
  · rw [if_neg h, if_neg h]

theorem sample_dr {b : List Int} (hb : ∀ x ∈ b, 0 ≤ x ∧ x < 256) (hl : b.length ≤ 2000) {p : Int} (hp0 : 0 ≤ p) (hp1 : p < 1000) :
    Dr (fun k => spec_l20Sample.f k b p) (fun r => 0 ≤ r.2.2.2 ∧ r.2.2.2 ≤ p + 6) := by
  unfold spec_l20Sample.f
  refine Dr.bind (pick_dr hb hl 12 (by omega) (by omega)) fun r1 ⟨_, _, _, _⟩ => ?_
  refine Dr.bind (pick_dr hb hl 40 (by omega) (by omega)) fun r2 ⟨_, _, _, _⟩ => ?_
  refine Dr.bind (pick_dr hb hl _ (by omega) (by omega)) fun r3 ⟨_, _, _, _⟩ => ?_
  refine Dr.bind (pick_dr hb hl 40 (by omega) (by omega)) fun r4 ⟨_, _, _, _⟩ => ?_
  refine Dr.bind (pick_dr hb hl _ (by omega) (by omega)) fun r5 ⟨_, _, _, _⟩ => ?_
  refine Dr.bind (pick_dr hb hl 40 (by omega) (by omega)) fun r6 ⟨_, _, _, _⟩ => ?_
  exact Dr.now _ ⟨by show 0 ≤ r6.2; omega, by show r6.2 ≤ _; omega⟩

theorem SZ_nat (g : Nat → Nat) (n : Nat) : SZ (fun k => ((g k : Nat) : Int)) n = ((sumTo g n : Nat) : Int) := by
  induction n with
  | zero => rfl
  | succ n ih => rw [SZ_succ, sumTo_succ, ih]; omega

theorem getD_map_range (g : Nat → Int) (n k : Nat) (h : k < n) : ((List.range n).map g).getD k 0 = g k := by
  rw [List.getD_eq_getElem?_getD, List.getElem?_map, List.getElem?_range h]; rfl

theorem sampL_getD (t m p : Int) (h : sOk t m p) (k : Nat) (hk : k ≤ p.toNat) : (sampL t m p).getD k 0 = ((picks m.toNat (t - m).toNat p.toNat k : Nat) : Int) := by
  have hs := h
  unfold sOk at hs
  unfold sampL
  rw [getD_map_range _ _ _ (by omega)]
  unfold sampE markW
  rw [if_pos ⟨h, by omega, by omega⟩, Int.toNat_natCast]

theorem sampleR_ok {t m p : Int} (h : (sampleR t m p).2 = true) : sOk t m p ∧ p ≤ 8 ∧ mixB (sampL t m p) = true ∧ sampleR t m p = (sampL t m p, true) := by
  unfold sampleR fin at h ⊢
  split at h
  · split at h
    · rename_i a b; exact ⟨a.1, a.2, b, by rw [if_pos a, if_pos b]⟩
    · simp at h
  · simp at h

theorem sampleR_no {t m p : Int} (h : ¬ (sampleR t m p).2 = true) : sampleR t m p = ([], false) := by
  unfold sampleR fin at h ⊢
  split at h
  · split at h
    · simp at h
    · rename_i a b; rw [if_pos a, if_neg b]
  · rename_i a; rw [if_neg a]

theorem samp_sum (t m p : Int) (h : sOk t m p) : sumL (sampL t m p) = ((bin t.toNat p.toNat : Nat) : Int) := by
  have hs := h
  unfold sOk at hs
  unfold sumL
  rw [sampL_length, SZ_congr (g := fun k => ((picks m.toNat (t - m).toNat p.toNat k : Nat) : Int)) (fun k hk => sampL_getD t m p h k (by omega)), SZ_nat, vander, show m.toNat + (t - m).toNat = t.toNat by omega]

theorem samp_wsum (t m p : Int) (h : sOk t m p) : wsumL (sampL t m p) * t = sumL (sampL t m p) * m * p := by
  rw [samp_sum t m p h]
  have hs := h
  unfold sOk at hs
  unfold wsumL
  rw [sampL_length, SZ_congr (g := fun k => ((k * picks m.toNat (t - m).toNat p.toNat k : Nat) : Int)) (fun k hk => by rw [sampL_getD t m p h k (by omega), Int.natCast_mul]), SZ_nat]
  have := vander_mean m.toNat (t - m).toNat p.toNat
  rw [show m.toNat + (t - m).toNat = t.toNat by omega] at this
  obtain ⟨t, rfl⟩ := Int.eq_ofNat_of_zero_le (show 0 ≤ t by omega)
  obtain ⟨m, rfl⟩ := Int.eq_ofNat_of_zero_le (show 0 ≤ m by omega)
  obtain ⟨p, rfl⟩ := Int.eq_ofNat_of_zero_le (show 0 ≤ p by omega)
  simp only [Int.toNat_natCast] at this ⊢
  rw [← Int.natCast_mul, ← Int.natCast_mul, ← Int.natCast_mul]
  congr 1
  rw [Nat.mul_comm, this]
  ac_rfl

theorem draw_samplerow {l : List Int} (hl : ∀ x ∈ l, (Lit.int .u8 x).wf = true) :
    Dr (fun k => spec_DrawSampleRow.f k l) (fun _ => True) := by
  unfold spec_DrawSampleRow.f
  refine Dr.bind (open_dr hl) fun b ⟨b0, b1, b2⟩ => ?_
  refine Dr.bind (sample_dr b1 b2 (by omega) (by omega)) fun r1 ⟨_, _⟩ => ?_
  exact Dr.now _ trivial

theorem alive_ok (f : Nat) (hf : 5 ≤ f) : laws_alive.f f = some true := by
  obtain ⟨f, rfl⟩ : ∃ g, f = g + 5 := ⟨f - 5, by omega⟩
  have h1 : impl_UrnOk.f (f + 5) [1] = some true := by
    simp [impl_UrnOk.f, impl_UrnOk.l0, impl_coloursOk.f, rd, wrap64]
  have h2 : impl_UrnOk.f (f + 5) [] = some false := by
    simp [impl_UrnOk.f, impl_UrnOk.l0, impl_coloursOk.f]
  unfold laws_alive.f
  rw [h1, h2]; rfl

theorem FnSampleMean : laws_FnSampleMean.Pure := by
  intro l _ _ hu
  obtain ⟨⟨t, m, p⟩, ⟨K, hK⟩, _⟩ := draw_samplerow hu
  have hd : spec_DrawSampleRow.f (K + 501) l = some (t, m, p) := hK _ (by omega)
  refine ⟨K + 501, ?_⟩
  unfold laws_FnSampleMean.f
  by_cases hlen : (l.length : Int) > 1048576
  · rw [if_pos hlen]
  rw [if_neg hlen, hd]; simp only [Option.bind_some]
  rw [impl_SampleRow_ok _ _ _ _ (by omega)]; simp only [Option.bind_some]
  by_cases ho : (sampleR t m p).2 = true
  · obtain ⟨hs, h8, hm, e⟩ := sampleR_ok ho
    have hs' := hs
    unfold sOk at hs'
    have hl := sampL_length t m p
    rw [e, if_pos rfl, impl_RowSums_ok _ _ (by show (sampL t m p).length ≤ _; omega) (by show (sampL t m p).length + 40 ≤ _; omega), alive_ok _ (by omega)]
    have b1 : 0 ≤ sumL (sampL t m p) ∧ sumL (sampL t m p) ≤ 900000 := sum_bd hm _ (by omega)
    have b2 : 0 ≤ wsumL (sampL t m p) ∧ wsumL (sampL t m p) ≤ 8100000 := wsum_bd hm _ (by omega)
    have er : sumsR (sampL t m p) = (sumL (sampL t m p), wsumL (sampL t m p), true) := by unfold sumsR; rw [if_pos hm]
    rw [er]
    simp only [Option.bind_some, if_true]
    have b3 := mul_bd (c := t) (C := 30) b2.1 b2.2 (by omega) (by omega)
    have b4 := mul_bd (c := m) (C := 30) b1.1 b1.2 (by omega) (by omega)
    have b5 := mul_bd (c := p) (C := 30) b4.1 b4.2 (by omega) (by omega)
    rw [wr (n := wsumL (sampL t m p) * t) (by omega) (by omega), wr (n := sumL (sampL t m p) * m) (by omega) (by omega), wr (n := sumL (sampL t m p) * m * p) (by omega) (by omega), samp_wsum t m p hs]
    simp
  · rw [sampleR_no ho, if_neg (by decide), alive_ok _ (by omega)]; rfl

end Go.Proofs.Ytncjjgfiddgckaa.Pure
