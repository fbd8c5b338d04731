/- FnSampleOk: for all arguments that the statement lets in, the law answers true. No condition of ours. -/
import Derived.Test.YthcemfpnppkepaaPFnSampleOkx1
namespace Go.Proofs.Ythcemfpnppkepaa.Pure
open Go.RowKit Go.Proofs.Ythcemfpnppkepaa.PFnSampleOk Go.Proofs.YthcemfpnppkepaaW.PrintWords Go.Proofs.YthcemfpnppkepaaW.PrintLast

theorem wr {n : Int} (h0 : -9223372036854775808 ≤ n) (h1 : n < 9223372036854775808) : wrap64 n = n := by unfold wrap64; omega
theorem wrap_lo (x : Int) : -9223372036854775808 ≤ wrap64 x := by unfold wrap64; omega
theorem wrap_hi (x : Int) : wrap64 x < 9223372036854775808 := by unfold wrap64; omega


theorem rd_byte {b : List Int} (hb : ∀ x ∈ b, 0 ≤ x ∧ x < 256) (i : Int) : 0 ≤ rd b i ∧ rd b i < 256 := by
  unfold rd
  rw [List.getD_eq_getElem?_getD]
  cases h : b[i.toNat]? with
  | none => simp
  | some x => exact hb x (List.mem_of_getElem? h)

theorem xor_nonneg {a c : Int} (ha : 0 ≤ a) (ha' : a < 4611686018427387904) (hc : 0 ≤ c) (hc' : c < 4611686018427387904) : 0 ≤ Go.bits .xor .i64 a c := by
  obtain ⟨a, rfl⟩ := Int.eq_ofNat_of_zero_le ha
  obtain ⟨c, rfl⟩ := Int.eq_ofNat_of_zero_le hc
  have ha2 : a < 2 ^ 62 := by omega
  have hc2 : c < 2 ^ 62 := by omega
  have hx := Nat.xor_lt_two_pow ha2 hc2
  have h1 : a % 2 ^ 64 = a := Nat.mod_eq_of_lt (by omega)
  have h2 : c % 2 ^ 64 = c := Nat.mod_eq_of_lt (by omega)
  have e : Go.bits .xor .i64 (a : Int) (c : Int) = wrap64 ((a ^^^ c : Nat) : Int) := by
    simp only [Go.bits, BitVec.ofInt_natCast, BitVec.toNat_xor, BitVec.toNat_ofNat]
    rw [show Go.IntKind.i64.bits = 64 from rfl, h1, h2, Go.IntKind.wrap_i64]
    unfold wrap64
    with_reducible rfl
  rw [e, wr (by omega) (by omega)]
  omega

theorem tmod_lt {x n : Int} (hx : 0 ≤ x) (hn : 1 ≤ n) : 0 ≤ Int.tmod x n ∧ Int.tmod x n < n :=
  ⟨Int.tmod_nonneg n hx, Int.tmod_lt_of_pos x (by omega)⟩

theorem tdiv_le (x n : Int) (hx : 0 ≤ x) : Int.tdiv x n ≤ x := by
  by_cases hn : n = 0
  · subst hn; simp; omega
  by_cases h : 0 ≤ n
  · rw [Int.tdiv_eq_ediv_of_nonneg hx]; exact Int.ediv_le_self n hx
  · have : Int.tdiv x n ≤ 0 := Int.tdiv_nonpos_of_nonneg_of_nonpos hx (by omega)
    omega

theorem pick_ok {b : List Int} (hb : ∀ x ∈ b, 0 ≤ x ∧ x < 256) (hl : b.length ≤ 2000) {p : Int} (n : Int) (hp0 : 0 ≤ p) (hp1 : p < 1000000000) :
    ∃ v, (∀ k, 1 ≤ k → spec_l20Rd_pick.f k b p n = some (v, p + 1)) ∧ 0 ≤ v ∧ (v = 0 ∨ v < n) := by
  have e0 : wrap64 (p + 1) = p + 1 := wr (by omega) (by omega)
  have e1 : wrap64 (p + 1 - 1) = p := by rw [wr (by omega) (by omega)]; omega
  by_cases hn : n < 1
  · refine ⟨0, fun k hk => ?_, Int.le_refl _, .inl rfl⟩
    obtain ⟨k, rfl⟩ : ∃ m, k = m + 1 := ⟨k - 1, by omega⟩
    unfold spec_l20Rd_pick.f; rw [if_pos hn, e0]; simp only [spec_l20Rd_pick.j0, if_true]
  by_cases hz : (b.length : Int) = 0
  · refine ⟨0, fun k hk => ?_, Int.le_refl _, .inl rfl⟩
    obtain ⟨k, rfl⟩ : ∃ m, k = m + 1 := ⟨k - 1, by omega⟩
    unfold spec_l20Rd_pick.f; rw [if_neg hn, e0, hz]; simp only [spec_l20Rd_pick.j0, beq_self_eq_true, if_true]
  have hz' : ((b.length : Int) == 0) = false := by simpa using hz
  by_cases hp : p < (b.length : Int)
  · have hr := rd_byte hb p
    have ew : wrap64 (rd b p) = rd b p := wr (by omega) (by omega)
    have hm := tmod_lt (n := n) hr.1 (by omega)
    refine ⟨Int.tmod (rd b p) n, fun k hk => ?_, hm.1, .inr hm.2⟩
    obtain ⟨k, rfl⟩ : ∃ m, k = m + 1 := ⟨k - 1, by omega⟩
    unfold spec_l20Rd_pick.f; rw [if_neg hn, e0, hz']; simp only [spec_l20Rd_pick.j0]; rw [e1, if_neg (by decide), if_pos hp, if_pos hp0, if_neg (by omega), ew]
  · have hL : (1 : Int) ≤ b.length := by omega
    have m1 := tmod_lt (n := (b.length : Int)) hp0 hL
    have e7 : wrap64 (p * 7) = p * 7 := wr (by omega) (by omega)
    have e73 : wrap64 (p * 7 + 3) = p * 7 + 3 := wr (by omega) (by omega)
    have m2 := tmod_lt (x := p * 7 + 3) (n := (b.length : Int)) (by omega) hL
    have r1 := rd_byte hb (Int.tmod p (b.length : Int))
    have r2 := rd_byte hb (Int.tmod (p * 7 + 3) (b.length : Int))
    have d0 : 0 ≤ Int.tdiv p (b.length : Int) := Int.tdiv_nonneg hp0 (by omega)
    have d1 : Int.tdiv p (b.length : Int) ≤ p := tdiv_le p _ hp0
    have ex : ∃ v, (∀ k, spec_l20Rd_pick.j0 (k + 1) n false b (p + 1) = some (v, p + 1)) ∧ 0 ≤ v ∧ (v = 0 ∨ v < n) := by
      simp only [spec_l20Rd_pick.j0]
      rw [e1, if_neg (by decide), if_neg hp, if_neg hz, if_pos m1.1, if_pos m1.2, e7, e73, if_pos m2.1, if_pos m2.2, if_neg (show ¬ n = 0 by omega)]
      generalize rd b (Int.tmod p (b.length : Int)) = x1 at r1
      generalize rd b (Int.tmod (p * 7 + 3) (b.length : Int)) = x2 at r2
      generalize Int.tdiv p (b.length : Int) = q at d0 d1
      rw [wr (n := x1) (by omega) (by omega), wr (n := x2) (by omega) (by omega), wr (n := x1 * 131) (by omega) (by omega), wr (n := x2 * 1117) (by omega) (by omega),
        wr (n := x1 * 131 + x2 * 1117) (by omega) (by omega), wr (n := p * 29) (by omega) (by omega), wr (n := x1 * 131 + x2 * 1117 + p * 29) (by omega) (by omega),
        wr (n := q) (by omega) (by omega), wr (n := q * 53) (by omega) (by omega), wr (n := x1 * 131 + x2 * 1117 + p * 29 + q * 53) (by omega) (by omega)]
      have hX : 0 ≤ x1 * 131 + x2 * 1117 + p * 29 + q * 53 := by omega
      have hX' : x1 * 131 + x2 * 1117 + p * 29 + q * 53 < 4611686018427387904 := by omega
      generalize x1 * 131 + x2 * 1117 + p * 29 + q * 53 = X at hX hX'
      have q0 : 0 ≤ Int.tdiv X 64 := Int.tdiv_nonneg hX (by omega)
      have q1 : Int.tdiv X 64 ≤ X := tdiv_le X 64 hX
      rw [wr (n := Int.tdiv X 64) (by omega) (by omega)]
      have hm := tmod_lt (n := n) (xor_nonneg hX hX' q0 (by omega)) (by omega)
      exact ⟨_, fun _ => rfl, hm.1, .inr hm.2⟩
    obtain ⟨v, hv, h0, h1⟩ := ex
    refine ⟨v, fun k hk => ?_, h0, h1⟩
    obtain ⟨k, rfl⟩ : ∃ m, k = m + 1 := ⟨k - 1, by omega⟩
    unfold spec_l20Rd_pick.f; rw [if_neg hn, e0, hz', hv]

theorem open_ok {l : List Int} (hl : ∀ x ∈ l, (Lit.int .u8 x).wf = true) :
    ∃ b, spec_l20Open.f l = some (b, 0) ∧ (∀ x ∈ b, 0 ≤ x ∧ x < 256) ∧ b.length ≤ 2000 := by
  have hl' : ∀ x ∈ l, 0 ≤ x ∧ x < 256 := fun x hx => by
    have := hl x hx
    simp [Lit.wf, Go.IntKind.min, Go.IntKind.max, Go.IntKind.bits, Go.IntKind.signed] at this
    omega
  unfold spec_l20Open.f
  by_cases h : (l.length : Int) > 2000
  · rw [if_pos h, if_pos (by omega)]
    exact ⟨_, rfl, fun x hx => hl' x (List.mem_of_mem_take hx), by simp; omega⟩
  · rw [if_neg h]
    exact ⟨_, rfl, hl', by omega⟩

/-- one number drawn: what it is, and where the reader stands behind it -/
theorem pick_one {b : List Int} (hb : ∀ x ∈ b, 0 ≤ x ∧ x < 256) (hl : b.length ≤ 2000) {p : Int} (n : Int) (hp0 : 0 ≤ p) (hp1 : p < 1000000000) :
    ∃ v q, (∀ k, 1 ≤ k → spec_l20Rd_pick.f k b p n = some (v, q)) ∧ 0 ≤ v ∧ (v = 0 ∨ v < n) ∧ 0 ≤ q ∧ q ≤ p + 1 := by
  obtain ⟨v, h, h0, h1⟩ := pick_ok hb hl n hp0 hp1
  exact ⟨v, p + 1, h, h0, h1, by omega, by omega⟩

/-- from some number of rounds on it tells r, and Q r -/
def Dr {α : Type} (g : Nat → Option α) (Q : α → Prop) : Prop := ∃ r, (∃ K, ∀ k, K ≤ k → g k = some r) ∧ Q r

theorem Dr.now {α : Type} {Q : α → Prop} (r : α) (h : Q r) : Dr (fun _ => some r) Q := ⟨r, ⟨0, fun _ _ => rfl⟩, h⟩
theorem Dr.const {α : Type} {Q : α → Prop} {g : Option α} {r : α} (e : g = some r) (h : Q r) : Dr (fun _ => g) Q := ⟨r, ⟨0, fun _ _ => e⟩, h⟩
theorem Dr.bind {α β : Type} {g : Nat → Option α} {f : Nat → α → Option β} {P : α → Prop} {Q : β → Prop} (h : Dr g P) (k : ∀ a, P a → Dr (fun n => f n a) Q) : Dr (fun n => (g n).bind (f n)) Q := by
  obtain ⟨a, ⟨K, hK⟩, hP⟩ := h
  obtain ⟨r, ⟨L, hL⟩, hQ⟩ := k a hP
  exact ⟨r, ⟨K + L, fun n hn => by show (g n).bind (f n) = _; rw [hK n (by omega)]; exact hL n (by omega)⟩, hQ⟩
theorem Dr.step {α : Type} {g f : Nat → Option α} {Q : α → Prop} (h : ∀ k, g (k + 1) = f k) (d : Dr f Q) : Dr g Q := by
  obtain ⟨r, ⟨K, hK⟩, hQ⟩ := d
  refine ⟨r, ⟨K + 1, fun n hn => ?_⟩, hQ⟩
  obtain ⟨n, rfl⟩ : ∃ m, n = m + 1 := ⟨n - 1, by omega⟩
  rw [h]; exact hK n (by omega)
theorem Dr.congr {α : Type} {g f : Nat → Option α} {Q : α → Prop} (h : ∀ k, g k = f k) (d : Dr f Q) : Dr g Q := by
  obtain ⟨r, ⟨K, hK⟩, hQ⟩ := d
  exact ⟨r, ⟨K, fun n hn => by rw [h]; exact hK n hn⟩, hQ⟩
theorem Dr.ifp {α : Type} {c : Prop} [Decidable c] {g f : Nat → Option α} {Q : α → Prop} (h : c) (d : Dr g Q) : Dr (fun k => if c then g k else f k) Q := by
  simp only [if_pos h]; exact d
theorem Dr.ifn {α : Type} {c : Prop} [Decidable c] {g f : Nat → Option α} {Q : α → Prop} (h : ¬ c) (d : Dr f Q) : Dr (fun k => if c then g k else f k) Q := by
  simp only [if_neg h]; exact d
theorem Dr.mono {α : Type} {g : Nat → Option α} {P Q : α → Prop} (h : ∀ r, P r → Q r) (d : Dr g P) : Dr g Q := by
  obtain ⟨r, hr, hP⟩ := d
  exact ⟨r, hr, h r hP⟩

theorem pick_dr {b : List Int} (hb : ∀ x ∈ b, 0 ≤ x ∧ x < 256) (hl : b.length ≤ 2000) {p : Int} (n : Int) (hp0 : 0 ≤ p) (hp1 : p < 1000000000) :
    Dr (fun k => spec_l20Rd_pick.f k b p n) (fun r => 0 ≤ r.1 ∧ (r.1 = 0 ∨ r.1 < n) ∧ 0 ≤ r.2 ∧ r.2 ≤ p + 1) := by
  obtain ⟨v, q, h, h0, h1, h2, h3⟩ := pick_one hb hl n hp0 hp1
  exact ⟨(v, q), ⟨1, h⟩, h0, h1, h2, h3⟩

theorem open_dr {l : List Int} (hl : ∀ x ∈ l, (Lit.int .u8 x).wf = true) :
    Dr (fun _ => spec_l20Open.f l) (fun r => r.2 = 0 ∧ (∀ x ∈ r.1, 0 ≤ x ∧ x < 256) ∧ r.1.length ≤ 2000) := by
  obtain ⟨b, h, h1, h2⟩ := open_ok hl
  exact Dr.const h ⟨rfl, h1, h2⟩

def sOk (t m p : Int) : Prop := 0 ≤ t ∧ t ≤ 30 ∧ 0 ≤ m ∧ m ≤ t ∧ 0 ≤ p ∧ p ≤ t

instance (t m p : Int) : Decidable (sOk t m p) := by unfold sOk; infer_instance

theorem l1In_ok (a b c : Int) : spec_l1In.f a b c = some (decide (b ≤ a ∧ a ≤ c)) := by
  unfold spec_l1In.f
  by_cases h : a ≥ b
  · rw [if_pos h]; simp [h]
  · rw [if_neg h]; simp; omega

theorem impl_SampleOk_ok (t m p : Int) : impl_SampleOk.f t m p = some (decide (sOk t m p)) := by
  unfold impl_SampleOk.f sOk
  by_cases h1 : t ≥ 0 <;> by_cases h2 : t ≤ 30 <;> by_cases h3 : m ≥ 0 <;> by_cases h4 : m ≤ t <;> by_cases h5 : p ≥ 0 <;> simp [h1, h2, h3, h4, h5]

theorem spec_SampleOk_ok (t m p : Int) : spec_SampleOk.f t m p = some (decide (sOk t m p)) := by
  unfold spec_SampleOk.f
  simp only [l1In_ok, Option.bind_some]
  by_cases h1 : 0 ≤ t ∧ t ≤ 30
  · rw [if_pos (decide_eq_true h1)]
    by_cases h2 : 0 ≤ m ∧ m ≤ t
    · rw [if_pos (decide_eq_true h2)]
      congr 1; apply decide_eq_decide.2; unfold sOk; omega
    · rw [decide_eq_false h2, if_neg (by decide), decide_eq_false (show ¬ sOk t m p by unfold sOk; omega)]
  · rw [decide_eq_false h1, if_neg (by decide), decide_eq_false (show ¬ sOk t m p by unfold sOk; omega)]

theorem draw_sample {l : List Int} (hl : ∀ x ∈ l, (Lit.int .u8 x).wf = true) :
    Dr (fun k => spec_DrawSampleOk.f k l) (fun _ => True) := by
  unfold spec_DrawSampleOk.f
  refine Dr.bind (open_dr hl) fun b ⟨b0, b1, b2⟩ => ?_
  refine Dr.bind (pick_dr b1 b2 33 (by omega) (by omega)) fun r1 ⟨_, _, _, _⟩ => ?_
  refine Dr.bind (pick_dr b1 b2 12 (by omega) (by omega)) fun r2 ⟨_, _, _, _⟩ => ?_
  refine Dr.bind (pick_dr b1 b2 20 (by omega) (by omega)) fun r3 ⟨_, _, _, _⟩ => ?_
  refine Dr.bind (pick_dr b1 b2 12 (by omega) (by omega)) fun r4 ⟨_, _, _, _⟩ => ?_
  exact Dr.now _ trivial

theorem FnSampleOk : laws_FnSampleOk.Pure := by
  intro l _ _ hl
  obtain ⟨⟨t, m, p⟩, ⟨K, hK⟩, _⟩ := draw_sample hl
  have hd : spec_DrawSampleOk.f K l = some (t, m, p) := hK _ (by omega)
  refine ⟨K, ?_⟩
  unfold laws_FnSampleOk.f
  by_cases hlen : (l.length : Int) > 1048576
  · rw [if_pos hlen]
  rw [if_neg hlen, hd]
  have e1 : decide (sOk t p m) = decide (sOk t m p) := by
    apply decide_eq_decide.2; unfold sOk; omega
  have e2 : decide (sOk 0 0 0) = true := by decide
  have e3 : decide (sOk (-1) 0 0) = false := by decide
  simp only [Option.bind_some, impl_SampleOk_ok, spec_SampleOk_ok, e1, e2, e3]
  by_cases h : sOk t m p
  · have e4 : decide (sOk t 0 p) = true := decide_eq_true (by unfold sOk at h ⊢; omega)
    simp [h, e4]
  · simp [h]

end Go.Proofs.Ythcemfpnppkepaa.Pure
