/- FnReadTerm: for all arguments that the statement lets in, the law answers true. No condition of ours. -/
import Derived.Test.YtpnloocdeljmhaaOFnReadTermx10
import Derived.Laws.Strings
namespace Go.Proofs.Ytpnloocdeljmhaa.Pure
open Go.RowKit Go.Proofs.Ytpnloocdeljmhaa.PFnReadTerm Go.Proofs.YtpnloocdeljmhaaW.PrintWords Go.Proofs.YtpnloocdeljmhaaW.PrintLast

theorem wr {n : Int} (h0 : -9223372036854775808 ≤ n) (h1 : n < 9223372036854775808) : wrap64 n = n := by unfold wrap64; omega
theorem wrap_lo (x : Int) : -9223372036854775808 ≤ wrap64 x := by unfold wrap64; omega
theorem wrap_hi (x : Int) : wrap64 x < 9223372036854775808 := by unfold wrap64; omega


theorem rd_byte {b : List Int} (hb : ∀ x ∈ b, 0 ≤ x ∧ x < 256) (i : Int) : 0 ≤ rd b i ∧ rd b i < 256 := by
  unfold rd
  rw [List.getD_eq_getElem?_getD]
  cases h : b[i.toNat]? with
  | none => simp
  | some x => exact hb x (List.mem_of_getElem? h)

theorem xor_nonneg {a c : Int} (ha : 0 ≤ a) (ha' : a < 4611686018427387904) (hc : 0 ≤ c) (hc' : c < 4611686018427387904) : 0 ≤ Go.bits .xor .i64 a c := by
  obtain ⟨a, rfl⟩ := Int.eq_ofNat_of_zero_le ha
  obtain ⟨c, rfl⟩ := Int.eq_ofNat_of_zero_le hc
  have ha2 : a < 2 ^ 62 := by omega
  have hc2 : c < 2 ^ 62 := by omega
  have hx := Nat.xor_lt_two_pow ha2 hc2
  have h1 : a % 2 ^ 64 = a := Nat.mod_eq_of_lt (by omega)
  have h2 : c % 2 ^ 64 = c := Nat.mod_eq_of_lt (by omega)
  have e : Go.bits .xor .i64 (a : Int) (c : Int) = wrap64 ((a ^^^ c : Nat) : Int) := by
    simp only [Go.bits, BitVec.ofInt_natCast, BitVec.toNat_xor, BitVec.toNat_ofNat]
    rw [show Go.IntKind.i64.bits = 64 from rfl, h1, h2, Go.IntKind.wrap_i64]
    unfold wrap64
    with_reducible rfl
  rw [e, wr (by omega) (by omega)]
  omega

theorem tmod_lt {x n : Int} (hx : 0 ≤ x) (hn : 1 ≤ n) : 0 ≤ Int.tmod x n ∧ Int.tmod x n < n :=
  ⟨Int.tmod_nonneg n hx, Int.tmod_lt_of_pos x (by omega)⟩

theorem tdiv_le (x n : Int) (hx : 0 ≤ x) : Int.tdiv x n ≤ x := by
  by_cases hn : n = 0
  · subst hn; simp; omega
  by_cases h : 0 ≤ n
  · rw [Int.tdiv_eq_ediv_of_nonneg hx]; exact Int.ediv_le_self n hx
  · have : Int.tdiv x n ≤ 0 := Int.tdiv_nonpos_of_nonneg_of_nonpos hx (by omega)
    omega

theorem pick_ok {b : List Int} (hb : ∀ x ∈ b, 0 ≤ x ∧ x < 256) (hl : b.length ≤ 2000) {p : Int} (n : Int) (hp0 : 0 ≤ p) (hp1 : p < 1000000000) :
    ∃ v, (∀ k, 1 ≤ k → spec_l20Rd_pick.f k b p n = some (v, p + 1)) ∧ 0 ≤ v ∧ (v = 0 ∨ v < n) := by
  have e0 : wrap64 (p + 1) = p + 1 := wr (by omega) (by omega)
  have e1 : wrap64 (p + 1 - 1) = p := by rw [wr (by omega) (by omega)]; omega
  by_cases hn : n < 1
  · refine ⟨0, fun k hk => ?_, Int.le_refl _, .inl rfl⟩
    obtain ⟨k, rfl⟩ : ∃ m, k = m + 1 := ⟨k - 1, by omega⟩
    unfold spec_l20Rd_pick.f; rw [if_pos hn, e0]; simp only [spec_l20Rd_pick.j0, if_true]
  by_cases hz : (b.length : Int) = 0
  · refine ⟨0, fun k hk => ?_, Int.le_refl _, .inl rfl⟩
    obtain ⟨k, rfl⟩ : ∃ m, k = m + 1 := ⟨k - 1, by omega⟩
    unfold spec_l20Rd_pick.f; rw [if_neg hn, e0, hz]; simp only [spec_l20Rd_pick.j0, beq_self_eq_true, if_true]
  have hz' : ((b.length : Int) == 0) = false := by simpa using hz
  by_cases hp : p < (b.length : Int)
  · have hr := rd_byte hb p
    have ew : wrap64 (rd b p) = rd b p := wr (by omega) (by omega)
    have hm := tmod_lt (n := n) hr.1 (by omega)
    refine ⟨Int.tmod (rd b p) n, fun k hk => ?_, hm.1, .inr hm.2⟩
    obtain ⟨k, rfl⟩ : ∃ m, k = m + 1 := ⟨k - 1, by omega⟩
    unfold spec_l20Rd_pick.f; rw [if_neg hn, e0, hz']; simp only [spec_l20Rd_pick.j0]; rw [e1, if_neg (by decide), if_pos hp, if_pos hp0, if_neg (by omega), ew]
  · have hL : (1 : Int) ≤ b.length := by omega
    have m1 := tmod_lt (n := (b.length : Int)) hp0 hL
    have e7 : wrap64 (p * 7) = p * 7 := wr (by omega) (by omega)
    have e73 : wrap64 (p * 7 + 3) = p * 7 + 3 := wr (by omega) (by omega)
    have m2 := tmod_lt (x := p * 7 + 3) (n := (b.length : Int)) (by omega) hL
    have r1 := rd_byte hb (Int.tmod p (b.length : Int))
    have r2 := rd_byte hb (Int.tmod (p * 7 + 3) (b.length : Int))
    have d0 : 0 ≤ Int.tdiv p (b.length : Int) := Int.tdiv_nonneg hp0 (by omega)
    have d1 : Int.tdiv p (b.length : Int) ≤ p := tdiv_le p _ hp0
    have ex : ∃ v, (∀ k, spec_l20Rd_pick.j0 (k + 1) n false b (p + 1) = some (v, p + 1)) ∧ 0 ≤ v ∧ (v = 0 ∨ v < n) := by
      simp only [spec_l20Rd_pick.j0]
      rw [e1, if_neg (by decide), if_neg hp, if_neg hz, if_pos m1.1, if_pos m1.2, e7, e73, if_pos m2.1, if_pos m2.2, if_neg (show ¬ n = 0 by omega)]
      generalize rd b (Int.tmod p (b.length : Int)) = x1 at r1
      generalize rd b (Int.tmod (p * 7 + 3) (b.length : Int)) = x2 at r2
      generalize Int.tdiv p (b.length : Int) = q at d0 d1
      rw [wr (n := x1) (by omega) (by omega), wr (n := x2) (by omega) (by omega), wr (n := x1 * 131) (by omega) (by omega), wr (n := x2 * 1117) (by omega) (by omega),
        wr (n := x1 * 131 + x2 * 1117) (by omega) (by omega), wr (n := p * 29) (by omega) (by omega), wr (n := x1 * 131 + x2 * 1117 + p * 29) (by omega) (by omega),
        wr (n := q) (by omega) (by omega), wr (n := q * 53) (by omega) (by omega), wr (n := x1 * 131 + x2 * 1117 + p * 29 + q * 53) (by omega) (by omega)]
      have hX : 0 ≤ x1 * 131 + x2 * 1117 + p * 29 + q * 53 := by omega
      have hX' : x1 * 131 + x2 * 1117 + p * 29 + q * 53 < 4611686018427387904 := by omega
      generalize x1 * 131 + x2 * 1117 + p * 29 + q * 53 = X at hX hX'
      have q0 : 0 ≤ Int.tdiv X 64 := Int.tdiv_nonneg hX (by omega)
      have q1 : Int.tdiv X 64 ≤ X := tdiv_le X 64 hX
      rw [wr (n := Int.tdiv X 64) (by omega) (by omega)]
      have hm := tmod_lt (n := n) (xor_nonneg hX hX' q0 (by omega)) (by omega)
      exact ⟨_, fun _ => rfl, hm.1, .inr hm.2⟩
    obtain ⟨v, hv, h0, h1⟩ := ex
    refine ⟨v, fun k hk => ?_, h0, h1⟩
    obtain ⟨k, rfl⟩ : ∃ m, k = m + 1 := ⟨k - 1, by omega⟩
    unfold spec_l20Rd_pick.f; rw [if_neg hn, e0, hz', hv]

theorem open_ok {l : List Int} (hl : ∀ x ∈ l, (Lit.int .u8 x).wf = true) :
    ∃ b, spec_l20Open.f l = some (b, 0) ∧ (∀ x ∈ b, 0 ≤ x ∧ x < 256) ∧ b.length ≤ 2000 := by
  have hl' : ∀ x ∈ l, 0 ≤ x ∧ x < 256 := fun x hx => by
    have := hl x hx
    simp [Lit.wf, Go.IntKind.min, Go.IntKind.max, Go.IntKind.bits, Go.IntKind.signed] at this
    omega
  unfold spec_l20Open.f
  by_cases h : (l.length : Int) > 2000
  · rw [if_pos h, if_pos (by omega)]
    exact ⟨_, rfl, fun x hx => hl' x (List.mem_of_mem_take hx), by simp; omega⟩
  · rw [if_neg h]
    exact ⟨_, rfl, hl', by omega⟩

/-- one number drawn: what it is, and where the reader stands behind it -/
theorem pick_one {b : List Int} (hb : ∀ x ∈ b, 0 ≤ x ∧ x < 256) (hl : b.length ≤ 2000) {p : Int} (n : Int) (hp0 : 0 ≤ p) (hp1 : p < 1000000000) :
    ∃ v q, (∀ k, 1 ≤ k → spec_l20Rd_pick.f k b p n = some (v, q)) ∧ 0 ≤ v ∧ (v = 0 ∨ v < n) ∧ 0 ≤ q ∧ q ≤ p + 1 := by
  obtain ⟨v, h, h0, h1⟩ := pick_ok hb hl n hp0 hp1
  exact ⟨v, p + 1, h, h0, h1, by omega, by omega⟩

/-- from some number of rounds on it tells r, and Q r -/
def Dr {α : Type} (g : Nat → Option α) (Q : α → Prop) : Prop := ∃ r, (∃ K, ∀ k, K ≤ k → g k = some r) ∧ Q r

theorem Dr.now {α : Type} {Q : α → Prop} (r : α) (h : Q r) : Dr (fun _ => some r) Q := ⟨r, ⟨0, fun _ _ => rfl⟩, h⟩
theorem Dr.const {α : Type} {Q : α → Prop} {g : Option α} {r : α} (e : g = some r) (h : Q r) : Dr (fun _ => g) Q := ⟨r, ⟨0, fun _ _ => e⟩, h⟩
theorem Dr.bind {α β : Type} {g : Nat → Option α} {f : Nat → α → Option β} {P : α → Prop} {Q : β → Prop} (h : Dr g P) (k : ∀ a, P a → Dr (fun n => f n a) Q) : Dr (fun n => (g n).bind (f n)) Q := by
  obtain ⟨a, ⟨K, hK⟩, hP⟩ := h
  obtain ⟨r, ⟨L, hL⟩, hQ⟩ := k a hP
  exact ⟨r, ⟨K + L, fun n hn => by show (g n).bind (f n) = _; rw [hK n (by omega)]; exact hL n (by omega)⟩, hQ⟩
theorem Dr.step {α : Type} {g f : Nat → Option α} {Q : α → Prop} (h : ∀ k, g (k + 1) = f k) (d : Dr f Q) : Dr g Q := by
  obtain ⟨r, ⟨K, hK⟩, hQ⟩ := d
  refine ⟨r, ⟨K + 1, fun n hn => ?_⟩, hQ⟩
  obtain ⟨n, rfl⟩ : ∃ m, n = m + 1 := ⟨n - 1, by omega⟩
  rw [h]; exact hK n (by omega)
theorem Dr.congr {α : Type} {g f : Nat → Option α} {Q : α → Prop} (h : ∀ k, g k = f k) (d : Dr f Q) : Dr g Q := by
  obtain ⟨r, ⟨K, hK⟩, hQ⟩ := d
  exact ⟨r, ⟨K, fun n hn => by rw [h]; exact hK n hn⟩, hQ⟩
theorem Dr.ifp {α : Type} {c : Prop} [Decidable c] {g f : Nat → Option α} {Q : α → Prop} (h : c) (d : Dr g Q) : Dr (fun k => if c then g k else f k) Q := by
  simp only [if_pos h]; exact d
theorem Dr.ifn {α : Type} {c : Prop} [Decidable c] {g f : Nat → Option α} {Q : α → Prop} (h : ¬ c) (d : Dr f Q) : Dr (fun k => if c then g k else f k) Q := by
  simp only [if_neg h]; exact d
theorem Dr.mono {α : Type} {g : Nat → Option α} {P Q : α → Prop} (h : ∀ r, P r → Q r) (d : Dr g P) : Dr g Q := by
  obtain ⟨r, hr, hP⟩ := d
  exact ⟨r, hr, h r hP⟩

theorem pick_dr {b : List Int} (hb : ∀ x ∈ b, 0 ≤ x ∧ x < 256) (hl : b.length ≤ 2000) {p : Int} (n : Int) (hp0 : 0 ≤ p) (hp1 : p < 1000000000) :
    Dr (fun k => spec_l20Rd_pick.f k b p n) (fun r => 0 ≤ r.1 ∧ (r.1 = 0 ∨ r.1 < n) ∧ 0 ≤ r.2 ∧ r.2 ≤ p + 1) := by
  obtain ⟨v, q, h, h0, h1, h2, h3⟩ := pick_one hb hl n hp0 hp1
  exact ⟨(v, q), ⟨1, h⟩, h0, h1, h2, h3⟩

theorem open_dr {l : List Int} (hl : ∀ x ∈ l, (Lit.int .u8 x).wf = true) :
    Dr (fun _ => spec_l20Open.f l) (fun r => r.2 = 0 ∧ (∀ x ∈ r.1, 0 ≤ x ∧ x < 256) ∧ r.1.length ≤ 2000) := by
  obtain ⟨b, h, h1, h2⟩ := open_ok hl
  exact Dr.const h ⟨rfl, h1, h2⟩

theorem Dr.up {α : Type} {g : Nat → Option α} {Q : α → Prop} (d : Dr (fun k => g (k + 1)) Q) : Dr g Q := Dr.step (fun _ => rfl) d

theorem odd_dr {b : List Int} (hb : ∀ x ∈ b, 0 ≤ x ∧ x < 256) (hl : b.length ≤ 2000) {p : Int} (n : Int) (hp0 : 0 ≤ p) (hp1 : p < 1000000000) :
    Dr (fun k => spec_l20Rd_odd.f k b p n) (fun r => 0 ≤ r.2 ∧ r.2 ≤ p + 1) := by
  unfold spec_l20Rd_odd.f
  by_cases h : n > 0
  · refine Dr.ifp h ?_
    refine Dr.bind (pick_dr hb hl n hp0 hp1) fun r ⟨_, _, _, _⟩ => ?_
    exact Dr.now _ ⟨by omega, by omega⟩
  · refine Dr.ifn h ?_
    exact Dr.now _ ⟨hp0, by omega⟩

def PartGood (b : List Int) (a1 d : Int) (u v n : Nat) : Prop := ∀ p : Int, 0 ≤ p → p + 100 * n + 1000 * d < 1000000 →
  Dr (fun k => spec_l20Part.f k b p a1 (n : Int) d) (fun r => r.1.length + 1 ≤ u * n ∧ 0 ≤ r.2 ∧ r.2 + 2 ≤ p + ((v * n : Nat) : Int))

theorem part_step {b : List Int} (hb : ∀ x ∈ b, 0 ≤ x ∧ x < 256) (hl : b.length ≤ 2000) (a1 d : Int) (u v n : Nat) (hd : (d = 0 ∧ u = 2 ∧ v = 4) ∨ (d = 1 ∧ u = 4 ∧ v = 12)) (hn1 : 1 ≤ n) (hn : n ≤ 3)
    (hA : ∀ i, 1 ≤ i → i < n → PartGood b a1 d u v i) (hB : ∀ i, 1 ≤ i → i ≤ n → (i < n ∨ d = 1) → PartGood b a1 0 2 4 i) : PartGood b a1 d u v n := by
  intro p hp0 hp1
  have hv : v * n ≤ 36 := by
    have : v ≤ 12 := by omega
    exact Nat.le_trans (Nat.mul_le_mul this hn) (by decide)
  refine Dr.up ?_
  simp only [spec_l20Part.f]
  -- leaf or an or, one pick behind
  have two : ∀ q : Int, 0 ≤ q → q ≤ p + 2 → (d = 0 → q ≤ p + 1) → (d = 0 → n = 1 → q = p) → ∀ x : Bool, (x = true → d = 1) → Dr (fun k => spec_l20Part.j1 k a1 (n : Int) d x b q) (fun r => r.1.length + 1 ≤ u * n ∧ 0 ≤ r.2 ∧ r.2 + 2 ≤ p + ((v * n : Nat) : Int)) := by
    intro q hq0 hq1 hq2 hq3 x hx
    refine Dr.up ?_
    simp only [spec_l20Part.j1]
    cases x with
    | true =>
      obtain rfl := hx rfl
      obtain ⟨rfl, rfl⟩ : u = 4 ∧ v = 12 := by omega
      refine Dr.ifp rfl ?_
      rw [wr (n := (1 : Int) - 1) (by omega) (by omega)]
      refine Dr.bind (hB n hn1 (Nat.le_refl _) (.inr rfl) q hq0 (by omega)) fun r1 ⟨g1, g2, g3⟩ => ?_
      refine Dr.bind (hB n hn1 (Nat.le_refl _) (.inr rfl) r1.2 g2 (by omega)) fun r2 ⟨g4, g5, g6⟩ => ?_
      refine Dr.ifp (by omega) ?_
      simp only [Option.bind_some]
      refine Dr.ifp (by simp; omega) ?_
      exact Dr.now _ ⟨by simp; omega, g5, by show r2.2 + 2 ≤ _; omega⟩
    | false =>
      refine Dr.ifn (by decide) ?_
      by_cases h1 : n = 1
      · subst h1
        refine Dr.ifp rfl ?_
        refine Dr.bind (pick_dr hb hl 4 hq0 (by omega)) fun r1 ⟨_, _, _, _⟩ => ?_
        by_cases h : r1.1 = 0
        · refine Dr.ifp h ?_
          exact Dr.now _ ⟨by simp; omega, by show 0 ≤ r1.2; omega, by show r1.2 + 2 ≤ _; rcases hd with ⟨rfl, rfl, rfl⟩ | ⟨rfl, rfl, rfl⟩ <;> omega⟩
        · refine Dr.ifn h ?_
          refine Dr.bind (pick_dr hb hl _ (by omega) (by omega)) fun r2 ⟨_, _, _, _⟩ => ?_
          exact Dr.now _ ⟨by simp; omega, by show 0 ≤ r2.2; omega, by show r2.2 + 2 ≤ _; rcases hd with ⟨rfl, rfl, rfl⟩ | ⟨rfl, rfl, rfl⟩ <;> omega⟩
      · refine Dr.ifn (by omega) ?_
        rw [wr (n := (n : Int) - 1) (by omega) (by omega)]
        refine Dr.bind (pick_dr hb hl _ hq0 (by omega)) fun r0 ⟨_, _, _, _⟩ => ?_
        rw [wr (n := 1 + r0.1) (by omega) (by omega), wr (n := (n : Int) - (1 + r0.1)) (by omega) (by omega)]
        obtain ⟨i, hi⟩ := Int.eq_ofNat_of_zero_le (show 0 ≤ 1 + r0.1 by omega)
        rw [hi, show (n : Int) - (i : Int) = ((n - i : Nat) : Int) by omega]
        have e : u * n = u * i + u * (n - i) := by rw [← Nat.mul_add]; congr 1; omega
        have e' : v * n = v * i + v * (n - i) := by rw [← Nat.mul_add]; congr 1; omega
        refine Dr.bind (hB i (by omega) (by omega) (.inl (by omega)) r0.2 (by omega) (by rcases hd with ⟨rfl, rfl, rfl⟩ | ⟨rfl, rfl, rfl⟩ <;> omega)) fun r1 ⟨g1, g2, g3⟩ => ?_
        refine Dr.bind (hB (n - i) (by omega) (by omega) (.inl (by omega)) r1.2 g2 (by rcases hd with ⟨rfl, rfl, rfl⟩ | ⟨rfl, rfl, rfl⟩ <;> omega)) fun r2 ⟨g4, g5, g6⟩ => ?_
        refine Dr.ifp (by omega) ?_
        simp only [Option.bind_some]
        refine Dr.ifp (by simp; omega) ?_
        have m1 : 2 * i ≤ u * i := Nat.mul_le_mul (by omega) (Nat.le_refl _)
        have m2 : 2 * (n - i) ≤ u * (n - i) := Nat.mul_le_mul (by omega) (Nat.le_refl _)
        have m3 : 4 * i ≤ v * i := Nat.mul_le_mul (by omega) (Nat.le_refl _)
        have m4 : 4 * (n - i) ≤ v * (n - i) := Nat.mul_le_mul (by omega) (Nat.le_refl _)
        exact Dr.now _ ⟨by simp; omega, g5, by show r2.2 + 2 ≤ _; rcases hd with ⟨rfl, rfl, rfl⟩ | ⟨rfl, rfl, rfl⟩ <;> omega⟩
  have one : ∀ q : Int, 0 ≤ q → q ≤ p + 1 → (n = 1 → q = p) → ∀ x : Bool, (x = true → 1 < n) → Dr (fun k => spec_l20Part.j0 k a1 (n : Int) d x b q) (fun r => r.1.length + 1 ≤ u * n ∧ 0 ≤ r.2 ∧ r.2 + 2 ≤ p + ((v * n : Nat) : Int)) := by
    intro q hq0 hq1 hq3 x hx
    refine Dr.up ?_
    simp only [spec_l20Part.j0]
    cases x with
    | true =>
      have hn2 := hx rfl
      refine Dr.ifp rfl ?_
      rw [wr (n := (n : Int) - 1) (by omega) (by omega)]
      refine Dr.bind (pick_dr hb hl _ hq0 (by omega)) fun r0 ⟨_, _, _, _⟩ => ?_
      rw [wr (n := 1 + r0.1) (by omega) (by omega), wr (n := (n : Int) - (1 + r0.1)) (by omega) (by omega)]
      obtain ⟨i, hi⟩ := Int.eq_ofNat_of_zero_le (show 0 ≤ 1 + r0.1 by omega)
      rw [hi, show (n : Int) - (i : Int) = ((n - i : Nat) : Int) by omega]
      have e : u * n = u * i + u * (n - i) := by rw [← Nat.mul_add]; congr 1; omega
      have e' : v * n = v * i + v * (n - i) := by rw [← Nat.mul_add]; congr 1; omega
      refine Dr.bind (hA i (by omega) (by omega) r0.2 (by omega) (by rcases hd with ⟨rfl, rfl, rfl⟩ | ⟨rfl, rfl, rfl⟩ <;> omega)) fun r1 ⟨g1, g2, g3⟩ => ?_
      refine Dr.bind (hA (n - i) (by omega) (by omega) r1.2 g2 (by rcases hd with ⟨rfl, rfl, rfl⟩ | ⟨rfl, rfl, rfl⟩ <;> omega)) fun r2 ⟨g4, g5, g6⟩ => ?_
      have hu : u * n ≤ 12 := Nat.le_trans (Nat.mul_le_mul (show u ≤ 4 by omega) hn) (by decide)
      refine Dr.ifp (by omega) ?_
      simp only [Option.bind_some]
      refine Dr.ifp (by simp; omega) ?_
      exact Dr.now _ ⟨by simp; omega, g5, by show r2.2 + 2 ≤ _; rcases hd with ⟨rfl, rfl, rfl⟩ | ⟨rfl, rfl, rfl⟩ <;> omega⟩
    | false =>
      refine Dr.ifn (by decide) ?_
      by_cases hd0 : d > 0
      · refine Dr.ifp hd0 ?_
        refine Dr.bind (pick_dr hb hl 3 hq0 (by omega)) fun r0 ⟨_, _, _, _⟩ => ?_
        exact two r0.2 (by omega) (by omega) (fun _ => by omega) (fun _ => by omega) _ (fun _ => by omega)
      · refine Dr.ifn hd0 ?_
        exact two q hq0 (by omega) (fun _ => by omega) (fun _ h => hq3 h) false (fun h => by cases h)
  by_cases h1 : (n : Int) > 1
  · refine Dr.ifp h1 ?_
    refine Dr.bind (pick_dr hb hl 3 hp0 (by omega)) fun r0 ⟨_, _, _, _⟩ => ?_
    exact one r0.2 (by omega) (by omega) (fun _ => by omega) _ (fun _ => by omega)
  · refine Dr.ifn h1 ?_
    exact one p hp0 (by omega) (fun _ => rfl) false (fun h => by cases h)

theorem part0 {b : List Int} (hb : ∀ x ∈ b, 0 ≤ x ∧ x < 256) (hl : b.length ≤ 2000) (a1 : Int) : ∀ n, 1 ≤ n → n ≤ 3 → PartGood b a1 0 2 4 n := by
  intro n
  induction n using Nat.strongRecOn with
  | ind n ih =>
    intro h1 h3
    exact part_step hb hl a1 0 2 4 n (.inl ⟨rfl, rfl, rfl⟩) h1 h3 (fun i hi hin => ih i hin hi (by omega)) (fun i hi hin h => ih i (by rcases h with h | h; exact h; omega) hi (by omega))

theorem part1 {b : List Int} (hb : ∀ x ∈ b, 0 ≤ x ∧ x < 256) (hl : b.length ≤ 2000) (a1 : Int) : ∀ n, 1 ≤ n → n ≤ 3 → PartGood b a1 1 4 12 n := by
  intro n
  induction n using Nat.strongRecOn with
  | ind n ih =>
    intro h1 h3
    exact part_step hb hl a1 1 4 12 n (.inr ⟨rfl, rfl, rfl⟩) h1 h3 (fun i hi hin => ih i hin hi (by omega)) (fun i hi hin _ => part0 hb hl a1 i hi (by omega))

theorem term_dr {b : List Int} (hb : ∀ x ∈ b, 0 ≤ x ∧ x < 256) (hl : b.length ≤ 2000) (a1 a2 p : Int) (hp0 : 0 ≤ p) (hp1 : p < 10000) :
    Dr (fun k => spec_l20Term.f k b p a1 a2) (fun r => r.1.length ≤ 14 ∧ 0 ≤ r.2 ∧ r.2 ≤ p + 60) := by
  unfold spec_l20Term.f
  refine Dr.bind (pick_dr hb hl 3 hp0 (by omega)) fun r0 ⟨_, _, _, _⟩ => ?_
  rw [wr (n := 1 + r0.1) (by omega) (by omega)]
  obtain ⟨i, hi⟩ := Int.eq_ofNat_of_zero_le (show 0 ≤ 1 + r0.1 by omega)
  rw [hi]
  refine Dr.bind (part1 hb hl a1 i (by omega) (by omega) r0.2 (by omega) (by omega)) fun r1 ⟨g1, g2, g3⟩ => ?_
  refine Dr.bind (odd_dr hb hl a2 g2 (by omega)) fun r2 ⟨_, _⟩ => ?_
  by_cases h : r2.1 = true
  · refine Dr.ifp h ?_
    refine Dr.bind (pick_dr hb hl 3 (by omega) (by omega)) fun r3 ⟨_, _, _, _⟩ => ?_
    by_cases h0 : r3.1 = 0
    · refine Dr.ifp h0 ?_
      exact Dr.now _ ⟨by simp, by show 0 ≤ r3.2; omega, by show r3.2 ≤ _; omega⟩
    · refine Dr.ifn h0 ?_
      by_cases h2 : r3.1 = 1
      · refine Dr.ifp h2 (Dr.ifp (by omega) ?_)
        exact Dr.now _ ⟨by simp; omega, by show 0 ≤ r3.2; omega, by show r3.2 ≤ _; omega⟩
      · refine Dr.ifn h2 ?_
        simp only [Option.bind_some]
        refine Dr.ifp (by simp; omega) (Dr.ifp (by simp; omega) ?_)
        exact Dr.now _ ⟨by simp; omega, by show 0 ≤ r3.2; omega, by show r3.2 ≤ _; omega⟩
  · refine Dr.ifn h ?_
    exact Dr.now _ ⟨by show r1.1.length ≤ _; omega, by show 0 ≤ r2.2; omega, by show r2.2 ≤ _; omega⟩


theorem rd_nat (l : List Int) (i : Nat) (h : i < l.length) : rd l (i : Int) = l[i] := by
  unfold rd
  rw [Int.toNat_natCast, List.getD_eq_getElem?_getD, List.getElem?_eq_getElem h]; rfl

theorem rd_getD (l : List Int) (i : Nat) : rd l (i : Int) = l.getD i 0 := by
  unfold rd; rw [Int.toNat_natCast]

theorem l1In_ok (a b c : Int) : spec_l1In.f a b c = some (decide (b ≤ a ∧ a ≤ c)) := by
  unfold spec_l1In.f
  by_cases h : a ≥ b
  · rw [if_pos h]; simp [h]
  · rw [if_neg h]; simp; omega

/-- from some number of rounds on it tells r -/
def E {α : Type} (g : Nat → Option α) (r : α) : Prop := ∃ K, ∀ k, K ≤ k → g k = some r

theorem E.now {α : Type} (r : α) : E (fun _ => some r) r := ⟨0, fun _ _ => rfl⟩
theorem E.const {α : Type} {g : Option α} {r : α} (e : g = some r) : E (fun _ => g) r := ⟨0, fun _ _ => e⟩
theorem E.from_ {α : Type} {g : Nat → Option α} {r : α} (K : Nat) (h : ∀ k, K ≤ k → g k = some r) : E g r := ⟨K, h⟩
theorem E.bind {α β : Type} {g : Nat → Option α} {f : Nat → α → Option β} {a : α} {r : β} (h : E g a) (k : E (fun n => f n a) r) : E (fun n => (g n).bind (f n)) r := by
  obtain ⟨K, hK⟩ := h
  obtain ⟨L, hL⟩ := k
  exact ⟨K + L, fun n hn => by show (g n).bind (f n) = _; rw [hK n (by omega)]; exact hL n (by omega)⟩
theorem E.up {α : Type} {g : Nat → Option α} {r : α} (h : E (fun k => g (k + 1)) r) : E g r := by
  obtain ⟨K, hK⟩ := h
  refine ⟨K + 1, fun n hn => ?_⟩
  obtain ⟨n, rfl⟩ : ∃ m, n = m + 1 := ⟨n - 1, by omega⟩
  exact hK n (by omega)
theorem E.ifp {α : Type} {c : Prop} [Decidable c] {g f : Nat → Option α} {r : α} (h : c) (d : E g r) : E (fun k => if c then g k else f k) r := by
  simp only [if_pos h]; exact d
theorem E.ifn {α : Type} {c : Prop} [Decidable c] {g f : Nat → Option α} {r : α} (h : ¬ c) (d : E f r) : E (fun k => if c then g k else f k) r := by
  simp only [if_neg h]; exact d
theorem E.use {α : Type} {g : Nat → Option α} {r : α} (h : E g r) : ∃ k, g k = some r := by
  obtain ⟨K, hK⟩ := h
  exact ⟨K, hK K (Nat.le_refl _)⟩

/-- terms, as trees -/
inductive Tm where
  | col (c : Int)
  | any
  | thn (a b : Tm)
  | orr (a b : Tm)

/-- the marks of a term, the last one behind both parts -/
def Tm.ms : Tm → List S34
  | .col c => [⟨0, c⟩]
  | .any => [⟨1, 0⟩]
  | .thn a b => a.ms ++ b.ms ++ [⟨2, 0⟩]
  | .orr a b => a.ms ++ b.ms ++ [⟨3, 0⟩]

def Tm.len : Tm → Nat
  | .col _ => 1
  | .any => 1
  | .thn a b => a.len + b.len
  | .orr a _ => a.len

def Tm.ok (c : Int) : Tm → Prop
  | .col k => 0 ≤ k ∧ k < c
  | .any => True
  | .thn a b => a.ok c ∧ b.ok c ∧ a.len + b.len ≤ 6
  | .orr a b => a.ok c ∧ b.ok c ∧ a.len = b.len

theorem Tm.len_pos (t : Tm) : 1 ≤ t.len := by
  induction t with
  | col c => exact Nat.le_refl _
  | any => exact Nat.le_refl _
  | thn a b iha _ => simp only [Tm.len]; omega
  | orr a b iha _ => simp only [Tm.len]; omega

theorem Tm.len_le {c : Int} (t : Tm) (h : t.ok c) : t.len ≤ 6 := by
  induction t with
  | col c => simp [Tm.len]
  | any => simp [Tm.len]
  | thn a b _ _ => exact h.2.2
  | orr a b iha _ => exact iha h.1

theorem Tm.ms_pos (t : Tm) : 1 ≤ t.ms.length := by
  cases t <;> simp [Tm.ms] <;> omega

/-- one mark behind a stack of lengths -/
def stp (c : Int) (st : List Int) (m : S34) : Option (List Int) :=
  if m.f0 = 0 then (if 0 ≤ m.f1 ∧ m.f1 < c then some (st ++ [1]) else none)
  else if m.f0 = 1 then (if m.f1 = 0 then some (st ++ [1]) else none)
  else if m.f0 = 2 then (if 2 ≤ st.length ∧ st.getD (st.length - 2) 0 + st.getD (st.length - 1) 0 ≤ 6 ∧ m.f1 = 0 then some (st.take (st.length - 2) ++ [st.getD (st.length - 2) 0 + st.getD (st.length - 1) 0]) else none)
  else if m.f0 = 3 then (if 2 ≤ st.length ∧ st.getD (st.length - 2) 0 = st.getD (st.length - 1) 0 ∧ m.f1 = 0 then some (st.take (st.length - 1)) else none)
  else none

def runS (c : Int) : List Int → List S34 → Option (List Int)
  | st, [] => some st
  | st, m :: l => (stp c st m).bind fun st' => runS c st' l

def runB (o : Option (List Int)) : Bool := match o with
  | some st => decide (st.length = 1)
  | none => false

def termB (c : Int) (l : List S34) : Bool := decide (1 ≤ c ∧ c ≤ 3) && decide (l.length ≤ 15) && runB (runS c [] l)

theorem last_two {α : Type} (l : List α) (h : 2 ≤ l.length) : ∃ l0 a b, l = l0 ++ [a, b] := by
  have hr : ∃ b a l0, l.reverse = b :: a :: l0 := by
    match e : l.reverse with
    | [] => have : l.length = 0 := by rw [← List.length_reverse, e]; rfl
            omega
    | [x] => have : l.length = 1 := by rw [← List.length_reverse, e]; rfl
             omega
    | b :: a :: l0 => exact ⟨b, a, l0, rfl⟩
  obtain ⟨b, a, l0, e⟩ := hr
  refine ⟨l0.reverse, a, b, ?_⟩
  have := congrArg List.reverse e
  rw [List.reverse_reverse] at this
  rw [this]; simp

theorem getD_snoc2 (l : List Int) (x y : Int) : (l ++ [x, y]).getD ((l ++ [x, y]).length - 2) 0 = x ∧ (l ++ [x, y]).getD ((l ++ [x, y]).length - 1) 0 = y := by
  constructor
  · rw [List.getD_eq_getElem?_getD, List.length_append, List.getElem?_append_right (by simp)]; simp
  · rw [List.getD_eq_getElem?_getD, List.length_append, List.getElem?_append_right (by simp)]
    rw [show l.length + [x, y].length - 1 - l.length = 1 by simp]; rfl

theorem take_snoc2 (l : List Int) (x y : Int) : (l ++ [x, y]).take ((l ++ [x, y]).length - 2) = l ∧ (l ++ [x, y]).take ((l ++ [x, y]).length - 1) = l ++ [x] := by
  constructor
  · rw [show (l ++ [x, y]).length - 2 = l.length by simp, List.take_left]
  · rw [show l ++ [x, y] = (l ++ [x]) ++ [y] by simp, show ((l ++ [x]) ++ [y]).length - 1 = (l ++ [x]).length by simp, List.take_left]

def lens (ts : List Tm) : List Int := ts.map fun t => (t.len : Int)
def marks (ts : List Tm) : List S34 := (ts.map Tm.ms).flatten

theorem marks_snoc (ts : List Tm) (t : Tm) : marks (ts ++ [t]) = marks ts ++ t.ms := by simp [marks]
theorem lens_snoc (ts : List Tm) (t : Tm) : lens (ts ++ [t]) = lens ts ++ [(t.len : Int)] := by simp [lens]

/-- what a stack of lengths is of: terms -/
theorem runS_terms (c : Int) : ∀ (l : List S34) (ts : List Tm) (st' : List Int), (∀ t ∈ ts, t.ok c) → runS c (lens ts) l = some st' →
    ∃ ts', (∀ t ∈ ts', t.ok c) ∧ marks ts ++ l = marks ts' ∧ st' = lens ts' := by
  intro l
  induction l with
  | nil => intro ts st' ho h; exact ⟨ts, ho, by simp, (Option.some.inj h).symm⟩
  | cons m l ih =>
    intro ts st' ho h
    simp only [runS] at h
    obtain ⟨st1, h1, h2⟩ := Option.bind_eq_some_iff.1 h
    have step : ∃ ts1, (∀ t ∈ ts1, t.ok c) ∧ marks ts ++ [m] = marks ts1 ∧ st1 = lens ts1 := by
      obtain ⟨f0, f1⟩ := m
      unfold stp at h1
      simp only at h1
      split at h1
      · rename_i e; subst e
        split at h1
        · rename_i hc
          refine ⟨ts ++ [.col f1], ?_, by rw [marks_snoc]; rfl, by rw [lens_snoc]; exact (Option.some.inj h1).symm⟩
          intro t ht
          rcases List.mem_append.1 ht with ht | ht
          · exact ho t ht
          · rw [List.mem_singleton.1 ht]; exact hc
        · cases h1
      · split at h1
        · rename_i e; subst e
          split at h1
          · rename_i hc; subst hc
            refine ⟨ts ++ [.any], ?_, by rw [marks_snoc]; rfl, by rw [lens_snoc]; exact (Option.some.inj h1).symm⟩
            intro t ht
            rcases List.mem_append.1 ht with ht | ht
            · exact ho t ht
            · rw [List.mem_singleton.1 ht]; trivial
          · cases h1
        · split at h1
          · rename_i e; subst e
            split at h1
            · rename_i hc
              obtain ⟨g1, g2, rfl⟩ := hc
              obtain ⟨ts0, a, b, rfl⟩ := last_two ts (by simpa [lens] using g1)
              have el : lens (ts0 ++ [a, b]) = lens ts0 ++ [(a.len : Int), (b.len : Int)] := by simp [lens]
              rw [el] at g2 h1
              rw [(getD_snoc2 _ _ _).1, (getD_snoc2 _ _ _).2] at g2 h1
              rw [(take_snoc2 _ _ _).1] at h1
              refine ⟨ts0 ++ [.thn a b], ?_, ?_, ?_⟩
              · intro t ht
                rcases List.mem_append.1 ht with ht | ht
                · exact ho t (by simp [ht])
                · rw [List.mem_singleton.1 ht]; exact ⟨ho a (by simp), ho b (by simp), by omega⟩
              · simp [marks, Tm.ms]
              · rw [lens_snoc]; rw [← Option.some.inj h1]; simp [Tm.len]
            · cases h1
          · split at h1
            · rename_i e; subst e
              split at h1
              · rename_i hc
                obtain ⟨g1, g2, rfl⟩ := hc
                obtain ⟨ts0, a, b, rfl⟩ := last_two ts (by simpa [lens] using g1)
                have el : lens (ts0 ++ [a, b]) = lens ts0 ++ [(a.len : Int), (b.len : Int)] := by simp [lens]
                rw [el] at g2 h1
                rw [(getD_snoc2 _ _ _).1, (getD_snoc2 _ _ _).2] at g2
                rw [(take_snoc2 _ _ _).2] at h1
                refine ⟨ts0 ++ [.orr a b], ?_, ?_, ?_⟩
                · intro t ht
                  rcases List.mem_append.1 ht with ht | ht
                  · exact ho t (by simp [ht])
                  · rw [List.mem_singleton.1 ht]; exact ⟨ho a (by simp), ho b (by simp), by omega⟩
                · simp [marks, Tm.ms]
                · rw [lens_snoc]; rw [← Option.some.inj h1]; simp [Tm.len]
              · cases h1
            · cases h1
    obtain ⟨ts1, o1, m1, rfl⟩ := step
    obtain ⟨ts', o', m', e'⟩ := ih ts1 st' o1 h2
    exact ⟨ts', o', by rw [← m', ← m1]; simp, e'⟩

/-- a term's marks put its length on the stack -/
theorem runS_ms (c : Int) (t : Tm) : t.ok c → ∀ (st : List Int) (l : List S34), runS c st (t.ms ++ l) = runS c (st ++ [(t.len : Int)]) l := by
  induction t with
  | col k => intro h st l; simp only [Tm.ms, List.cons_append, List.nil_append, runS]; unfold stp; rw [if_pos rfl, if_pos (show 0 ≤ (⟨0, k⟩ : S34).f1 ∧ (⟨0, k⟩ : S34).f1 < c from h)]; rfl
  | any => intro h st l; simp only [Tm.ms, List.cons_append, List.nil_append, runS]; unfold stp; rw [if_neg (by decide), if_pos rfl, if_pos rfl]; rfl
  | thn a b iha ihb =>
    intro h st l
    simp only [Tm.ms, List.append_assoc]
    rw [iha h.1, ihb h.2.1]
    simp only [List.cons_append, List.nil_append, runS]
    have hs := getD_snoc2 st (a.len : Int) (b.len : Int)
    have hk := take_snoc2 st (a.len : Int) (b.len : Int)
    rw [show st ++ [(a.len : Int)] ++ [(b.len : Int)] = st ++ [(a.len : Int), (b.len : Int)] by simp]
    unfold stp
    rw [if_neg (by decide), if_neg (by decide), if_pos rfl, hs.1, hs.2, if_pos ⟨by simp, by have := h.2.2; omega, rfl⟩, hk.1]
    simp only [Option.bind_some, Tm.len, Int.natCast_add]
  | orr a b iha ihb =>
    intro h st l
    simp only [Tm.ms, List.append_assoc]
    rw [iha h.1, ihb h.2.1]
    simp only [List.cons_append, List.nil_append, runS]
    have hs := getD_snoc2 st (a.len : Int) (b.len : Int)
    have hk := take_snoc2 st (a.len : Int) (b.len : Int)
    rw [show st ++ [(a.len : Int)] ++ [(b.len : Int)] = st ++ [(a.len : Int), (b.len : Int)] by simp]
    unfold stp
    rw [if_neg (by decide), if_neg (by decide), if_neg (by decide), if_pos rfl, hs.1, hs.2, if_pos ⟨by simp, by rw [h.2.2], rfl⟩, hk.2]
    simp only [Option.bind_some, Tm.len]

theorem termB_some {c : Int} {l : List S34} (h : termB c l = true) : 1 ≤ c ∧ c ≤ 3 ∧ l.length ≤ 15 ∧ ∃ t : Tm, t.ok c ∧ l = t.ms := by
  unfold termB at h
  simp only [Bool.and_eq_true, decide_eq_true_eq] at h
  obtain ⟨⟨h1, h2⟩, h3⟩ := h
  unfold runB at h3
  split at h3
  · rename_i st hst
    have h4 : st.length = 1 := by simpa using h3
    obtain ⟨ts', o, m, e⟩ := runS_terms c l [] st (by simp) hst
    have hl : ts'.length = 1 := by rw [e] at h4; simpa [lens] using h4
    match ts', hl with
    | [t], _ => exact ⟨h1.1, h1.2, h2, t, o t (by simp), by simpa [marks] using m⟩
  · cases h3

theorem termB_ms {c : Int} {t : Tm} (h1 : 1 ≤ c) (h2 : c ≤ 3) (h3 : t.ms.length ≤ 15) (h : t.ok c) : termB c t.ms = true := by
  unfold termB
  have := runS_ms c t h [] []
  rw [List.append_nil] at this
  rw [this]
  simp [runS, runB, h1, h2, h3]

theorem rdM (l : List S34) (i : Nat) : rd_T34 l (i : Int) = l.getD i z34 := by unfold rd_T34; rw [Int.toNat_natCast]

theorem getD_take_ne (l : List Int) (i n : Nat) (h : i < n) : (l.take n).getD i 0 = l.getD i 0 := by
  rw [List.getD_eq_getElem?_getD, List.getD_eq_getElem?_getD, List.getElem?_take_of_lt h]

/-- a stack as the code keeps it: numbers in 0..6 -/
def okSt (st : List Int) : Prop := ∀ x ∈ st, 0 ≤ x ∧ x ≤ 6

theorem okSt_get {st : List Int} (h : okSt st) (i : Nat) : 0 ≤ st.getD i 0 ∧ st.getD i 0 ≤ 6 := by
  rw [List.getD_eq_getElem?_getD]
  cases e : st[i]? with
  | none => simp
  | some x => exact h x (List.mem_of_getElem? e)

theorem okSt_snoc {st : List Int} {x : Int} (h : okSt st) (hx : 0 ≤ x ∧ x ≤ 6) : okSt (st ++ [x]) := by
  intro y hy
  rcases List.mem_append.1 hy with hy | hy
  · exact h y hy
  · rw [List.mem_singleton.1 hy]; exact hx

theorem okSt_take {st : List Int} (h : okSt st) (n : Nat) : okSt (st.take n) := fun x hx => h x (List.mem_of_mem_take hx)

theorem set_take (st : List Int) (v : Int) (h : 2 ≤ st.length) : (st.set (st.length - 2) v).take (st.length - 1) = st.take (st.length - 2) ++ [v] := by
  rw [show st.length - 1 = (st.length - 2) + 1 by omega, List.take_succ_eq_append_getElem (by simp; omega), List.take_set_of_le (Nat.le_refl _)]
  simp

theorem impl_TermOk_l0 (c : Int) (l : List S34) (hl : l.length ≤ 1048576) : ∀ (d i f : Nat) (st : List Int), i + d = l.length → 3 * d + 3 ≤ f → st.length ≤ i → okSt st →
    impl_TermOk.l0 f c st l (l.length : Int) (i : Int) = some (runB (runS c st (l.drop i))) := by
  intro d
  induction d with
  | zero =>
    intro i f st hi hf hs ho
    obtain ⟨f, rfl⟩ : ∃ g, f = g + 1 := ⟨f - 1, by omega⟩
    simp only [impl_TermOk.l0]; rw [if_neg (by omega), List.drop_of_length_le (by omega)]
    simp only [runS, runB]
    congr 1
    rw [Bool.eq_iff_iff]; simp; omega
  | succ d ih =>
    intro i f st hi hf hs ho
    obtain ⟨f, rfl⟩ : ∃ g, f = g + 2 := ⟨f - 2, by omega⟩
    have hlen : st.length ≤ 1048576 := by omega
    have w1 : wrap64 ((i : Int) + 1) = ((i + 1 : Nat) : Int) := by rw [wr (by omega) (by omega)]; omega
    have w2 : wrap64 ((st.length : Int) - 1) = (st.length : Int) - 1 := wr (by omega) (by omega)
    have w3 : wrap64 ((st.length : Int) - 1 - 1) = (st.length : Int) - 1 - 1 := wr (by omega) (by omega)
    have em : l.drop i = l.getD i z34 :: l.drop (i + 1) := by
      rw [List.drop_eq_getElem_cons (show i < l.length by omega), List.getD_eq_getElem?_getD, List.getElem?_eq_getElem (by omega)]; rfl
    simp only [impl_TermOk.l0]
    rw [if_pos (by omega), if_pos (by omega), if_pos (by omega), rdM, w1, w2, w3, em]
    generalize l.getD i z34 = m
    simp only [runS]
    unfold stp
    have g1 := okSt_get ho (st.length - 1)
    have g2 := okSt_get ho (st.length - 2)
    by_cases k0 : m.f0 = 0
    · rw [if_pos k0, if_pos k0]
      by_cases h1 : m.f1 < 0
      · rw [if_pos h1, if_neg (by omega)]; simp only [impl_TermOk.j2, if_true]; rfl
      rw [if_neg h1]
      by_cases h2 : m.f1 ≥ c
      · rw [decide_eq_true h2, if_neg (by omega)]; simp only [impl_TermOk.j2, if_true]; rfl
      · rw [decide_eq_false h2, if_pos (by omega)]; simp only [impl_TermOk.j2, Bool.false_eq_true, if_false]
        rw [if_pos (by omega), w1]; simp only [Option.bind_some]
        exact ih (i + 1) f (st ++ [1]) (by omega) (by omega) (by simp; omega) (okSt_snoc ho (by omega))
    rw [if_neg k0, if_neg k0]
    by_cases k1 : m.f0 = 1
    · rw [if_pos k1, if_pos k1, if_pos (by omega)]
      by_cases h1 : m.f1 = 0
      · rw [if_pos h1, if_pos h1]
        simp only [Option.bind_some]
        exact ih (i + 1) (f + 1) (st ++ [1]) (by omega) (by omega) (by simp; omega) (okSt_snoc ho (by omega))
      · rw [if_neg h1, if_neg h1]; rfl
    rw [if_neg k1, if_neg k1]
    by_cases k2 : m.f0 = 2
    · rw [if_pos k2, if_pos k2]
      by_cases h2 : 2 ≤ st.length
      · have r1 : rd st ((st.length : Int) - 1 - 1) = st.getD (st.length - 2) 0 := by rw [show (st.length : Int) - 1 - 1 = ((st.length - 2 : Nat) : Int) by omega]; exact rd_getD _ _
        have r2 : rd st ((st.length : Int) - 1) = st.getD (st.length - 1) 0 := by rw [show (st.length : Int) - 1 = ((st.length - 1 : Nat) : Int) by omega]; exact rd_getD _ _
        rw [if_neg (show ¬ (st.length : Int) - 1 < 1 by omega), if_pos (show 0 ≤ (st.length : Int) - 1 - 1 by omega), if_pos (show (st.length : Int) - 1 - 1 < (st.length : Int) by omega), if_pos (show 0 ≤ (st.length : Int) - 1 by omega), if_pos (show (st.length : Int) - 1 < (st.length : Int) by omega), r1, r2, wr (n := st.getD (st.length - 2) 0 + st.getD (st.length - 1) 0) (by omega) (by omega)]
        by_cases h6 : st.getD (st.length - 2) 0 + st.getD (st.length - 1) 0 > 6
        · rw [decide_eq_true h6, if_neg (by omega)]; simp only [impl_TermOk.j3, if_true]; rfl
        · rw [decide_eq_false h6]; simp only [impl_TermOk.j3, Bool.false_eq_true, if_false]
          rw [w3, if_pos (show 0 ≤ (st.length : Int) - 1 - 1 by omega), if_pos (show (st.length : Int) - 1 - 1 < (st.length : Int) by omega), if_pos (show 0 ≤ (st.length : Int) - 1 by omega), if_pos (show (st.length : Int) - 1 < (st.length : Int) by omega), if_pos (show (st.length : Int) - 1 ≤ (st.length : Int) by omega), r1, r2, wr (n := st.getD (st.length - 2) 0 + st.getD (st.length - 1) 0) (by omega) (by omega)]
          by_cases h0 : m.f1 = 0
          · rw [if_pos h0, if_pos ⟨h2, by omega, h0⟩, show ((st.length : Int) - 1 - 1).toNat = st.length - 2 by omega, show ((st.length : Int) - 1).toNat = st.length - 1 by omega, set_take _ _ h2, w1]; simp only [Option.bind_some]
            exact ih (i + 1) f _ (by omega) (by omega) (by simp; omega) (okSt_snoc (okSt_take ho _) (by omega))
          · rw [if_neg h0, if_neg (fun x => h0 x.2.2)]; rfl
      · rw [if_pos (show (st.length : Int) - 1 < 1 by omega), if_neg (fun x => h2 x.1)]; simp only [impl_TermOk.j3, if_true]; rfl
    rw [if_neg k2, if_neg k2]
    by_cases k3 : m.f0 = 3
    · rw [if_pos k3, if_pos k3]
      by_cases h2 : 2 ≤ st.length
      · have r1 : rd st ((st.length : Int) - 1 - 1) = st.getD (st.length - 2) 0 := by rw [show (st.length : Int) - 1 - 1 = ((st.length - 2 : Nat) : Int) by omega]; exact rd_getD _ _
        have r2 : rd st ((st.length : Int) - 1) = st.getD (st.length - 1) 0 := by rw [show (st.length : Int) - 1 = ((st.length - 1 : Nat) : Int) by omega]; exact rd_getD _ _
        rw [if_neg (show ¬ (st.length : Int) - 1 < 1 by omega), if_pos (show 0 ≤ (st.length : Int) - 1 - 1 by omega), if_pos (show (st.length : Int) - 1 - 1 < (st.length : Int) by omega), if_pos (show 0 ≤ (st.length : Int) - 1 by omega), if_pos (show (st.length : Int) - 1 < (st.length : Int) by omega), r1, r2]
        by_cases h6 : st.getD (st.length - 2) 0 = st.getD (st.length - 1) 0
        · rw [h6, bne_self_eq_false]; simp only [impl_TermOk.j4, Bool.false_eq_true, if_false]
          rw [if_pos (show 0 ≤ (st.length : Int) - 1 by omega), if_pos (show (st.length : Int) - 1 ≤ (st.length : Int) by omega)]
          by_cases h0 : m.f1 = 0
          · rw [if_pos h0, if_pos ⟨h2, (by first | trivial | rfl), h0⟩, show ((st.length : Int) - 1).toNat = st.length - 1 by omega, w1]; simp only [Option.bind_some]
            exact ih (i + 1) f _ (by omega) (by omega) (by simp; omega) (okSt_take ho _)
          · rw [if_neg h0, if_neg (fun x => h0 x.2.2)]; rfl
        · rw [show (st.getD (st.length - 2) 0 != st.getD (st.length - 1) 0) = true by simpa using h6, if_neg (fun x => h6 x.2.1)]; simp only [impl_TermOk.j4, if_true]; rfl
      · rw [if_pos (show (st.length : Int) - 1 < 1 by omega), if_neg (fun x => h2 x.1)]; simp only [impl_TermOk.j4, if_true]; rfl
    · rw [if_neg k3, if_neg k3]; rfl

theorem impl_TermOk_ok (c : Int) (l : List S34) (f : Nat) (hl : l.length ≤ 1048576) (hf : 3 * l.length + 10 ≤ f) : impl_TermOk.f f c l = some (termB c l) := by
  obtain ⟨f, rfl⟩ : ∃ g, f = g + 1 := ⟨f - 1, by omega⟩
  have e : impl_TermOk.j0 (f + 1) c l true = some false := by simp only [impl_TermOk.j0, if_true]
  unfold impl_TermOk.f impl_coloursOk.f termB
  by_cases h1 : c ≥ 1
  · rw [if_pos h1]; simp only [Option.bind_some]
    by_cases h2 : c ≤ 3
    · rw [if_pos (decide_eq_true h2), decide_eq_true (show 1 ≤ c ∧ c ≤ 3 from ⟨h1, h2⟩), Bool.true_and]
      by_cases h3 : (l.length : Int) < 1
      · rw [if_pos h3, e]
        have : l = [] := List.eq_nil_of_length_eq_zero (by omega)
        subst this; rfl
      · rw [if_neg h3]
        by_cases h4 : (l.length : Int) > 15
        · rw [decide_eq_true h4, e, decide_eq_false (by omega)]; rfl
        · rw [decide_eq_false h4, decide_eq_true (by omega)]; simp only [impl_TermOk.j0, Bool.false_eq_true, if_false]
          have := impl_TermOk_l0 c l hl l.length 0 f [] (by omega) (by omega) (by simp) (fun x hx => by simp at hx)
          rw [List.drop_zero] at this
          rw [Bool.true_and]
          exact this
    · rw [decide_eq_false h2, if_neg (by decide), e, decide_eq_false (by omega)]; rfl
  · rw [if_neg h1]; simp only [Option.bind_some]
    rw [if_neg (by decide), e, decide_eq_false (by omega)]; rfl

theorem spec_TermOk_l0 (c : Int) (l : List S34) (hl : l.length ≤ 1048576) : ∀ (d i f : Nat) (st : List Int), i + d = l.length → 3 * d + 3 ≤ f → st.length ≤ i → okSt st →
    spec_TermOk.l0 f c l st (i : Int) = some (decide (1 ≤ c ∧ c ≤ 3) && decide (l.length ≤ 15) && runB (runS c st (l.drop i))) := by
  intro d
  induction d with
  | zero =>
    intro i f st hi hf hs ho
    obtain ⟨f, rfl⟩ : ∃ g, f = g + 1 := ⟨f - 1, by omega⟩
    simp only [spec_TermOk.l0]; rw [if_neg (by omega), List.drop_of_length_le (by omega), l1In_ok]
    simp only [runS, runB, Option.bind_some]
    by_cases hc : 1 ≤ c ∧ c ≤ 3
    · rw [if_pos (decide_eq_true hc), decide_eq_true hc, Bool.true_and]
      by_cases h1 : (st.length : Int) = 1
      · rw [if_pos h1, decide_eq_true (show st.length = 1 by omega), Bool.and_true]; congr 1; apply decide_eq_decide.2; omega
      · rw [if_neg h1, decide_eq_false (show ¬ st.length = 1 by omega), Bool.and_false]
    · rw [decide_eq_false hc, if_neg (by decide)]; rfl
  | succ d ih =>
    intro i f st hi hf hs ho
    obtain ⟨f, rfl⟩ : ∃ g, f = g + 3 := ⟨f - 3, by omega⟩
    have hlen : st.length ≤ 1048576 := by omega
    have w1 : wrap64 ((i : Int) + 1) = ((i + 1 : Nat) : Int) := by rw [wr (by omega) (by omega)]; omega
    have w2 : wrap64 ((st.length : Int) - 1) = (st.length : Int) - 1 := wr (by omega) (by omega)
    have w3 : wrap64 ((st.length : Int) - 1 - 1) = (st.length : Int) - 1 - 1 := wr (by omega) (by omega)
    have em : l.drop i = l.getD i z34 :: l.drop (i + 1) := by
      rw [List.drop_eq_getElem_cons (show i < l.length by omega), List.getD_eq_getElem?_getD, List.getElem?_eq_getElem (by omega)]; rfl
    have g1 := okSt_get ho (st.length - 1)
    have g2 := okSt_get ho (st.length - 2)
    have hnone : some false = some (decide (1 ≤ c ∧ c ≤ 3) && decide (l.length ≤ 15) && runB none) := by simp [runB]
    have push : ∀ x7, spec_TermOk.j1 (f + 2) c l st (i : Int) x7 true = some (decide (1 ≤ c ∧ c ≤ 3) && decide (l.length ≤ 15) && runB (runS c (st ++ [1]) (l.drop (i + 1)))) := by
      intro x7
      simp only [spec_TermOk.j1, if_true]
      rw [if_pos (by omega), w1]
      exact ih (i + 1) (f + 1) (st ++ [1]) (by omega) (by omega) (by simp; omega) (okSt_snoc ho (by omega))
    have r1 : 2 ≤ st.length → rd st ((st.length : Int) - 1 - 1) = st.getD (st.length - 2) 0 := fun h => by rw [show (st.length : Int) - 1 - 1 = ((st.length - 2 : Nat) : Int) by omega]; exact rd_getD _ _
    have r2 : 2 ≤ st.length → rd st ((st.length : Int) - 1) = st.getD (st.length - 1) 0 := fun h => by rw [show (st.length : Int) - 1 = ((st.length - 1 : Nat) : Int) by omega]; exact rd_getD _ _
    have hj2 : ∀ (m : S34), l.getD i z34 = m → m.f0 ≠ 2 ∨ m.f1 ≠ 0 ∨ st.length < 2 ∨ st.getD (st.length - 2) 0 + st.getD (st.length - 1) 0 > 6 → m.f0 ≠ 0 → m.f0 ≠ 1 → m.f0 ≠ 2 →
        spec_TermOk.j2 (f + 1) c l st (i : Int) ((st.length : Int) - 1) false = some (decide (1 ≤ c ∧ c ≤ 3) && decide (l.length ≤ 15) && runB ((stp c st m).bind fun st' => runS c st' (l.drop (i + 1)))) := by
      intro m hm _ k0 k1 k2
      simp only [spec_TermOk.j2, Bool.false_eq_true, if_false]
      rw [if_pos (by omega), if_pos (by omega), rdM, hm]
      unfold stp
      rw [if_neg k0, if_neg k1, if_neg k2]
      by_cases h3 : m.f0 = 3 ∧ m.f1 = 0
      · rw [if_pos (show (m.f0 == 3 && m.f1 == 0) = true by simp [h3.1, h3.2]), if_pos h3.1]
        by_cases h2 : 2 ≤ st.length
        · rw [if_pos (by omega), w3, if_pos (by omega), if_pos (by omega), if_pos (by omega), if_pos (by omega), r1 h2, r2 h2]
          by_cases he : st.getD (st.length - 2) 0 = st.getD (st.length - 1) 0
          · rw [if_pos he, if_pos (by omega), if_pos ⟨h2, he, h3.2⟩, w1, show ((st.length : Int) - 1).toNat = st.length - 1 by omega]
            simp only [Option.bind_some]
            exact ih (i + 1) f _ (by omega) (by omega) (by simp; omega) (okSt_take ho _)
          · rw [if_neg he, if_neg (fun x => he x.2.1)]; exact hnone
        · rw [if_neg (by omega), if_neg (fun x => h2 x.1)]; exact hnone
      · rw [if_neg (show ¬ (m.f0 == 3 && m.f1 == 0) = true by simpa using h3)]
        by_cases e3 : m.f0 = 3
        · rw [if_pos e3, if_neg (fun x => h3 ⟨e3, x.2.2⟩)]; exact hnone
        · rw [if_neg e3]; exact hnone
    have hj2' : ∀ (m : S34), l.getD i z34 = m → m.f0 = 2 → stp c st m = none → spec_TermOk.j2 (f + 1) c l st (i : Int) ((st.length : Int) - 1) false = some false := by
      intro m hm k2 _
      simp only [spec_TermOk.j2, Bool.false_eq_true, if_false]
      rw [if_pos (by omega), if_pos (by omega), rdM, hm, if_neg (by simp [k2])]
    simp only [spec_TermOk.l0]
    rw [if_pos (by omega), if_pos (by omega), rdM, w2, em]
    simp only [runS]
    generalize hm : l.getD i z34 = m
    by_cases k0 : m.f0 = 0
    · rw [if_pos k0]
      have no : ∀ b, b = false → spec_TermOk.j1 (f + 2) c l st (i : Int) ((st.length : Int) - 1) b = some false := by
        intro b hb; subst hb
        simp only [spec_TermOk.j1, Bool.false_eq_true, if_false]
        rw [if_pos (by omega), if_pos (by omega), rdM, hm, if_neg (by simp [k0])]
        simp only [spec_TermOk.j2, Bool.false_eq_true, if_false]
        rw [if_pos (by omega), if_pos (by omega), rdM, hm, if_neg (by simp [k0])]
      unfold stp
      rw [if_pos k0]
      by_cases h1 : m.f1 ≥ 0
      · rw [if_pos h1]
        by_cases h2 : m.f1 < c
        · rw [if_pos h2, push, if_pos ⟨h1, h2⟩]; rfl
        · rw [if_neg h2, no _ (by simp [k0]), if_neg (by omega)]; exact hnone
      · rw [if_neg h1, no _ (by simp [k0]), if_neg (by omega)]; exact hnone
    rw [if_neg k0]
    by_cases k1 : m.f0 = 1 ∧ m.f1 = 0
    · rw [show (m.f0 == 1 && m.f1 == 0) = true by simp [k1.1, k1.2], push]
      unfold stp
      rw [if_neg k0, if_pos k1.1, if_pos k1.2]; rfl
    rw [show (m.f0 == 1 && m.f1 == 0) = false by simpa using k1]
    simp only [spec_TermOk.j1, Bool.false_eq_true, if_false]
    rw [if_pos (by omega), if_pos (by omega), rdM, hm]
    by_cases k2 : m.f0 = 2 ∧ m.f1 = 0
    · rw [if_pos (show (m.f0 == 2 && m.f1 == 0) = true by simp [k2.1, k2.2])]
      have es : stp c st m = if 2 ≤ st.length ∧ st.getD (st.length - 2) 0 + st.getD (st.length - 1) 0 ≤ 6 ∧ m.f1 = 0 then some (st.take (st.length - 2) ++ [st.getD (st.length - 2) 0 + st.getD (st.length - 1) 0]) else none := by
        unfold stp; rw [if_neg k0, if_neg (by omega), if_pos k2.1]
      by_cases h2 : 2 ≤ st.length
      · rw [if_pos (by omega), w3, if_pos (by omega), if_pos (by omega), if_pos (by omega), if_pos (by omega), r1 h2, r2 h2, wr (n := st.getD (st.length - 2) 0 + st.getD (st.length - 1) 0) (by omega) (by omega)]
        by_cases h6 : st.getD (st.length - 2) 0 + st.getD (st.length - 1) 0 ≤ 6
        · rw [decide_eq_true h6, es, if_pos ⟨h2, h6, k2.2⟩]
          simp only [spec_TermOk.j2, if_true, Option.bind_some, List.nil_append, List.length_nil, Nat.zero_add]
          rw [w3, if_pos (by omega), if_pos (by omega), if_pos (by omega), if_pos (by omega), if_pos (by omega), show ((st.length : Int) - 1 - 1).toNat = st.length - 2 by omega, if_pos (by simp; omega), if_pos (by simp; omega), r1 h2, r2 h2, wr (n := st.getD (st.length - 2) 0 + st.getD (st.length - 1) 0) (by omega) (by omega), w1]
          exact ih (i + 1) f _ (by omega) (by omega) (by simp; omega) (okSt_snoc (okSt_take ho _) (by omega))
        · rw [decide_eq_false h6, hj2' m hm k2.1 (by rw [es, if_neg (fun x => h6 x.2.1)]), es, if_neg (fun x => h6 x.2.1)]; exact hnone
      · rw [if_neg (by omega), hj2' m hm k2.1 (by rw [es, if_neg (fun x => h2 x.1)]), es, if_neg (fun x => h2 x.1)]; exact hnone
    · rw [if_neg (show ¬ (m.f0 == 2 && m.f1 == 0) = true by simpa using k2)]
      by_cases e2 : m.f0 = 2
      · have es : stp c st m = none := by
          unfold stp; rw [if_neg k0, if_neg (by omega), if_pos e2, if_neg (fun x => k2 ⟨e2, x.2.2⟩)]
        rw [hj2' m hm e2 es, es]; exact hnone
      · by_cases e1 : m.f0 = 1
        · have es : stp c st m = none := by
            unfold stp; rw [if_neg k0, if_pos e1, if_neg (fun x => k1 ⟨e1, x⟩)]
          rw [es]
          simp only [spec_TermOk.j2, Bool.false_eq_true, if_false]
          rw [if_pos (by omega), if_pos (by omega), rdM, hm, if_neg (by simp [e1])]; exact hnone
        · exact hj2 m hm (.inl e2) k0 e1 e2

theorem spec_TermOk_ok (c : Int) (l : List S34) (f : Nat) (hl : l.length ≤ 1048576) (hf : 3 * l.length + 10 ≤ f) : spec_TermOk.f f c l = some (termB c l) := by
  unfold spec_TermOk.f termB
  have := spec_TermOk_l0 c l hl l.length 0 f [] (by omega) (by omega) (by simp) (fun x hx => by simp at hx)
  rw [List.drop_zero] at this
  exact this

theorem rd_mid (p : List S34) (m : S34) (q : List S34) : rd_T34 (p ++ m :: q) (p.length : Int) = m := by
  rw [rdM, List.getD_eq_getElem?_getD, List.getElem?_append_right (Nat.le_refl _)]; simp

theorem rd_mid' (L p : List S34) (m : S34) (q : List S34) (h : L = p ++ m :: q) (i : Int) (hi : i = (p.length : Int)) : rd_T34 L i = m := by
  subst h; subst hi; exact rd_mid p m q

/-- the last mark -/
def Tm.kind : Tm → Int
  | .col _ => 0
  | .any => 1
  | .thn _ _ => 2
  | .orr _ _ => 3

theorem Tm.last_kind (t : Tm) : rd_T34 t.ms ((t.ms.length : Int) - 1) = ⟨t.kind, (match t with | .col c => c | _ => 0)⟩ := by
  cases t with
  | col c => rfl
  | any => rfl
  | thn a b =>
    refine rd_mid' _ (a.ms ++ b.ms) ⟨2, 0⟩ [] rfl _ ?_
    simp [Tm.ms]; omega
  | orr a b =>
    refine rd_mid' _ (a.ms ++ b.ms) ⟨3, 0⟩ [] rfl _ ?_
    simp [Tm.ms]; omega

theorem lastKind_ok (t : Tm) (h : t.ms.length ≤ 1048576) : impl_lastKind.f t.ms = some t.kind := by
  have hp := t.ms_pos
  unfold impl_lastKind.f
  rw [wr (by omega) (by omega), if_pos (by omega), if_pos (by omega), t.last_kind]

/-- behind a part the count is one less, in front of it -/
theorem halves_scan (L : List S34) (hL : L.length ≤ 1048576) (x4 : Int) (hx4 : 0 ≤ x4 ∧ x4 ≤ L.length) (R : List S34 × List S34) : ∀ (t : Tm) (p q : List S34) (n : Nat), n + t.ms.length ≤ 1048576 → L = p ++ t.ms ++ q →
    (n = 0 → (p.length : Int) ≤ x4 ∧ R = (L.take p.length, (L.take x4.toNat).drop p.length)) → (0 < n → E (fun k => impl_halves.l0 k L x4 (n : Int) ((p.length : Int) - 1)) R) →
    E (fun k => impl_halves.l0 k L x4 ((n + 1 : Nat) : Int) ((p.length : Int) + (t.ms.length : Int) - 1)) R := by
  intro t
  have leaf : ∀ (m : S34) (p q : List S34) (n : Nat), m.f0 = 0 ∨ m.f0 = 1 → n ≤ 1048576 → L = p ++ m :: q →
      (n = 0 → (p.length : Int) ≤ x4 ∧ R = (L.take p.length, (L.take x4.toNat).drop p.length)) → (0 < n → E (fun k => impl_halves.l0 k L x4 (n : Int) ((p.length : Int) - 1)) R) →
      E (fun k => impl_halves.l0 k L x4 ((n + 1 : Nat) : Int) (p.length : Int)) R := by
    intro m p q n hm hn hLe h0 h1
    have hlen : p.length < L.length := by rw [hLe]; simp
    refine E.up ?_
    simp only [impl_halves.l0]
    refine E.ifp (by omega) (E.ifp (by omega) ?_)
    rw [rd_mid' L p m q hLe _ rfl]
    refine E.ifn (by omega) ?_
    refine E.up ?_
    have hk : (m.f0 == 3) = false := by simp; omega
    simp only [impl_halves.j1, hk, Bool.false_eq_true, if_false]
    rw [wr (n := ((n + 1 : Nat) : Int) - 1) (by omega) (by omega), wr (n := (p.length : Int) - 1) (by omega) (by omega), show ((n + 1 : Nat) : Int) - 1 = (n : Int) by omega]
    by_cases hz : n = 0
    · refine E.ifp (by omega) (E.ifp (by omega) (E.ifp (by omega) (E.ifp (h0 hz).1 (E.ifp (by omega) ?_))))
      rw [Int.toNat_natCast, (h0 hz).2]
      exact E.now _
    · exact E.ifn (by omega) (h1 (by omega))
  have op : ∀ (m : S34) (p q : List S34) (n : Nat), m.f0 = 2 ∨ m.f0 = 3 → n + 2 ≤ 1048578 → L = p ++ m :: q →
      E (fun k => impl_halves.l0 k L x4 ((n + 2 : Nat) : Int) ((p.length : Int) - 1)) R → E (fun k => impl_halves.l0 k L x4 ((n + 1 : Nat) : Int) (p.length : Int)) R := by
    intro m p q n hm hn hLe h
    have hlen : p.length < L.length := by rw [hLe]; simp
    refine E.up ?_
    simp only [impl_halves.l0]
    refine E.ifp (by omega) (E.ifp (by omega) ?_)
    rw [rd_mid' L p m q hLe _ rfl]
    have fin : E (fun k => impl_halves.j1 k L x4 ((n + 1 : Nat) : Int) (p.length : Int) true) R := by
      refine E.up ?_
      simp only [impl_halves.j1, if_true]
      rw [wr (n := ((n + 1 : Nat) : Int) + 1) (by omega) (by omega), wr (n := (p.length : Int) - 1) (by omega) (by omega), show ((n + 1 : Nat) : Int) + 1 = ((n + 2 : Nat) : Int) by omega]
      exact E.ifn (by omega) h
    rcases hm with hm | hm
    · exact E.ifp hm fin
    · refine E.ifn (by omega) ?_
      rw [show (m.f0 == 3) = true by simp [hm]]; exact fin
  induction t with
  | col c =>
    intro p q n hn hLe h0 h1
    have := leaf ⟨0, c⟩ p q n (.inl rfl) (by omega) (by rw [hLe]; simp [Tm.ms]) h0 h1
    simpa [Tm.ms] using this
  | any =>
    intro p q n hn hLe h0 h1
    have := leaf ⟨1, 0⟩ p q n (.inr rfl) (by omega) (by rw [hLe]; simp [Tm.ms]) h0 h1
    simpa [Tm.ms] using this
  | thn a b iha ihb =>
    intro p q n hn hLe h0 h1
    have hb := b.ms_pos
    have ha := a.ms_pos
    have hLl : L.length = p.length + (a.ms.length + b.ms.length + 1) + q.length := by rw [hLe]; simp [Tm.ms]; omega
    have ea := iha p (b.ms ++ ⟨2, 0⟩ :: q) n (by simp [Tm.ms] at hn; omega) (by rw [hLe]; simp [Tm.ms]) h0 h1
    have eb := ihb (p ++ a.ms) (⟨2, 0⟩ :: q) (n + 1) (by simp [Tm.ms] at hn; omega) (by rw [hLe]; simp [Tm.ms]) (fun c => by omega) (fun _ => by
      rw [show (((p ++ a.ms).length : Nat) : Int) - 1 = (p.length : Int) + (a.ms.length : Int) - 1 by simp]
      exact ea)
    have key := op ⟨2, 0⟩ (p ++ a.ms ++ b.ms) q n (.inl rfl) (by simp [Tm.ms] at hn; omega) (by rw [hLe]; simp [Tm.ms]) (by
      rw [show (((p ++ a.ms ++ b.ms).length : Nat) : Int) - 1 = ((p ++ a.ms).length : Int) + (b.ms.length : Int) - 1 by simp; omega]
      exact eb)
    rw [show (p.length : Int) + ((Tm.thn a b).ms.length : Int) - 1 = ((p ++ a.ms ++ b.ms).length : Int) by simp [Tm.ms]; omega]
    exact key
  | orr a b iha ihb =>
    intro p q n hn hLe h0 h1
    have hb := b.ms_pos
    have ha := a.ms_pos
    have hLl : L.length = p.length + (a.ms.length + b.ms.length + 1) + q.length := by rw [hLe]; simp [Tm.ms]; omega
    have ea := iha p (b.ms ++ ⟨3, 0⟩ :: q) n (by simp [Tm.ms] at hn; omega) (by rw [hLe]; simp [Tm.ms]) h0 h1
    have eb := ihb (p ++ a.ms) (⟨3, 0⟩ :: q) (n + 1) (by simp [Tm.ms] at hn; omega) (by rw [hLe]; simp [Tm.ms]) (fun c => by omega) (fun _ => by
      rw [show (((p ++ a.ms).length : Nat) : Int) - 1 = (p.length : Int) + (a.ms.length : Int) - 1 by simp]
      exact ea)
    have key := op ⟨3, 0⟩ (p ++ a.ms ++ b.ms) q n (.inr rfl) (by simp [Tm.ms] at hn; omega) (by rw [hLe]; simp [Tm.ms]) (by
      rw [show (((p ++ a.ms ++ b.ms).length : Nat) : Int) - 1 = ((p ++ a.ms).length : Int) + (b.ms.length : Int) - 1 by simp; omega]
      exact eb)
    rw [show (p.length : Int) + ((Tm.orr a b).ms.length : Int) - 1 = ((p ++ a.ms ++ b.ms).length : Int) by simp [Tm.ms]; omega]
    exact key

theorem halves_thn (a b : Tm) (h : (Tm.thn a b).ms.length ≤ 1000) : E (fun k => impl_halves.f k (Tm.thn a b).ms) (a.ms, b.ms) := by
  have hl : (Tm.thn a b).ms.length = a.ms.length + b.ms.length + 1 := by simp [Tm.ms]; omega
  have hb := b.ms_pos
  unfold impl_halves.f
  rw [wr (n := ((Tm.thn a b).ms.length : Int) - 1) (by omega) (by omega), wr (n := ((Tm.thn a b).ms.length : Int) - 1 - 1) (by omega) (by omega)]
  have e : (Tm.thn a b).ms = a.ms ++ b.ms ++ [⟨2, 0⟩] := rfl
  have := halves_scan (Tm.thn a b).ms (by omega) (((Tm.thn a b).ms.length : Int) - 1) (by omega) (a.ms, b.ms) b a.ms [⟨2, 0⟩] 0 (by omega) e (fun _ => ⟨by omega, by
    rw [show (((Tm.thn a b).ms.length : Int) - 1).toNat = (a.ms ++ b.ms).length by simp; omega, e, List.take_left]
    rw [List.append_assoc, List.take_left, List.drop_left]⟩) (fun c => by omega)
  rw [show (a.ms.length : Int) + (b.ms.length : Int) - 1 = ((Tm.thn a b).ms.length : Int) - 1 - 1 by omega] at this
  exact this

theorem halves_orr (a b : Tm) (h : (Tm.orr a b).ms.length ≤ 1000) : E (fun k => impl_halves.f k (Tm.orr a b).ms) (a.ms, b.ms) := by
  have hl : (Tm.orr a b).ms.length = a.ms.length + b.ms.length + 1 := by simp [Tm.ms]; omega
  have hb := b.ms_pos
  unfold impl_halves.f
  rw [wr (n := ((Tm.orr a b).ms.length : Int) - 1) (by omega) (by omega), wr (n := ((Tm.orr a b).ms.length : Int) - 1 - 1) (by omega) (by omega)]
  have e : (Tm.orr a b).ms = a.ms ++ b.ms ++ [⟨3, 0⟩] := rfl
  have := halves_scan (Tm.orr a b).ms (by omega) (((Tm.orr a b).ms.length : Int) - 1) (by omega) (a.ms, b.ms) b a.ms [⟨3, 0⟩] 0 (by omega) e (fun _ => ⟨by omega, by
    rw [show (((Tm.orr a b).ms.length : Int) - 1).toNat = (a.ms ++ b.ms).length by simp; omega, e, List.take_left]
    rw [List.append_assoc, List.take_left, List.drop_left]⟩) (fun c => by omega)
  rw [show (a.ms.length : Int) + (b.ms.length : Int) - 1 = ((Tm.orr a b).ms.length : Int) - 1 - 1 by omega] at this
  exact this

theorem starts_scan (L : List S34) (hL : L.length ≤ 1048576) (R : Int) : ∀ (t : Tm) (p q : List S34) (n : Nat), n + t.ms.length ≤ 1048576 → L = p ++ t.ms ++ q →
    E (fun k => spec_l9Starts.l0 k L (n : Int) ((p.length : Int) - 1)) R → E (fun k => spec_l9Starts.l0 k L ((n + 1 : Nat) : Int) ((p.length : Int) + (t.ms.length : Int) - 1)) R := by
  intro t
  have leaf : ∀ (m : S34) (p q : List S34) (n : Nat), m.f0 = 0 ∨ m.f0 = 1 → n ≤ 1048576 → L = p ++ m :: q → E (fun k => spec_l9Starts.l0 k L (n : Int) ((p.length : Int) - 1)) R → E (fun k => spec_l9Starts.l0 k L ((n + 1 : Nat) : Int) (p.length : Int)) R := by
    intro m p q n hm hn hLe h
    have hlen : p.length < L.length := by rw [hLe]; simp
    refine E.up ?_
    simp only [spec_l9Starts.l0]
    rw [rd_mid' L p m q hLe _ rfl, wr (n := ((n + 1 : Nat) : Int) - 1) (by omega) (by omega), wr (n := (p.length : Int) - 1) (by omega) (by omega), show ((n + 1 : Nat) : Int) - 1 = (n : Int) by omega]
    refine E.ifp (by omega) (E.ifp (by omega) (E.ifp (by omega) ?_))
    rcases hm with hm | hm
    · exact E.ifp hm h
    · exact E.ifn (by omega) (E.ifp hm h)
  have op : ∀ (m : S34) (p q : List S34) (n : Nat), m.f0 = 2 ∨ m.f0 = 3 → n + 2 ≤ 1048578 → L = p ++ m :: q →
      E (fun k => spec_l9Starts.l0 k L ((n + 2 : Nat) : Int) ((p.length : Int) - 1)) R → E (fun k => spec_l9Starts.l0 k L ((n + 1 : Nat) : Int) (p.length : Int)) R := by
    intro m p q n hm hn hLe h
    have hlen : p.length < L.length := by rw [hLe]; simp
    refine E.up ?_
    simp only [spec_l9Starts.l0]
    rw [rd_mid' L p m q hLe _ rfl, wr (n := ((n + 1 : Nat) : Int) + 1) (by omega) (by omega), wr (n := (p.length : Int) - 1) (by omega) (by omega), show ((n + 1 : Nat) : Int) + 1 = ((n + 2 : Nat) : Int) by omega]
    exact E.ifp (by omega) (E.ifp (by omega) (E.ifp (by omega) (E.ifn (by omega) (E.ifn (by omega) h))))
  induction t with
  | col c =>
    intro p q n hn hLe h
    have := leaf ⟨0, c⟩ p q n (.inl rfl) (by omega) (by rw [hLe]; simp [Tm.ms]) h
    simpa [Tm.ms] using this
  | any =>
    intro p q n hn hLe h
    have := leaf ⟨1, 0⟩ p q n (.inr rfl) (by omega) (by rw [hLe]; simp [Tm.ms]) h
    simpa [Tm.ms] using this
  | thn a b iha ihb =>
    intro p q n hn hLe h
    have hl : (Tm.thn a b).ms.length = a.ms.length + b.ms.length + 1 := by simp [Tm.ms]; omega
    have ea := iha p (b.ms ++ ⟨2, 0⟩ :: q) n (by omega) (by rw [hLe]; simp [Tm.ms]) h
    have eb := ihb (p ++ a.ms) (⟨2, 0⟩ :: q) (n + 1) (by omega) (by rw [hLe]; simp [Tm.ms]) (by
      rw [show (((p ++ a.ms).length : Nat) : Int) - 1 = (p.length : Int) + (a.ms.length : Int) - 1 by simp]
      exact ea)
    have key := op ⟨2, 0⟩ (p ++ a.ms ++ b.ms) q n (.inl rfl) (by omega) (by rw [hLe]; simp [Tm.ms]) (by
      rw [show (((p ++ a.ms ++ b.ms).length : Nat) : Int) - 1 = ((p ++ a.ms).length : Int) + (b.ms.length : Int) - 1 by simp; omega]
      exact eb)
    rw [show (p.length : Int) + ((Tm.thn a b).ms.length : Int) - 1 = ((p ++ a.ms ++ b.ms).length : Int) by simp [Tm.ms]; omega]
    exact key
  | orr a b iha ihb =>
    intro p q n hn hLe h
    have hl : (Tm.orr a b).ms.length = a.ms.length + b.ms.length + 1 := by simp [Tm.ms]; omega
    have ea := iha p (b.ms ++ ⟨3, 0⟩ :: q) n (by omega) (by rw [hLe]; simp [Tm.ms]) h
    have eb := ihb (p ++ a.ms) (⟨3, 0⟩ :: q) (n + 1) (by omega) (by rw [hLe]; simp [Tm.ms]) (by
      rw [show (((p ++ a.ms).length : Nat) : Int) - 1 = (p.length : Int) + (a.ms.length : Int) - 1 by simp]
      exact ea)
    have key := op ⟨3, 0⟩ (p ++ a.ms ++ b.ms) q n (.inr rfl) (by omega) (by rw [hLe]; simp [Tm.ms]) (by
      rw [show (((p ++ a.ms ++ b.ms).length : Nat) : Int) - 1 = ((p ++ a.ms).length : Int) + (b.ms.length : Int) - 1 by simp; omega]
      exact eb)
    rw [show (p.length : Int) + ((Tm.orr a b).ms.length : Int) - 1 = ((p ++ a.ms ++ b.ms).length : Int) by simp [Tm.ms]; omega]
    exact key

/-- where the second part of a term begins -/
theorem starts_thn (a b : Tm) (h : (Tm.thn a b).ms.length ≤ 1000) : E (fun k => spec_l9Starts.f k (Tm.thn a b).ms (((Tm.thn a b).ms.length : Int) - 1 - 1)) (a.ms.length : Int) := by
  have hl : (Tm.thn a b).ms.length = a.ms.length + b.ms.length + 1 := by simp [Tm.ms]; omega
  unfold spec_l9Starts.f
  have := starts_scan (Tm.thn a b).ms (by omega) (a.ms.length : Int) b a.ms [⟨2, 0⟩] 0 (by omega) rfl (by
    refine E.up ?_
    simp only [spec_l9Starts.l0]
    refine E.ifn (by omega) ?_
    rw [wr (by omega) (by omega), show (a.ms.length : Int) - 1 + 1 = a.ms.length by omega]
    exact E.now _)
  rw [show (a.ms.length : Int) + (b.ms.length : Int) - 1 = ((Tm.thn a b).ms.length : Int) - 1 - 1 by omega] at this
  exact this

theorem parts_thn (a b : Tm) : (Tm.thn a b).ms.take ((a.ms.length : Int)).toNat = a.ms ∧ ((Tm.thn a b).ms.take ((((Tm.thn a b).ms.length : Int) - 1)).toNat).drop ((a.ms.length : Int)).toNat = b.ms := by
  have hl : (Tm.thn a b).ms.length = a.ms.length + b.ms.length + 1 := by simp [Tm.ms]; omega
  have e : (Tm.thn a b).ms = a.ms ++ b.ms ++ [⟨2, 0⟩] := rfl
  constructor
  · rw [Int.toNat_natCast, e, List.append_assoc, List.take_left]
  · rw [show (((Tm.thn a b).ms.length : Int) - 1).toNat = (a.ms ++ b.ms).length by simp; omega, Int.toNat_natCast, e, List.take_left, List.drop_left]

/-- where the second part of a term begins -/
theorem starts_orr (a b : Tm) (h : (Tm.orr a b).ms.length ≤ 1000) : E (fun k => spec_l9Starts.f k (Tm.orr a b).ms (((Tm.orr a b).ms.length : Int) - 1 - 1)) (a.ms.length : Int) := by
  have hl : (Tm.orr a b).ms.length = a.ms.length + b.ms.length + 1 := by simp [Tm.ms]; omega
  unfold spec_l9Starts.f
  have := starts_scan (Tm.orr a b).ms (by omega) (a.ms.length : Int) b a.ms [⟨3, 0⟩] 0 (by omega) rfl (by
    refine E.up ?_
    simp only [spec_l9Starts.l0]
    refine E.ifn (by omega) ?_
    rw [wr (by omega) (by omega), show (a.ms.length : Int) - 1 + 1 = a.ms.length by omega]
    exact E.now _)
  rw [show (a.ms.length : Int) + (b.ms.length : Int) - 1 = ((Tm.orr a b).ms.length : Int) - 1 - 1 by omega] at this
  exact this

theorem parts_orr (a b : Tm) : (Tm.orr a b).ms.take ((a.ms.length : Int)).toNat = a.ms ∧ ((Tm.orr a b).ms.take ((((Tm.orr a b).ms.length : Int) - 1)).toNat).drop ((a.ms.length : Int)).toNat = b.ms := by
  have hl : (Tm.orr a b).ms.length = a.ms.length + b.ms.length + 1 := by simp [Tm.ms]; omega
  have e : (Tm.orr a b).ms = a.ms ++ b.ms ++ [⟨3, 0⟩] := rfl
  constructor
  · rw [Int.toNat_natCast, e, List.append_assoc, List.take_left]
  · rw [show (((Tm.orr a b).ms.length : Int) - 1).toNat = (a.ms ++ b.ms).length by simp; omega, Int.toNat_natCast, e, List.take_left, List.drop_left]

theorem term_cases (c : Int) (l : List S34) : termB c l = false ∨ (termB c l = true ∧ 1 ≤ c ∧ c ≤ 3 ∧ ∃ t : Tm, t.ok c ∧ l = t.ms ∧ t.ms.length ≤ 15) := by
  cases h : termB c l with
  | false => exact .inl rfl
  | true =>
    obtain ⟨h1, h2, h3, t, ho, e⟩ := termB_some h
    exact .inr ⟨rfl, h1, h2, t, ho, e, e ▸ h3⟩
theorem implTermE (c : Int) (l : List S34) (hl : l.length ≤ 1048576) : E (fun k => impl_TermOk.f k c l) (termB c l) := E.from_ (3 * l.length + 10) (fun k hk => impl_TermOk_ok c l k hl hk)

theorem specTermE (c : Int) (l : List S34) (hl : l.length ≤ 1048576) : E (fun k => spec_TermOk.f k c l) (termB c l) := E.from_ (3 * l.length + 10) (fun k hk => spec_TermOk_ok c l k hl hk)

def Tm.isOr : Tm → Bool
  | .orr _ _ => true
  | _ => false
def Tm.big : Tm → Bool
  | .orr _ _ => true
  | .thn _ _ => true
  | _ => false
theorem Tm.isOr_kind (t : Tm) : (t.kind == 3) = t.isOr := by cases t <;> rfl
theorem Tm.big_size (t : Tm) : decide ((t.ms.length : Int) > 1) = t.big := by
  cases t with
  | col c => rfl
  | any => rfl
  | thn a b =>
    have := a.ms_pos
    exact decide_eq_true (by simp [Tm.ms]; omega)
  | orr a b =>
    have := a.ms_pos
    exact decide_eq_true (by simp [Tm.ms]; omega)
def par (b : Bool) (s : ByteArray) : ByteArray := if b = true then (((⟨#[40]⟩ : ByteArray) ++ s) ++ (⟨#[41]⟩ : ByteArray)) else s
def Tm.str : Tm → ByteArray
  | .col c => (⟨#[97, 98, 99]⟩ : ByteArray).extract c.toNat (c.toNat + 1)
  | .any => (⟨#[46]⟩ : ByteArray)
  | .thn a b => par a.isOr a.str ++ par b.big b.str
  | .orr a b => (a.str ++ (⟨#[124]⟩ : ByteArray)) ++ par b.isOr b.str
theorem s40 : (⟨#[40]⟩ : ByteArray).size = 1 := rfl
theorem s41 : (⟨#[41]⟩ : ByteArray).size = 1 := rfl
theorem s124 : (⟨#[124]⟩ : ByteArray).size = 1 := rfl
theorem par_size (b : Bool) (s : ByteArray) : (par b s).size ≤ s.size + 2 := by
  unfold par
  split
  · simp only [ByteArray.size_append, s40, s41]; omega
  · omega
theorem Tm.str_size {c : Int} (hc : c ≤ 3) (t : Tm) : t.ok c → t.str.size ≤ 4 * t.ms.length := by
  induction t with
  | col k =>
    intro h
    obtain ⟨h1, h2⟩ := h
    have : k = 0 ∨ k = 1 ∨ k = 2 := by omega
    rcases this with rfl | rfl | rfl <;> decide +kernel
  | any => intro _; decide
  | thn a b iha ihb =>
    intro ho
    have h1 := iha ho.1
    have h2 := ihb ho.2.1
    have h3 := par_size a.isOr a.str
    have h4 := par_size b.big b.str
    simp only [Tm.str, Tm.ms, List.length_append, ByteArray.size_append, List.length_cons, List.length_nil]; omega
  | orr a b iha ihb =>
    intro ho
    have h1 := iha ho.1
    have h2 := ihb ho.2.1
    have h4 := par_size b.isOr b.str
    simp only [Tm.str, Tm.ms, List.length_append, ByteArray.size_append, List.length_cons, List.length_nil, s124]; omega
theorem Tm.last_mid (t : Tm) : ∃ p m, t.ms = p ++ [m] ∧ m.f0 = t.kind ∧ p.length + 1 = t.ms.length := by
  cases t with
  | col c => exact ⟨[], ⟨0, c⟩, rfl, rfl, rfl⟩
  | any => exact ⟨[], ⟨1, 0⟩, rfl, rfl, rfl⟩
  | thn a b => exact ⟨a.ms ++ b.ms, ⟨2, 0⟩, rfl, rfl, by simp [Tm.ms]; omega⟩
  | orr a b => exact ⟨a.ms ++ b.ms, ⟨3, 0⟩, rfl, rfl, by simp [Tm.ms]; omega⟩
theorem rd_a (a : Tm) (q : List S34) : (rd_T34 (a.ms ++ q) ((a.ms.length : Int) - 1)).f0 = a.kind := by
  obtain ⟨p, m, e, hk, hp⟩ := a.last_mid
  rw [rd_mid' (a.ms ++ q) p m q (by rw [e]; simp) _ (by omega), hk]
theorem rd_b (p : List S34) (b : Tm) (q : List S34) (i : Int) (h : i = (p.length : Int) + (b.ms.length : Int) - 1) : (rd_T34 (p ++ b.ms ++ q) i).f0 = b.kind := by
  obtain ⟨p', m, e, hk, hp⟩ := b.last_mid
  rw [rd_mid' (p ++ b.ms ++ q) (p ++ p') m q (by rw [e]; simp) _ (by simp; omega), hk]

theorem held_ok {g : Nat → List S34 → Option ByteArray} {l : List S34} {s : ByteArray} (h : E (fun k => g k l) s) (hs : s.size ≤ 10000) (b : Bool) : E (fun k => impl_held.f (g k) k l b) (par b s) := by
  unfold impl_held.f par
  cases b with
  | true =>
    simp only [if_true]
    refine E.bind h (E.ifp (by omega) (E.ifp (by simp only [ByteArray.size_append, s40]; omega) (E.now _)))
  | false => exact E.bind h (E.now _)
theorem impl_textOf_ok {c : Int} (hc : c ≤ 3) (t : Tm) : t.ok c → t.ms.length ≤ 1000 → E (fun k => impl_textOf.f k t.ms) t.str := by
  induction t with
  | col n =>
    intro ho h
    obtain ⟨h1, h2⟩ := ho
    refine E.up ?_; simp only [impl_textOf.f]
    refine E.bind (E.const (lastKind_ok _ (by omega))) (E.ifp rfl (E.ifp (by simp [Tm.ms]) ?_))
    have e : strOfNums [(wrap64 (97 + (rd_T34 (Tm.col n).ms 0).f1)) % 256] = (Tm.col n).str := by
      have : n = 0 ∨ n = 1 ∨ n = 2 := by omega
      rcases this with rfl | rfl | rfl <;> decide +kernel
    rw [e]; exact E.now _
  | any =>
    intro _ h
    refine E.up ?_; simp only [impl_textOf.f]
    exact E.bind (E.const (lastKind_ok _ (by omega))) (E.ifn (by simp [Tm.kind]) (E.ifp rfl (E.now _)))
  | thn a b iha ihb =>
    intro ho h
    have hl : (Tm.thn a b).ms.length = a.ms.length + b.ms.length + 1 := by simp [Tm.ms]; omega
    have z1 := a.str_size hc ho.1
    have z2 := b.str_size hc ho.2.1
    have z3 := par_size a.isOr a.str
    have z4 := par_size b.big b.str
    refine E.up ?_; simp only [impl_textOf.f]
    refine E.bind (E.const (lastKind_ok _ (by omega))) (E.ifn (by simp [Tm.kind]) (E.ifn (by simp [Tm.kind]) (E.bind (halves_thn a b h) (E.bind (E.const (lastKind_ok _ (by omega))) (E.ifn (by simp [Tm.kind]) (E.bind (E.const (lastKind_ok _ (by omega))) ?_))))))
    rw [a.isOr_kind]
    simp only [b.big_size]
    exact E.bind (held_ok (iha ho.1 (by omega)) (by omega) _) (E.bind (held_ok (ihb ho.2.1 (by omega)) (by omega) _) (E.ifp (by omega) (E.now _)))
  | orr a b iha ihb =>
    intro ho h
    have hl : (Tm.orr a b).ms.length = a.ms.length + b.ms.length + 1 := by simp [Tm.ms]; omega
    have z1 := a.str_size hc ho.1
    have z2 := b.str_size hc ho.2.1
    have z4 := par_size b.isOr b.str
    refine E.up ?_; simp only [impl_textOf.f]
    refine E.bind (E.const (lastKind_ok _ (by omega))) (E.ifn (by simp [Tm.kind]) (E.ifn (by simp [Tm.kind]) (E.bind (halves_orr a b h) (E.bind (E.const (lastKind_ok _ (by omega))) (E.ifp rfl (E.bind (iha ho.1 (by omega)) (E.ifp (by omega) (E.bind (E.const (lastKind_ok _ (by omega))) ?_))))))))
    rw [b.isOr_kind]
    exact E.bind (held_ok (ihb ho.2.1 (by omega)) (by omega) _) (E.ifp (by simp only [ByteArray.size_append, s124]; omega) (E.now _))
theorem impl_TermText_no (c : Int) (l : List S34) (hl : l.length ≤ 1048576) (h : termB c l = false) : E (fun k => impl_TermText.f k c l) (⟨#[]⟩ : ByteArray) := by
  unfold impl_TermText.f; exact E.bind (implTermE c l hl) (E.ifn (by simp [h]) (E.now _))
theorem impl_TermText_yes (c : Int) (t : Tm) (hc : c ≤ 3) (ho : t.ok c) (h : termB c t.ms = true) (h15 : t.ms.length ≤ 15) : E (fun k => impl_TermText.f k c t.ms) t.str := by
  unfold impl_TermText.f; exact E.bind (implTermE c _ (by omega)) (E.ifp h (E.bind (impl_textOf_ok hc t ho (by omega)) (E.now _)))

theorem spec_l9Text_ok {c : Int} (hc : c ≤ 3) (t : Tm) : t.ok c → t.ms.length ≤ 1000 → E (fun k => spec_l9Text.f k t.ms) t.str := by
  induction t with
  | col n =>
    intro ho h
    obtain ⟨h1, h2⟩ := ho
    have hp := (Tm.col n).ms_pos
    refine E.up ?_; simp only [spec_l9Text.f]
    rw [wr (n := ((Tm.col n).ms.length : Int) - 1) (by omega) (by omega), show rd_T34 (Tm.col n).ms (((Tm.col n).ms.length : Int) - 1) = ⟨0, n⟩ from (Tm.col n).last_kind]
    dsimp only
    refine E.ifp (by omega) (E.ifp (by omega) (E.ifp rfl ?_))
    rw [wr (n := n + 1) (by omega) (by omega)]
    refine E.ifp h1 (E.ifp (by omega) (E.ifp (by omega) ?_))
    rw [show (n + 1).toNat = n.toNat + 1 by omega]
    exact E.now _
  | any =>
    intro _ h
    have hp := Tm.any.ms_pos
    refine E.up ?_; simp only [spec_l9Text.f]
    rw [wr (n := (Tm.any.ms.length : Int) - 1) (by omega) (by omega), Tm.any.last_kind]
    exact E.ifp (by omega) (E.ifp (by omega) (E.ifn (by simp [Tm.kind]) (E.ifp rfl (E.now _))))
  | thn a b iha ihb =>
    intro ho h
    have hl : (Tm.thn a b).ms.length = a.ms.length + b.ms.length + 1 := by simp [Tm.ms]; omega
    have ha := a.ms_pos
    have hb := b.ms_pos
    obtain ⟨p1, p2⟩ := parts_thn a b
    have z1 := a.str_size hc ho.1
    have z2 := b.str_size hc ho.2.1
    have ra : (rd_T34 (Tm.thn a b).ms ((a.ms.length : Int) - 1)).f0 = a.kind := by
      show (rd_T34 (a.ms ++ b.ms ++ [⟨2, 0⟩]) _).f0 = _
      rw [List.append_assoc]; exact rd_a a _
    have rb : (rd_T34 (Tm.thn a b).ms (((Tm.thn a b).ms.length : Int) - 1 - 1)).f0 = b.kind := rd_b a.ms b [⟨2, 0⟩] _ (by omega)
    refine E.up ?_; simp only [spec_l9Text.f]
    rw [wr (n := ((Tm.thn a b).ms.length : Int) - 1) (by omega) (by omega), (Tm.thn a b).last_kind, wr (n := ((Tm.thn a b).ms.length : Int) - 1 - 1) (by omega) (by omega), rb]
    refine E.ifp (by omega) (E.ifp (by omega) (E.ifn (by simp [Tm.kind]) (E.ifn (by simp [Tm.kind]) (E.bind (starts_thn a b h) (E.ifp (by omega) (E.ifp (by omega) ?_))))))
    rw [p1, p2, wr (n := (a.ms.length : Int) - 1) (by omega) (by omega), ra]
    refine E.bind (iha ho.1 (by omega)) (E.ifp (by omega) (E.ifp (by omega) (E.bind (ihb ho.2.1 (by omega)) (E.ifn (by simp [Tm.kind]) (E.ifp (by omega) (E.ifp (by omega) ?_))))))
    have hA : (a.kind = 3 ∧ a.isOr = true) ∨ (a.kind ≠ 3 ∧ a.isOr = false) := by cases a <;> simp [Tm.kind, Tm.isOr]
    have hB : (b.kind = 3 ∧ b.big = true) ∨ (b.kind = 2 ∧ b.big = true) ∨ (b.kind ≠ 3 ∧ b.kind ≠ 2 ∧ b.big = false) := by cases b <;> simp [Tm.kind, Tm.big]
    rcases hA with ⟨k1, o1⟩ | ⟨k1, o1⟩
    · refine E.ifp k1 (E.ifp (by omega) (E.ifp (by simp only [ByteArray.size_append, s40]; omega) (E.ifp (by omega) (E.ifp (by omega) ?_))))
      rcases hB with ⟨k2, o2⟩ | ⟨k2, o2⟩ | ⟨k2, k3, o2⟩
      · simp only [Tm.str, o1, o2, par, if_true]
        exact E.ifp k2 (E.ifp (by omega) (E.ifp (by simp only [ByteArray.size_append, s40]; omega) (E.ifp (by simp only [ByteArray.size_append, s40, s41]; omega) (E.now _))))
      · simp only [Tm.str, o1, o2, par, if_true]
        exact E.ifn (by omega) (E.ifp k2 (E.ifp (by omega) (E.ifp (by simp only [ByteArray.size_append, s40]; omega) (E.ifp (by simp only [ByteArray.size_append, s40, s41]; omega) (E.now _)))))
      · simp only [Tm.str, o1, o2, par, if_true]
        exact E.ifn k2 (E.ifn k3 (E.ifp (by simp only [ByteArray.size_append, s40, s41]; omega) (E.now _)))
    · refine E.ifn k1 (E.ifp (by omega) (E.ifp (by omega) ?_))
      rcases hB with ⟨k2, o2⟩ | ⟨k2, o2⟩ | ⟨k2, k3, o2⟩
      · simp only [Tm.str, o1, o2, par, if_true]
        exact E.ifp k2 (E.ifp (by omega) (E.ifp (by simp only [ByteArray.size_append, s40]; omega) (E.ifp (by simp only [ByteArray.size_append, s40, s41]; omega) (E.now _))))
      · simp only [Tm.str, o1, o2, par, if_true]
        exact E.ifn (by omega) (E.ifp k2 (E.ifp (by omega) (E.ifp (by simp only [ByteArray.size_append, s40]; omega) (E.ifp (by simp only [ByteArray.size_append, s40, s41]; omega) (E.now _)))))
      · simp only [Tm.str, o1, o2, par]
        exact E.ifn k2 (E.ifn k3 (E.ifp (by omega) (E.now _)))
  | orr a b iha ihb =>
    intro ho h
    have hl : (Tm.orr a b).ms.length = a.ms.length + b.ms.length + 1 := by simp [Tm.ms]; omega
    have ha := a.ms_pos
    have hb := b.ms_pos
    obtain ⟨p1, p2⟩ := parts_orr a b
    have z1 := a.str_size hc ho.1
    have z2 := b.str_size hc ho.2.1
    have rb : (rd_T34 (Tm.orr a b).ms (((Tm.orr a b).ms.length : Int) - 1 - 1)).f0 = b.kind := rd_b a.ms b [⟨3, 0⟩] _ (by omega)
    refine E.up ?_; simp only [spec_l9Text.f]
    rw [wr (n := ((Tm.orr a b).ms.length : Int) - 1) (by omega) (by omega), (Tm.orr a b).last_kind, wr (n := ((Tm.orr a b).ms.length : Int) - 1 - 1) (by omega) (by omega), rb]
    refine E.ifp (by omega) (E.ifp (by omega) (E.ifn (by simp [Tm.kind]) (E.ifn (by simp [Tm.kind]) (E.bind (starts_orr a b h) (E.ifp (by omega) (E.ifp (by omega) ?_))))))
    rw [p1, p2]
    refine E.bind (iha ho.1 (by omega)) (E.ifp (by omega) (E.ifp (by omega) (E.bind (ihb ho.2.1 (by omega)) (E.ifp rfl (E.ifp (by omega) (E.ifp (by omega) ?_))))))
    have hB : (b.kind = 3 ∧ b.isOr = true) ∨ (b.kind ≠ 3 ∧ b.isOr = false) := by cases b <;> simp [Tm.kind, Tm.isOr]
    rcases hB with ⟨k2, o2⟩ | ⟨k2, o2⟩
    · simp only [Tm.str, o2, par, if_true]
      exact E.ifp k2 (E.ifp (by omega) (E.ifp (by simp only [ByteArray.size_append, s40]; omega) (E.ifp (by omega) (E.ifp (by simp only [ByteArray.size_append, s40, s41, s124]; omega) (E.now _)))))
    · simp only [Tm.str, o2, par]
      exact E.ifn k2 (E.ifp (by omega) (E.ifp (by simp only [ByteArray.size_append, s124]; omega) (E.now _)))
theorem spec_TermText_no (c : Int) (l : List S34) (hl : l.length ≤ 1048576) (h : termB c l = false) : E (fun k => spec_TermText.f k c l) (⟨#[]⟩ : ByteArray) := by
  unfold spec_TermText.f; exact E.bind (specTermE c l hl) (E.ifn (by simp [h]) (E.now _))
theorem spec_TermText_yes (c : Int) (t : Tm) (hc : c ≤ 3) (ho : t.ok c) (h : termB c t.ms = true) (h15 : t.ms.length ≤ 15) : E (fun k => spec_TermText.f k c t.ms) t.str := by
  unfold spec_TermText.f; exact E.bind (specTermE c _ (by omega)) (E.ifp h (E.bind (spec_l9Text_ok hc t ho (by omega)) (E.now _)))

theorem b_tail (s : ByteArray) (i : Nat) : (s.extract i s.size).extract 1 (s.extract i s.size).size = s.extract (i + 1) s.size := by
  rw [ByteArray.extract_extract]; congr 1; rw [ByteArray.size_extract]; omega
theorem b_size (s : ByteArray) (i : Nat) : (s.extract i s.size).size = s.size - i := by rw [ByteArray.size_extract]; omega
theorem b_head (s : ByteArray) (i : Nat) (h : i < s.size) : bt (s.extract i s.size) 0 = bt s (i : Int) := by
  unfold bt
  rw [dif_pos (by rw [b_size]; show 0 < _; omega), dif_pos (by simpa using h)]
  simp [ByteArray.getElem_extract]
theorem b_nil (s : ByteArray) : s.toList = ([] : List UInt8) ↔ s.size = 0 := by
  rw [Go.ByteArray.toList_eq, ← data_length]
  exact List.length_eq_zero_iff.symm
theorem E.down {α : Type} {g : Nat → Option α} {r : α} (h : E g r) : E (fun k => g (k + 1)) r := by
  obtain ⟨K, hK⟩ := h
  exact ⟨K, fun k hk => hK (k + 1) (by omega)⟩

/-- both readers at one place: both go on there, or both give up -/
def Rel (s : ByteArray) (i : Nat) (r1 : List S34 × ByteArray × Bool) (r2 : List S34 × Int) : Prop :=
  (∃ (j : Nat) (ms : List S34), i < j ∧ j ≤ s.size ∧ ms.length + 1 ≤ 2 * (j - i) ∧ r1 = (ms, s.extract j s.size, true) ∧ r2 = (ms, (j : Int))) ∨
  (∃ (m1 : List S34) (x : ByteArray) (m2 : List S34), m1.length ≤ 2 * (s.size - i) ∧ m2.length ≤ 2 * (s.size - i) ∧ r1 = (m1, x, false) ∧ r2 = (m2, -1))

def Both (s : ByteArray) (i : Nat) (g1 : Nat → Option (List S34 × ByteArray × Bool)) (g2 : Nat → Option (List S34 × Int)) : Prop := ∃ r1 r2, E g1 r1 ∧ E g2 r2 ∧ Rel s i r1 r2
def Good (T : Nat → ByteArray → Option (List S34 × ByteArray × Bool)) (U : Nat → ByteArray → Int → Option (List S34 × Int)) (s : ByteArray) (i : Nat) : Prop :=
  Both s i (fun k => T k (s.extract i s.size)) (fun k => U k s (i : Int))
theorem Good.down {T : Nat → ByteArray → Option (List S34 × ByteArray × Bool)} {U : Nat → ByteArray → Int → Option (List S34 × Int)} {s : ByteArray} {i : Nat} (h : Good T U s i) : Good (fun k => T (k + 1)) (fun k => U (k + 1)) s i := by
  obtain ⟨r1, r2, e1, e2, h⟩ := h
  exact ⟨r1, r2, e1.down, e2.down, h⟩
theorem Both.no {s : ByteArray} {i : Nat} {g1 : Nat → Option (List S34 × ByteArray × Bool)} {g2 : Nat → Option (List S34 × Int)} {x : ByteArray} (h1 : E g1 ([], x, false)) (h2 : E g2 ([], -1)) : Both s i g1 g2 :=
  ⟨_, _, h1, h2, .inr ⟨[], x, [], by simp, by simp, rfl, rfl⟩⟩

theorem part_core {s : ByteArray} (hs : s.size ≤ 1048576) {T : Nat → ByteArray → Option (List S34 × ByteArray × Bool)} {U : Nat → ByteArray → Int → Option (List S34 × Int)} {i : Nat} (hi : i < s.size)
    (H : ∀ i', i < i' → i' ≤ s.size → Good T U s i') (b : Bool) :
    Both s i (fun k => impl_readPart.j0 (T k) k (s.extract i s.size) (bt s i) (s.extract (i + 1) s.size) b) (fun k => spec_l9Atom.j1 (U k) k s i b) := by
  cases b with
  | true =>
    refine ⟨([⟨0, (bt s i - 97) % 256⟩], s.extract (i + 1) s.size, true), ([⟨0, (bt s i - 97) % 256⟩], ((i + 1 : Nat) : Int)), ?_, ?_, .inl ⟨i + 1, _, by omega, by omega, by simp, rfl, rfl⟩⟩
    · refine E.up ?_; simp only [impl_readPart.j0]
      exact E.ifp trivial (E.now _)
    · refine E.up ?_; simp only [spec_l9Atom.j1]
      rw [wr (by omega) (by omega)]
      exact E.ifp trivial (E.ifp (by omega) (E.ifp (by omega) (E.now _)))
  | false =>
    by_cases h46 : bt s i = 46
    · refine ⟨([⟨1, 0⟩], s.extract (i + 1) s.size, true), ([⟨1, 0⟩], ((i + 1 : Nat) : Int)), ?_, ?_, .inl ⟨i + 1, _, by omega, by omega, by simp, rfl, rfl⟩⟩
      · refine E.up ?_; simp only [impl_readPart.j0]
        exact E.ifn (by decide) (E.ifp h46 (E.now _))
      · refine E.up ?_; simp only [spec_l9Atom.j1]
        rw [wr (by omega) (by omega)]
        exact E.ifn (by decide) (E.ifp (by omega) (E.ifp (by omega) (E.ifp h46 (E.now _))))
    by_cases h40 : bt s i = 40
    · obtain ⟨r1, r2, e1, e2, hr⟩ := (H (i + 1) (by omega) (by omega)).down
      have g1 : ∀ q, E (fun k => (T (k + 1) (s.extract (i + 1) s.size)).bind fun bt182 => (if bt182.2.2 = true then (if bt182.2.1.toList = ([] : List UInt8) then (some (([] : List (S34)), (s.extract i s.size), false)) else (if 0 < (bt182.2.1.size : Int) then (if (bt bt182.2.1 0) = 41 then (if 1 ≤ (bt182.2.1.size : Int) then (some (bt182.1, bt182.2.1.extract 1 bt182.2.1.size, true)) else (none)) else (some (([] : List (S34)), (s.extract i s.size), false))) else (none))) else (some (([] : List (S34)), (s.extract i s.size), false)))) q →
          E (fun k => impl_readPart.j0 (T k) k (s.extract i s.size) (bt s i) (s.extract (i + 1) s.size) false) q := by
        intro q hq
        refine E.up ?_; simp only [impl_readPart.j0]
        exact E.ifn (by decide) (E.ifn h46 (E.ifp h40 hq))
      have g2 : ∀ q, E (fun k => (U (k + 1) s ((i + 1 : Nat) : Int)).bind fun bt299 => (if bt299.2 < 0 then (some ((([] : List (S34))), (-1))) else (if bt299.2 ≥ (s.size : Int) then (some ((([] : List (S34))), (-1))) else (if 0 ≤ bt299.2 then (if bt299.2 < (s.size : Int) then (if (bt s bt299.2) = 41 then (some (bt299.1, wrap64 (bt299.2 + 1))) else (some ((([] : List (S34))), (-1)))) else (none)) else (none))))) q →
          E (fun k => spec_l9Atom.j1 (U k) k s i false) q := by
        intro q hq
        refine E.up ?_; simp only [spec_l9Atom.j1]
        rw [wr (by omega) (by omega), show (i : Int) + 1 = ((i + 1 : Nat) : Int) by omega]
        exact E.ifn (by decide) (E.ifp (by omega) (E.ifp (by omega) (E.ifn h46 (E.ifp h40 hq))))
      rcases hr with ⟨j, ms, hj1, hj2, hl, rfl, rfl⟩ | ⟨m1, x, m2, hm1, hm2, rfl, rfl⟩
      · by_cases hjn : j = s.size
        · refine Both.no (x := s.extract i s.size) (g1 _ (E.bind e1 (E.ifp rfl (E.ifp ?_ (E.now _))))) (g2 _ (E.bind e2 (E.ifn ?_ (E.ifp ?_ (E.now _)))))
          · rw [b_nil, b_size]; omega
          · show ¬ (j : Int) < 0; omega
          · show (j : Int) ≥ _; omega
        · have hz := b_size s j
          by_cases h41 : bt s j = 41
          · refine ⟨(ms, s.extract (j + 1) s.size, true), (ms, ((j + 1 : Nat) : Int)), g1 _ (E.bind e1 (E.ifp rfl (E.ifn ?_ (E.ifp ?_ (E.ifp ?_ (E.ifp ?_ ?_)))))), g2 _ (E.bind e2 (E.ifn ?_ (E.ifn ?_ (E.ifp ?_ (E.ifp ?_ (E.ifp ?_ ?_)))))), .inl ⟨j + 1, ms, by omega, by omega, by omega, rfl, rfl⟩⟩
            · rw [b_nil, b_size]; omega
            · rw [b_size]; omega
            · rw [b_head s j (by omega)]; exact h41
            · rw [b_size]; omega
            · simp only []; rw [b_tail]; exact E.now _
            · show ¬ (j : Int) < 0; omega
            · show ¬ (j : Int) ≥ _; omega
            · show 0 ≤ (j : Int); omega
            · show (j : Int) < _; omega
            · exact h41
            · simp only []; rw [wr (by omega) (by omega)]; exact E.now _
          · refine Both.no (x := s.extract i s.size) (g1 _ (E.bind e1 (E.ifp rfl (E.ifn ?_ (E.ifp ?_ (E.ifn ?_ (E.now _))))))) (g2 _ (E.bind e2 (E.ifn ?_ (E.ifn ?_ (E.ifp ?_ (E.ifp ?_ (E.ifn ?_ (E.now _))))))))
            · rw [b_nil, b_size]; omega
            · rw [b_size]; omega
            · rw [b_head s j (by omega)]; exact h41
            · show ¬ (j : Int) < 0; omega
            · show ¬ (j : Int) ≥ _; omega
            · show 0 ≤ (j : Int); omega
            · show (j : Int) < _; omega
            · exact h41
      · exact Both.no (x := s.extract i s.size) (g1 _ (E.bind e1 (E.ifn (by simp) (E.now _)))) (g2 _ (E.bind e2 (E.ifp (by show (-1 : Int) < 0; omega) (E.now _))))
    · refine Both.no (x := s.extract i s.size) ?_ ?_
      · refine E.up ?_; simp only [impl_readPart.j0]
        exact E.ifn (by decide) (E.ifn h46 (E.ifn h40 (E.now _)))
      · refine E.up ?_; simp only [spec_l9Atom.j1]
        exact E.ifn (by decide) (E.ifp (by omega) (E.ifp (by omega) (E.ifn h46 (E.ifn h40 (E.now _)))))

theorem part_ok {s : ByteArray} (hs : s.size ≤ 1048576) {T : Nat → ByteArray → Option (List S34 × ByteArray × Bool)} {U : Nat → ByteArray → Int → Option (List S34 × Int)} {i : Nat} (hi : i ≤ s.size)
    (H : ∀ i', i < i' → i' ≤ s.size → Good T U s i') : Both s i (fun k => impl_readPart.f (T k) k (s.extract i s.size)) (fun k => spec_l9Atom.f (U k) k s i) := by
  have hz := b_size s i
  by_cases hn : i = s.size
  · refine Both.no (x := s.extract i s.size) ?_ ?_
    · unfold impl_readPart.f
      exact E.ifp (by rw [b_nil, b_size]; omega) (E.now _)
    · unfold spec_l9Atom.f
      refine E.ifn (by omega) (E.up ?_)
      simp only [spec_l9Atom.j0]
      exact E.ifp (decide_eq_true (by omega)) (E.now _)
  · have hi : i < s.size := by omega
    obtain ⟨r1, r2, e1, _, hr⟩ := part_core hs hi H (decide (97 ≤ bt s i ∧ bt s i ≤ 99))
    obtain ⟨r1', r2', _, e2, hr'⟩ := part_core hs hi (fun i' a b => (H i' a b).down) (decide (97 ≤ bt s i ∧ bt s i ≤ 99))
    obtain ⟨q1, q2, f1, f2, hq⟩ : Both s i (fun k => impl_readPart.j0 (T k) k (s.extract i s.size) (bt s i) (s.extract (i + 1) s.size) (decide (97 ≤ bt s i ∧ bt s i ≤ 99))) (fun k => spec_l9Atom.j1 (U (k + 1)) k s i (decide (97 ≤ bt s i ∧ bt s i ≤ 99))) :=
      part_core (U := fun k => U (k + 1)) hs hi (fun i' a b => by obtain ⟨x1, x2, y1, y2, y3⟩ := H i' a b; exact ⟨x1, x2, y1, y2.down, y3⟩) _
    refine ⟨q1, q2, ?_, ?_, hq⟩
    · unfold impl_readPart.f
      refine E.ifn (by rw [b_nil, b_size]; omega) (E.ifp (by omega) (E.ifp (by omega) ?_))
      rw [b_head s i hi, b_tail]
      by_cases h : bt s i ≥ 97
      · refine E.ifp h ?_
        rw [show decide (bt s i ≤ 99) = decide (97 ≤ bt s i ∧ bt s i ≤ 99) from decide_eq_decide.2 (by omega)]
        exact f1
      · refine E.ifn h ?_
        rw [show decide (97 ≤ bt s i ∧ bt s i ≤ 99) = false from decide_eq_false (by omega)] at f1
        exact f1
    · unfold spec_l9Atom.f
      refine E.ifn (by omega) (E.up ?_)
      simp only [spec_l9Atom.j0]
      refine E.ifn (by simp; omega) (E.ifp (by omega) (E.ifp (by omega) ?_))
      by_cases h : bt s i ≥ 97
      · refine E.ifp h ?_
        rw [show decide (bt s i ≤ 99) = decide (97 ≤ bt s i ∧ bt s i ≤ 99) from decide_eq_decide.2 (by omega)]
        exact f2
      · refine E.ifn h ?_
        rw [show decide (97 ≤ bt s i ∧ bt s i ≤ 99) = false from decide_eq_false (by omega)] at f2
        exact f2

theorem then_l0 {s : ByteArray} (hs : s.size ≤ 1048576) : ∀ (d : Nat) (i0 j : Nat) (ms : List S34) (T : Nat → ByteArray → Option (List S34 × ByteArray × Bool)) (U : Nat → ByteArray → Int → Option (List S34 × Int)), s.size - j = d → i0 < j → j ≤ s.size → ms.length + 1 ≤ 2 * (j - i0) →
    (∀ i', j < i' → i' ≤ s.size → Good T U s i') → Both s i0 (fun k => impl_readThen.l0 (T k) k ms (s.extract j s.size) true) (fun k => spec_l9Row.l0 (U k) k s ms j) := by
  intro d
  induction d using Nat.strongRecOn with
  | ind d ih =>
    intro i0 j ms T U hd hij hj hl H
    have hz := b_size s j
    have stop : E (fun k => impl_readThen.l0 (T k) k ms (s.extract j s.size) true) (ms, s.extract j s.size, true) → E (fun k => spec_l9Row.l0 (U k) k s ms j) (ms, (j : Int)) → Both s i0 (fun k => impl_readThen.l0 (T k) k ms (s.extract j s.size) true) (fun k => spec_l9Row.l0 (U k) k s ms j) :=
      fun a b => ⟨_, _, a, b, .inl ⟨j, ms, hij, hj, hl, rfl, rfl⟩⟩
    by_cases hn : j = s.size
    · refine stop ?_ ?_
      · refine E.up ?_; simp only [impl_readThen.l0, if_true]
        exact E.ifp (by rw [b_nil, b_size]; omega) (E.now _)
      · refine E.up ?_; simp only [spec_l9Row.l0]
        exact E.ifp (by omega) (E.ifn (by omega) (E.now _))
    have hhd := b_head s j (by omega)
    have hne : ¬ (s.extract j s.size).toList = ([] : List UInt8) := by rw [b_nil, b_size]; omega
    by_cases h124 : bt s j = 124
    · refine stop ?_ ?_
      · refine E.up ?_; simp only [impl_readThen.l0, if_true]
        exact E.ifn hne (E.ifp (by omega) (E.ifp (by rw [hhd]; exact h124) (E.now _)))
      · refine E.up ?_; simp only [spec_l9Row.l0]
        exact E.ifp (by omega) (E.ifp (by omega) (E.ifp (by omega) (E.ifp h124 (E.now _))))
    by_cases h41 : bt s j = 41
    · refine stop ?_ ?_
      · refine E.up ?_; simp only [impl_readThen.l0, if_true]
        exact E.ifn hne (E.ifp (by omega) (E.ifn (by rw [hhd]; exact h124) (E.ifp (by rw [hhd]; exact h41) (E.now _))))
      · refine E.up ?_; simp only [spec_l9Row.l0]
        exact E.ifp (by omega) (E.ifp (by omega) (E.ifp (by omega) (E.ifn h124 (E.ifp h41 (E.now _)))))
    have Hd : ∀ i', j < i' → i' ≤ s.size → Good (fun k => T (k + 1)) (fun k => U (k + 1)) s i' := fun i' a b => (H i' a b).down
    obtain ⟨p1, p2, e1, e2, hp⟩ := part_ok hs hj Hd
    rcases hp with ⟨j', m, hj1, hj2, hm, rfl, rfl⟩ | ⟨m1, x, m2, hm1, hm2, rfl, rfl⟩
    · obtain ⟨q1, q2, f1, f2, hq⟩ := ih (s.size - j') (by omega) i0 j' (ms ++ m ++ [⟨2, 0⟩]) _ _ rfl (by omega) hj2 (by simp; omega) (fun i' a b => Hd i' (by omega) b)
      refine ⟨q1, q2, ?_, ?_, hq⟩
      · refine E.up ?_; simp only [impl_readThen.l0, if_true, Option.bind_some]
        exact E.ifn hne (E.ifp (by omega) (E.ifn (by rw [hhd]; exact h124) (E.ifn (by rw [hhd]; exact h41) (E.bind e1 (E.ifp (by simp only []; omega) (E.ifp (by simp; omega) f1))))))
      · refine E.up ?_; simp only [spec_l9Row.l0, Option.bind_some, List.nil_append]
        exact E.ifp (by omega) (E.ifp (by omega) (E.ifp (by omega) (E.ifn h124 (E.ifn h41 (E.bind e2 (E.ifp (by simp; omega) (E.ifp (by simp only []; omega) (E.ifp (by simp; omega) f2))))))))
    · refine ⟨(ms ++ m1 ++ [⟨2, 0⟩], x, false), (ms ++ m2 ++ [⟨2, 0⟩], -1), ?_, ?_, .inr ⟨_, x, _, by simp; omega, by simp; omega, rfl, rfl⟩⟩
      · refine E.up ?_; simp only [impl_readThen.l0, if_true, Option.bind_some]
        refine E.ifn hne (E.ifp (by omega) (E.ifn (by rw [hhd]; exact h124) (E.ifn (by rw [hhd]; exact h41) (E.bind e1 (E.ifp (by simp only []; omega) (E.ifp (by simp; omega) (E.up ?_)))))))
        simp only [impl_readThen.l0]
        exact E.ifn (by decide) (E.now _)
      · refine E.up ?_; simp only [spec_l9Row.l0, Option.bind_some, List.nil_append]
        refine E.ifp (by omega) (E.ifp (by omega) (E.ifp (by omega) (E.ifn h124 (E.ifn h41 (E.bind e2 (E.ifp (by simp; omega) (E.ifp (by simp only []; omega) (E.ifp (by simp; omega) (E.up ?_)))))))))
        simp only [spec_l9Row.l0]
        exact E.ifn (by decide) (E.now _)

theorem then_ok {s : ByteArray} (hs : s.size ≤ 1048576) {T : Nat → ByteArray → Option (List S34 × ByteArray × Bool)} {U : Nat → ByteArray → Int → Option (List S34 × Int)} {i : Nat} (hi : i ≤ s.size)
    (H : ∀ i', i < i' → i' ≤ s.size → Good T U s i') : Both s i (fun k => impl_readThen.f (T k) k (s.extract i s.size)) (fun k => spec_l9Row.f (U k) k s i) := by
  obtain ⟨p1, p2, e1, e2, hp⟩ := part_ok hs hi H
  rcases hp with ⟨j, m, hj1, hj2, hm, rfl, rfl⟩ | ⟨m1, x, m2, hm1, hm2, rfl, rfl⟩
  · obtain ⟨q1, q2, f1, f2, hq⟩ := then_l0 hs (s.size - j) i j m T U rfl hj1 hj2 hm (fun i' a b => H i' (by omega) b)
    refine ⟨q1, q2, ?_, ?_, hq⟩
    · unfold impl_readThen.f; exact E.bind e1 f1
    · unfold spec_l9Row.f; exact E.bind e2 f2
  · refine ⟨(m1, x, false), (m2, -1), ?_, ?_, .inr ⟨_, x, _, hm1, hm2, rfl, rfl⟩⟩
    · unfold impl_readThen.f
      refine E.bind e1 (E.up ?_); simp only [impl_readThen.l0]
      exact E.ifn (by decide) (E.now _)
    · unfold spec_l9Row.f
      refine E.bind e2 (E.up ?_); simp only [spec_l9Row.l0]
      exact E.ifn (by decide) (E.now _)

theorem or_l0 {s : ByteArray} (hs : s.size ≤ 1048576) : ∀ (d : Nat) (i0 j : Nat) (ms : List S34), s.size - j = d → i0 < j → j ≤ s.size → ms.length + 1 ≤ 2 * (j - i0) →
    (∀ i', j < i' → i' ≤ s.size → Good impl_readOr.f spec_l9Or.f s i') → Both s i0 (fun k => impl_readOr.l0 k ms (s.extract j s.size) true) (fun k => spec_l9Or.l0 k s ms j) := by
  intro d
  induction d using Nat.strongRecOn with
  | ind d ih =>
    intro i0 j ms hd hij hj hl H
    have hz := b_size s j
    have stop : E (fun k => impl_readOr.l0 k ms (s.extract j s.size) true) (ms, s.extract j s.size, true) → E (fun k => spec_l9Or.l0 k s ms j) (ms, (j : Int)) → Both s i0 (fun k => impl_readOr.l0 k ms (s.extract j s.size) true) (fun k => spec_l9Or.l0 k s ms j) :=
      fun a b => ⟨_, _, a, b, .inl ⟨j, ms, hij, hj, hl, rfl, rfl⟩⟩
    by_cases hn : j = s.size
    · refine stop ?_ ?_
      · refine E.up ?_; simp only [impl_readOr.l0, if_true]
        exact E.ifp (by rw [b_nil, b_size]; omega) (E.now _)
      · refine E.up ?_; simp only [spec_l9Or.l0]
        exact E.ifp (by omega) (E.ifn (by omega) (E.now _))
    have hhd := b_head s j (by omega)
    have hne : ¬ (s.extract j s.size).toList = ([] : List UInt8) := by rw [b_nil, b_size]; omega
    by_cases h124 : bt s j = 124
    · obtain ⟨p1, p2, e1, e2, hp⟩ := then_ok hs (show j + 1 ≤ s.size by omega) (fun i' a b => H i' (by omega) b)
      rcases hp with ⟨j', m, hj1, hj2, hm, rfl, rfl⟩ | ⟨m1, x, m2, hm1, hm2, rfl, rfl⟩
      · obtain ⟨q1, q2, f1, f2, hq⟩ := ih (s.size - j') (by omega) i0 j' (ms ++ m ++ [⟨3, 0⟩]) rfl (by omega) hj2 (by simp; omega) (fun i' a b => H i' (by omega) b)
        refine ⟨q1, q2, ?_, ?_, hq⟩
        · refine E.up ?_; simp only [impl_readOr.l0, if_true, Option.bind_some]
          rw [b_tail]
          exact E.ifn hne (E.ifp (by omega) (E.ifp (by rw [hhd]; exact h124) (E.ifp (by omega) (E.bind e1 (E.ifp (by simp only []; omega) (E.ifp (by simp; omega) f1))))))
        · refine E.up ?_; simp only [spec_l9Or.l0, Option.bind_some, List.nil_append]
          rw [wr (by omega) (by omega), show (j : Int) + 1 = ((j + 1 : Nat) : Int) by omega]
          exact E.ifp (by omega) (E.ifp (by omega) (E.ifp (by omega) (E.ifp h124 (E.bind e2 (E.ifp (by simp; omega) (E.ifp (by simp only []; omega) (E.ifp (by simp; omega) f2)))))))
      · refine ⟨(ms ++ m1 ++ [⟨3, 0⟩], x, false), (ms ++ m2 ++ [⟨3, 0⟩], -1), ?_, ?_, .inr ⟨_, x, _, by simp; omega, by simp; omega, rfl, rfl⟩⟩
        · refine E.up ?_; simp only [impl_readOr.l0, if_true, Option.bind_some]
          rw [b_tail]
          refine E.ifn hne (E.ifp (by omega) (E.ifp (by rw [hhd]; exact h124) (E.ifp (by omega) (E.bind e1 (E.ifp (by simp only []; omega) (E.ifp (by simp; omega) (E.up ?_)))))))
          simp only [impl_readOr.l0]
          exact E.ifn (by decide) (E.now _)
        · refine E.up ?_; simp only [spec_l9Or.l0, Option.bind_some, List.nil_append]
          rw [wr (by omega) (by omega), show (j : Int) + 1 = ((j + 1 : Nat) : Int) by omega]
          refine E.ifp (by omega) (E.ifp (by omega) (E.ifp (by omega) (E.ifp h124 (E.bind e2 (E.ifp (by simp; omega) (E.ifp (by simp only []; omega) (E.ifp (by simp; omega) (E.up ?_))))))))
          simp only [spec_l9Or.l0]
          exact E.ifn (by decide) (E.now _)
    · refine stop ?_ ?_
      · refine E.up ?_; simp only [impl_readOr.l0, if_true]
        exact E.ifn hne (E.ifp (by omega) (E.ifn (by rw [hhd]; exact h124) (E.now _)))
      · refine E.up ?_; simp only [spec_l9Or.l0]
        exact E.ifp (by omega) (E.ifp (by omega) (E.ifp (by omega) (E.ifn h124 (E.now _))))

theorem or_ok {s : ByteArray} (hs : s.size ≤ 1048576) : ∀ (d i : Nat), s.size - i = d → i ≤ s.size → Good impl_readOr.f spec_l9Or.f s i := by
  intro d
  induction d using Nat.strongRecOn with
  | ind d ih =>
    intro i hd hi
    have H : ∀ i', i < i' → i' ≤ s.size → Good impl_readOr.f spec_l9Or.f s i' := fun i' a b => ih (s.size - i') (by omega) i' rfl b
    obtain ⟨p1, p2, e1, e2, hp⟩ := then_ok hs hi H
    rcases hp with ⟨j, m, hj1, hj2, hm, rfl, rfl⟩ | ⟨m1, x, m2, hm1, hm2, rfl, rfl⟩
    · obtain ⟨q1, q2, f1, f2, hq⟩ := or_l0 hs (s.size - j) i j m rfl hj1 hj2 hm (fun i' a b => H i' (by omega) b)
      refine ⟨q1, q2, ?_, ?_, hq⟩
      · refine E.up ?_; simp only [impl_readOr.f]; exact E.bind e1 f1
      · refine E.up ?_; simp only [spec_l9Or.f]; exact E.bind e2 f2
    · refine ⟨(m1, x, false), (m2, -1), ?_, ?_, .inr ⟨_, x, _, hm1, hm2, rfl, rfl⟩⟩
      · refine E.up ?_; simp only [impl_readOr.f]
        refine E.bind e1 (E.up ?_); simp only [impl_readOr.l0]
        exact E.ifn (by decide) (E.now _)
      · refine E.up ?_; simp only [spec_l9Or.f]
        refine E.bind e2 (E.up ?_); simp only [spec_l9Or.l0]
        exact E.ifn (by decide) (E.now _)

theorem t_size {L r : ByteArray} : (L ++ r).size = L.size + r.size := by simp [ByteArray.size_append]
theorem t_head (L r : ByteArray) (h : 1 ≤ L.size) : bt (L ++ r) 0 = bt L 0 := by
  unfold bt
  rw [dif_pos (by rw [t_size]; show 0 < _; omega), dif_pos (by show 0 < _; omega)]
  congr 2
  exact ByteArray.getElem_append_left (by show 0 < _; omega)
theorem t_tail (L r : ByteArray) (h : L.size = 1) : (L ++ r).extract 1 (L ++ r).size = r :=
  ByteArray.extract_append_eq_right h.symm (by rw [t_size])
theorem t_assoc (a b c : ByteArray) : (a ++ b) ++ c = a ++ (b ++ c) := ByteArray.append_assoc

def IsR (T : Nat → ByteArray → Option (List S34 × ByteArray × Bool)) : Prop := ∃ m, ∀ k, T k = impl_readOr.f (k + m)
theorem IsR.down {T : Nat → ByteArray → Option (List S34 × ByteArray × Bool)} (h : IsR T) : IsR (fun k => T (k + 1)) := by
  obtain ⟨m, hm⟩ := h
  exact ⟨m + 1, fun k => by show T (k + 1) = _; rw [hm, show k + 1 + m = k + (m + 1) by omega]⟩
theorem IsR.self : IsR impl_readOr.f := ⟨0, fun _ => rfl⟩
theorem IsR.use {T : Nat → ByteArray → Option (List S34 × ByteArray × Bool)} (h : IsR T) {x : ByteArray} {r : List S34 × ByteArray × Bool} (e : E (fun k => impl_readOr.f k x) r) : E (fun k => T k x) r := by
  obtain ⟨m, hm⟩ := h
  obtain ⟨K, hK⟩ := e
  exact ⟨K, fun k hk => by show T k x = _; rw [hm]; exact hK (k + m) (by omega)⟩

theorem read_step {T : Nat → ByteArray → Option (List S34 × ByteArray × Bool)} {x tail : ByteArray} {v : Int} {q : List S34 × ByteArray × Bool} (hx : 1 ≤ x.size) (hv : bt x 0 = v) (ht : x.extract 1 x.size = tail)
    (h : E (fun k => impl_readPart.j0 (T k) k x v tail (decide (97 ≤ v ∧ v ≤ 99))) q) : E (fun k => impl_readPart.f (T k) k x) q := by
  unfold impl_readPart.f
  refine E.ifn (by rw [b_nil]; omega) (E.ifp (by omega) (E.ifp (by omega) ?_))
  rw [hv, ht]
  by_cases h97 : v ≥ 97
  · refine E.ifp h97 ?_
    rw [show decide (v ≤ 99) = decide (97 ≤ v ∧ v ≤ 99) from decide_eq_decide.2 (by omega)]
    exact h
  · refine E.ifn h97 ?_
    rw [show decide (97 ≤ v ∧ v ≤ 99) = false from decide_eq_false (by omega)] at h
    exact h

theorem part_col {c n : Int} (hc : c ≤ 3) (ho : (Tm.col n).ok c) (T : Nat → ByteArray → Option (List S34 × ByteArray × Bool)) (rest : ByteArray) : E (fun k => impl_readPart.f (T k) k ((Tm.col n).str ++ rest)) ((Tm.col n).ms, rest, true) := by
  obtain ⟨h1, h2⟩ := ho
  have hb : (Tm.col n).str.size = 1 ∧ bt (Tm.col n).str 0 = 97 + n := by
    have : n = 0 ∨ n = 1 ∨ n = 2 := by omega
    rcases this with rfl | rfl | rfl <;> exact ⟨by decide +kernel, by decide +kernel⟩
  refine read_step (v := 97 + n) (tail := rest) (by rw [t_size]; omega) (by rw [t_head _ _ (by omega)]; exact hb.2) (t_tail _ _ hb.1) (E.up ?_)
  simp only [impl_readPart.j0]
  refine E.ifp (decide_eq_true (by omega)) ?_
  rw [show (97 + n - 97) % 256 = n by omega]
  exact E.now _
theorem part_any (T : Nat → ByteArray → Option (List S34 × ByteArray × Bool)) (rest : ByteArray) : E (fun k => impl_readPart.f (T k) k (Tm.any.str ++ rest)) (Tm.any.ms, rest, true) := by
  have hb : Tm.any.str.size = 1 ∧ bt Tm.any.str 0 = 46 := ⟨by decide +kernel, by decide +kernel⟩
  refine read_step (v := 46) (tail := rest) (by rw [t_size]; omega) (by rw [t_head _ _ (by omega)]; exact hb.2) (t_tail _ _ hb.1) (E.up ?_)
  simp only [impl_readPart.j0]
  exact E.ifn (by decide) (E.ifp trivial (E.now _))
theorem part_held {T : Nat → ByteArray → Option (List S34 × ByteArray × Bool)} {s rest : ByteArray} {ms : List S34} (h : E (fun k => T k (s ++ ((⟨#[41]⟩ : ByteArray) ++ rest))) (ms, (⟨#[41]⟩ : ByteArray) ++ rest, true)) :
    E (fun k => impl_readPart.f (T k) k (par true s ++ rest)) (ms, rest, true) := by
  have b40 : bt (⟨#[40]⟩ : ByteArray) 0 = 40 := by decide +kernel
  have b41 : bt (⟨#[41]⟩ : ByteArray) 0 = 41 := by decide +kernel
  have e : par true s ++ rest = (⟨#[40]⟩ : ByteArray) ++ (s ++ ((⟨#[41]⟩ : ByteArray) ++ rest)) := by
    simp only [par, if_true]; rw [t_assoc, t_assoc]
  rw [e]
  refine read_step (v := 40) (tail := s ++ ((⟨#[41]⟩ : ByteArray) ++ rest)) (by rw [t_size, s40]; omega) (by rw [t_head _ _ (by rw [s40]; omega)]; exact b40) (t_tail _ _ s40) (E.up ?_)
  simp only [impl_readPart.j0]
  refine E.ifn (by decide) (E.ifn (by decide) (E.ifp trivial (E.bind h.down (E.ifp rfl (E.ifn ?_ (E.ifp ?_ (E.ifp ?_ (E.ifp ?_ ?_))))))))
  · rw [b_nil, t_size, s41]; omega
  · rw [t_size, s41]; omega
  · rw [t_head _ _ (by rw [s41]; omega)]; exact b41
  · rw [t_size, s41]; omega
  · simp only []; rw [t_tail _ _ s41]; exact E.now _

def Stop (rest : ByteArray) : Prop := rest.size = 0 ∨ bt rest 0 = 124 ∨ bt rest 0 = 41
theorem then_stop (T : Nat → ByteArray → Option (List S34 × ByteArray × Bool)) (ms : List S34) {rest : ByteArray} (h : Stop rest) : E (fun k => impl_readThen.l0 (T k) k ms rest true) (ms, rest, true) := by
  refine E.up ?_; simp only [impl_readThen.l0, if_true]
  by_cases h0 : rest.size = 0
  · exact E.ifp ((b_nil rest).2 h0) (E.now _)
  refine E.ifn (by rw [b_nil]; exact h0) (E.ifp (by omega) ?_)
  by_cases h1 : bt rest 0 = 124
  · exact E.ifp h1 (E.now _)
  · refine E.ifn h1 (E.ifp ?_ (E.now _))
    rcases h with h | h | h
    · exact absurd h h0
    · exact absurd h h1
    · exact h
theorem or_stop (ms : List S34) {rest : ByteArray} (h : rest.size = 0 ∨ bt rest 0 = 41) : E (fun k => impl_readOr.l0 k ms rest true) (ms, rest, true) := by
  refine E.up ?_; simp only [impl_readOr.l0, if_true]
  by_cases h0 : rest.size = 0
  · exact E.ifp ((b_nil rest).2 h0) (E.now _)
  refine E.ifn (by rw [b_nil]; exact h0) (E.ifp (by omega) (E.ifn ?_ (E.now _)))
  rcases h with h | h
  · exact absurd h h0
  · omega

theorem par_first {s : ByteArray} (h : 1 ≤ s.size ∧ bt s 0 ≠ 124 ∧ bt s 0 ≠ 41) (b : Bool) : 1 ≤ (par b s).size ∧ bt (par b s) 0 ≠ 124 ∧ bt (par b s) 0 ≠ 41 := by
  cases b with
  | false => exact h
  | true =>
    have b40 : bt (⟨#[40]⟩ : ByteArray) 0 = 40 := by decide +kernel
    have e : par true s = (⟨#[40]⟩ : ByteArray) ++ (s ++ (⟨#[41]⟩ : ByteArray)) := by simp only [par, if_true]; rw [t_assoc]
    rw [e, t_head _ _ (by rw [s40]; omega), b40, t_size, s40]
    exact ⟨by omega, by omega, by omega⟩
theorem Tm.str_first {c : Int} (hc : c ≤ 3) (t : Tm) : t.ok c → 1 ≤ t.str.size ∧ bt t.str 0 ≠ 124 ∧ bt t.str 0 ≠ 41 := by
  induction t with
  | col n =>
    intro ho
    obtain ⟨h1, h2⟩ := ho
    have : n = 0 ∨ n = 1 ∨ n = 2 := by omega
    rcases this with rfl | rfl | rfl <;> exact ⟨by decide +kernel, by decide +kernel, by decide +kernel⟩
  | any => intro _; exact ⟨by decide +kernel, by decide +kernel, by decide +kernel⟩
  | thn a b iha _ =>
    intro ho
    have h := par_first (iha ho.1) a.isOr
    simp only [Tm.str]
    rw [t_head _ _ h.1, t_size]
    exact ⟨by omega, h.2.1, h.2.2⟩
  | orr a b iha _ =>
    intro ho
    have h := iha ho.1
    simp only [Tm.str]
    rw [t_assoc, t_head _ _ h.1, t_size]
    exact ⟨by omega, h.2.1, h.2.2⟩

def RA (t : Tm) : Prop := ∀ rest r, Stop rest → E (fun k => impl_readOr.l0 k t.ms rest true) r → E (fun k => impl_readOr.f k (t.str ++ rest)) r
def RB (t : Tm) : Prop := t.isOr = false → ∀ rest r, (∀ T, IsR T → E (fun k => impl_readThen.l0 (T k) k t.ms rest true) r) → ∀ T, IsR T → E (fun k => impl_readThen.f (T k) k (t.str ++ rest)) r

theorem RA_of_RB {t : Tm} (h : t.isOr = false) (hB : RB t) : RA t := by
  intro rest r hs hr
  refine E.up ?_; simp only [impl_readOr.f]
  exact E.bind (hB h rest (t.ms, rest, true) (fun T _ => then_stop T _ hs) _ IsR.self) hr
theorem held_of_RA {t : Tm} (hA : RA t) {T : Nat → ByteArray → Option (List S34 × ByteArray × Bool)} (hT : IsR T) (rest : ByteArray) : E (fun k => impl_readPart.f (T k) k (par true t.str ++ rest)) (t.ms, rest, true) := by
  have b41 : bt (⟨#[41]⟩ : ByteArray) 0 = 41 := by decide +kernel
  have h : bt ((⟨#[41]⟩ : ByteArray) ++ rest) 0 = 41 := by rw [t_head _ _ (by rw [s41]; omega)]; exact b41
  exact part_held (hT.use (hA _ _ (.inr (.inr h)) (or_stop _ (.inr h))))
theorem part_big {c : Int} (hc : c ≤ 3) {t : Tm} (ho : t.ok c) (hA : RA t) {T : Nat → ByteArray → Option (List S34 × ByteArray × Bool)} (hT : IsR T) (rest : ByteArray) : E (fun k => impl_readPart.f (T k) k (par t.big t.str ++ rest)) (t.ms, rest, true) := by
  cases t with
  | col n => exact part_col hc ho T rest
  | any => exact part_any T rest
  | thn a b => exact held_of_RA hA hT rest
  | orr a b => exact held_of_RA hA hT rest

theorem trips {c : Int} (hc : c ≤ 3) (t : Tm) : t.ok c → t.ms.length ≤ 1000 → RA t ∧ RB t := by
  induction t with
  | col n =>
    intro ho _
    have hB : RB (.col n) := by
      intro _ rest r hr T hT
      unfold impl_readThen.f
      exact E.bind (part_col hc ho T rest) (hr T hT)
    exact ⟨RA_of_RB rfl hB, hB⟩
  | any =>
    intro ho _
    have hB : RB .any := by
      intro _ rest r hr T hT
      unfold impl_readThen.f
      exact E.bind (part_any T rest) (hr T hT)
    exact ⟨RA_of_RB rfl hB, hB⟩
  | thn a b iha ihb =>
    intro ho hl
    have hl' : (Tm.thn a b).ms.length = a.ms.length + b.ms.length + 1 := by simp [Tm.ms]; omega
    obtain ⟨aA, aB⟩ := iha ho.1 (by omega)
    obtain ⟨bA, bB⟩ := ihb ho.2.1 (by omega)
    have hf := par_first (b.str_first hc ho.2.1) b.big
    have hB : RB (.thn a b) := by
      intro _ rest r hr T hT
      have cont : ∀ T, IsR T → E (fun k => impl_readThen.l0 (T k) k a.ms (par b.big b.str ++ rest) true) r := by
        intro T hT
        refine E.up ?_; simp only [impl_readThen.l0, if_true, Option.bind_some]
        refine E.ifn ?_ (E.ifp ?_ (E.ifn ?_ (E.ifn ?_ (E.bind (part_big hc ho.2.1 bA hT.down rest) (E.ifp (by simp only []; omega) (E.ifp (by simp; omega) (hr _ hT.down)))))))
        · rw [b_nil, t_size]; omega
        · rw [t_size]; omega
        · rw [t_head _ _ hf.1]; exact hf.2.1
        · rw [t_head _ _ hf.1]; exact hf.2.2
      have e : (Tm.thn a b).str ++ rest = par a.isOr a.str ++ (par b.big b.str ++ rest) := by simp only [Tm.str]; rw [t_assoc]
      rw [e]
      cases hi : a.isOr with
      | true =>
        unfold impl_readThen.f
        exact E.bind (held_of_RA aA hT _) (cont T hT)
      | false => exact aB hi _ r cont T hT
    exact ⟨RA_of_RB rfl hB, hB⟩
  | orr a b iha ihb =>
    intro ho hl
    have hl' : (Tm.orr a b).ms.length = a.ms.length + b.ms.length + 1 := by simp [Tm.ms]; omega
    obtain ⟨aA, aB⟩ := iha ho.1 (by omega)
    obtain ⟨bA, bB⟩ := ihb ho.2.1 (by omega)
    refine ⟨?_, fun h => by cases h⟩
    intro rest r hs hr
    have b124 : bt (⟨#[124]⟩ : ByteArray) 0 = 124 := by decide +kernel
    have e : (Tm.orr a b).str ++ rest = a.str ++ ((⟨#[124]⟩ : ByteArray) ++ (par b.isOr b.str ++ rest)) := by simp only [Tm.str]; rw [t_assoc, t_assoc]
    have hh : bt ((⟨#[124]⟩ : ByteArray) ++ (par b.isOr b.str ++ rest)) 0 = 124 := by rw [t_head _ _ (by rw [s124]; omega)]; exact b124
    rw [e]
    refine aA _ r (.inr (.inl hh)) (E.up ?_)
    simp only [impl_readOr.l0, if_true, Option.bind_some]
    rw [t_tail _ _ s124]
    have hthen : E (fun k => impl_readThen.f (impl_readOr.f k) k (par b.isOr b.str ++ rest)) (b.ms, rest, true) := by
      cases hi : b.isOr with
      | true =>
        unfold impl_readThen.f
        exact E.bind (held_of_RA bA IsR.self _) (then_stop _ _ hs)
      | false => exact bB hi rest _ (fun T _ => then_stop T _ hs) _ IsR.self
    refine E.ifn ?_ (E.ifp ?_ (E.ifp hh (E.ifp ?_ (E.bind hthen (E.ifp (by simp only []; omega) (E.ifp (by simp; omega) hr))))))
    · rw [b_nil, t_size, s124]; omega
    · rw [t_size, s124]; omega
    · rw [t_size, s124]; omega

theorem b_whole (s : ByteArray) : s.extract 0 s.size = s := by simp
theorem colours_ok (c : Int) : impl_coloursOk.f c = some (decide (1 ≤ c ∧ c ≤ 3)) := by
  unfold impl_coloursOk.f
  by_cases h : c ≥ 1
  · rw [if_pos h]; congr 1; apply decide_eq_decide.2; omega
  · rw [if_neg h]; rw [decide_eq_false (by omega)]
theorem reads (c : Int) (s : ByteArray) (hs : s.size ≤ 1048576) : ∃ r : List S34 × Bool, r.1.length ≤ 1048576 ∧ E (fun k => impl_ReadTerm.f k c s) r ∧ E (fun k => spec_ReadTerm.f k c s) r ∧
    (r = ([], false) ∨ ∃ t : Tm, t.ok c ∧ termB c t.ms = true ∧ t.ms.length ≤ 15 ∧ 1 ≤ c ∧ c ≤ 3 ∧ t.str.toList = s.toList ∧ s.size ≤ 60 ∧ r = (t.ms, true)) := by
  have no : E (fun k => impl_ReadTerm.f k c s) ([], false) → E (fun k => spec_ReadTerm.f k c s) ([], false) → ∃ r : List S34 × Bool, r.1.length ≤ 1048576 ∧ E (fun k => impl_ReadTerm.f k c s) r ∧ E (fun k => spec_ReadTerm.f k c s) r ∧
    (r = ([], false) ∨ ∃ t : Tm, t.ok c ∧ termB c t.ms = true ∧ t.ms.length ≤ 15 ∧ 1 ≤ c ∧ c ≤ 3 ∧ t.str.toList = s.toList ∧ s.size ≤ 60 ∧ r = (t.ms, true)) := fun a b => ⟨_, by simp, a, b, .inl rfl⟩
  by_cases h60 : (s.size : Int) > 60
  · refine no ?_ ?_
    · unfold impl_ReadTerm.f
      refine E.bind (E.const (colours_ok c)) ?_
      cases decide (1 ≤ c ∧ c ≤ 3) with
      | true =>
        refine E.ifp rfl (E.up ?_); simp only [impl_ReadTerm.j0]
        exact E.ifp (decide_eq_true h60) (E.now _)
      | false =>
        refine E.ifn (by decide) (E.up ?_); simp only [impl_ReadTerm.j0]
        exact E.ifp trivial (E.now _)
    · unfold spec_ReadTerm.f; exact E.ifp h60 (E.now _)
  obtain ⟨r1, r2, e1, e2, hr⟩ := or_ok hs s.size 0 (by omega) (by omega)
  rw [b_whole] at e1
  have e2 : E (fun k => spec_l9Or.f k s 0) r2 := e2
  have z0 : (⟨#[]⟩ : ByteArray).toList = ([] : List UInt8) := by rw [b_nil]; rfl
  by_cases hc : 1 ≤ c ∧ c ≤ 3
  · have imp : ∀ q, E (fun k => (impl_readOr.f k s).bind fun bt220 => (if bt220.2.2 = true then (if bt220.2.1.toList = ([] : List UInt8) then ((impl_TermText.f k c bt220.1).bind fun t225 => (if t225.toList = s.toList then (some (bt220.1, true)) else (some (([] : List (S34)), false)))) else (some (([] : List (S34)), false))) else (some (([] : List (S34)), false)))) q → E (fun k => impl_ReadTerm.f k c s) q := by
      intro q hq
      unfold impl_ReadTerm.f
      refine E.bind (E.const (colours_ok c)) (E.ifp (decide_eq_true hc) (E.up ?_))
      simp only [impl_ReadTerm.j0]
      exact E.ifn (by simp; omega) hq
    have spe : ∀ q, E (fun k => (spec_l9Or.f k s 0).bind fun bt358 => (if bt358.2 = (s.size : Int) then ((spec_TermOk.f k c bt358.1).bind fun t362 => (if t362 = true then ((spec_l9Text.f k bt358.1).bind fun t363 => (if t363.toList = s.toList then (some (bt358.1, true)) else (some ((([] : List (S34))), false)))) else (some ((([] : List (S34))), false)))) else (some ((([] : List (S34))), false)))) q → E (fun k => spec_ReadTerm.f k c s) q := by
      intro q hq
      unfold spec_ReadTerm.f
      exact E.ifn h60 hq
    rcases hr with ⟨j, ms, hj1, hj2, hl, rfl, rfl⟩ | ⟨m1, x, m2, hm1, hm2, rfl, rfl⟩
    · by_cases hj : j = s.size
      · have hn : (s.extract j s.size).toList = ([] : List UInt8) := by rw [b_nil, b_size]; omega
        have hs0 : s.toList ≠ ([] : List UInt8) := by intro e; rw [b_nil] at e; omega
        rcases term_cases c ms with h | ⟨h, _, h3, t, ho, e, h15⟩
        · refine no (imp _ (E.bind e1 (E.ifp rfl (E.ifp hn (E.bind (impl_TermText_no c ms (by omega) h) (E.ifn ?_ (E.now _))))))) (spe _ (E.bind e2 (E.ifp (by show (j : Int) = _; omega) (E.bind (specTermE c ms (by omega)) (E.ifn (by simp [h]) (E.now _))))))
          rw [z0]; exact fun e => hs0 e.symm
        · subst e
          by_cases ht : t.str.toList = s.toList
          · refine ⟨(t.ms, true), by simp only []; omega, imp _ (E.bind e1 (E.ifp rfl (E.ifp hn (E.bind (impl_TermText_yes c t h3 ho h h15) (E.ifp ht (E.now _)))))), spe _ (E.bind e2 (E.ifp (by show (j : Int) = _; omega) (E.bind (specTermE c t.ms (by omega)) (E.ifp h (E.bind (spec_l9Text_ok h3 t ho (by omega)) (E.ifp ht (E.now _))))))), .inr ⟨t, ho, h, h15, hc.1, hc.2, ht, by omega, rfl⟩⟩
          · exact no (imp _ (E.bind e1 (E.ifp rfl (E.ifp hn (E.bind (impl_TermText_yes c t h3 ho h h15) (E.ifn ht (E.now _))))))) (spe _ (E.bind e2 (E.ifp (by show (j : Int) = _; omega) (E.bind (specTermE c t.ms (by omega)) (E.ifp h (E.bind (spec_l9Text_ok h3 t ho (by omega)) (E.ifn ht (E.now _))))))))
      · refine no (imp _ (E.bind e1 (E.ifp rfl (E.ifn ?_ (E.now _))))) (spe _ (E.bind e2 (E.ifn ?_ (E.now _))))
        · rw [b_nil, b_size]; omega
        · show ¬ (j : Int) = _; omega
    · exact no (imp _ (E.bind e1 (E.ifn (by simp) (E.now _)))) (spe _ (E.bind e2 (E.ifn (by show ¬ (-1 : Int) = _; omega) (E.now _))))
  · refine no ?_ ?_
    · unfold impl_ReadTerm.f
      refine E.bind (E.const (colours_ok c)) (E.ifn (by simpa using hc) (E.up ?_))
      simp only [impl_ReadTerm.j0]
      exact E.ifp trivial (E.now _)
    · unfold spec_ReadTerm.f
      refine E.ifn h60 (E.bind e2 ?_)
      have bad : ∀ l : List S34, termB c l = false := by
        intro l
        rcases term_cases c l with h | ⟨_, h1, h3, _⟩
        · exact h
        · exact absurd ⟨h1, h3⟩ hc
      have hlen : r2.1.length ≤ 1048576 := by
        rcases hr with ⟨j, ms, hj1, hj2, hl, rfl, rfl⟩ | ⟨m1, x, m2, hm1, hm2, rfl, rfl⟩
        · show ms.length ≤ _; omega
        · show m2.length ≤ _; omega
      by_cases hj : r2.2 = (s.size : Int)
      · exact E.ifp hj (E.bind (specTermE c _ hlen) (E.ifn (by simp [bad]) (E.now _)))
      · exact E.ifn hj (E.now _)

theorem read_or {c : Int} (hc : c ≤ 3) (t : Tm) (ho : t.ok c) (hl : t.ms.length ≤ 1000) : E (fun k => impl_readOr.f k t.str) (t.ms, (⟨#[]⟩ : ByteArray), true) := by
  have h := (trips hc t ho hl).1 (⟨#[]⟩ : ByteArray) (t.ms, (⟨#[]⟩ : ByteArray), true) (.inl rfl) (or_stop _ (.inl rfl))
  have e : t.str ++ (⟨#[]⟩ : ByteArray) = t.str := ByteArray.append_empty
  rw [e] at h
  exact h
theorem read_text {c : Int} (t : Tm) (h1 : 1 ≤ c) (h3 : c ≤ 3) (ho : t.ok c) (h : termB c t.ms = true) (h15 : t.ms.length ≤ 15) : E (fun k => impl_ReadTerm.f k c t.str) (t.ms, true) := by
  have hz := t.str_size h3 ho
  unfold impl_ReadTerm.f
  refine E.bind (E.const (colours_ok c)) (E.ifp (decide_eq_true ⟨h1, h3⟩) (E.up ?_))
  simp only [impl_ReadTerm.j0]
  refine E.ifn (by simp; omega) (E.bind (read_or h3 t ho (by omega)) (E.ifp rfl (E.ifp ((b_nil _).2 rfl) (E.bind (impl_TermText_yes c t h3 ho h h15) (E.ifp rfl (E.now _))))))

theorem sameMarks_l0 (a : List S34) (hl : a.length ≤ 17592186044416) : ∀ (d i f : Nat), i + d = a.length → d < f → laws_sameMarks.l0 f a a (i : Int) = some true := by
  intro d
  induction d with
  | zero =>
    intro i f hi hf
    obtain ⟨f, rfl⟩ : ∃ g, f = g + 1 := ⟨f - 1, by omega⟩
    simp only [laws_sameMarks.l0]; rw [if_neg (by omega)]
  | succ d ih =>
    intro i f hi hf
    obtain ⟨f, rfl⟩ : ∃ g, f = g + 1 := ⟨f - 1, by omega⟩
    simp only [laws_sameMarks.l0]
    rw [if_pos (by omega), if_pos (by omega), if_pos (by omega), if_neg (by simp), wr (by omega) (by omega)]
    exact ih (i + 1) f (by omega) (by omega)
theorem sameMarksE (a : List S34) (hl : a.length ≤ 1048576) : E (fun k => laws_sameMarks.f k a a) true := by
  refine E.from_ (a.length + 2) (fun k hk => ?_)
  unfold laws_sameMarks.f
  rw [if_pos rfl]
  exact sameMarks_l0 a (by omega) a.length 0 k (by omega) (by omega)


theorem alive_ok (f : Nat) (hf : 5 ≤ f) : laws_alive.f f = some true := by
  obtain ⟨f, rfl⟩ : ∃ g, f = g + 5 := ⟨f - 5, by omega⟩
  have h1 : impl_UrnOk.f (f + 5) [1] = some true := by
    simp [impl_UrnOk.f, impl_UrnOk.l0, impl_coloursOk.f, rd, wrap64]
  have h2 : impl_UrnOk.f (f + 5) [] = some false := by
    simp [impl_UrnOk.f, impl_UrnOk.l0, impl_coloursOk.f]
  unfold laws_alive.f
  rw [h1, h2]; rfl

theorem alive_e : E (fun k => laws_alive.f k) true := E.from_ 5 alive_ok
theorem bytes_eq {a b : ByteArray} (h : a.toList = b.toList) : a = b := by
  rw [Go.ByteArray.toList_eq, Go.ByteArray.toList_eq] at h
  cases a with
  | mk x => cases b with
    | mk y =>
      congr 1
      exact Array.ext' h

theorem read_held {c : Int} (t : Tm) (h1 : 1 ≤ c) (h3 : c ≤ 3) (ho : t.ok c) (h : termB c t.ms = true) (h15 : t.ms.length ≤ 15) : E (fun k => impl_ReadTerm.f k c (par true t.str)) ([], false) := by
  have hz := t.str_size h3 ho
  have hz2 : (par true t.str).size = t.str.size + 2 := by simp only [par, if_true, ByteArray.size_append, s40, s41]; omega
  unfold impl_ReadTerm.f
  refine E.bind (E.const (colours_ok c)) (E.ifp (decide_eq_true ⟨h1, h3⟩) (E.up ?_))
  simp only [impl_ReadTerm.j0]
  by_cases h60 : ((par true t.str).size : Int) > 60
  · exact E.ifp (decide_eq_true h60) (E.now _)
  refine E.ifn (by simp; omega) ?_
  have hA := (trips h3 t ho (by omega)).1
  have hp := held_of_RA hA IsR.self (⟨#[]⟩ : ByteArray)
  have e : par true t.str ++ (⟨#[]⟩ : ByteArray) = par true t.str := ByteArray.append_empty
  rw [e] at hp
  have hr : E (fun k => impl_readOr.f k (par true t.str)) (t.ms, (⟨#[]⟩ : ByteArray), true) := by
    refine E.up ?_; simp only [impl_readOr.f]
    refine E.bind (a := (t.ms, (⟨#[]⟩ : ByteArray), true)) ?_ (or_stop _ (.inl rfl))
    unfold impl_readThen.f
    exact E.bind hp (then_stop _ _ (.inl rfl))
  refine E.bind hr (E.ifp rfl (E.ifp ((b_nil _).2 rfl) (E.bind (impl_TermText_yes c t h3 ho h h15) (E.ifn ?_ (E.now _)))))
  intro e
  have := congrArg ByteArray.size (bytes_eq e)
  omega

theorem FnReadTerm : laws_FnReadTerm.Pure := by
  intro l0 hm _ hb
  unfold maxLen at hm
  refine E.use (r := true) ?_
  unfold laws_FnReadTerm.f
  by_cases hlen : (l0.length : Int) > 1048576
  · exact E.ifp hlen (E.now _)
  refine E.ifn hlen ?_
  have hd : Dr (fun k => spec_DrawReadTerm.f k l0) (fun r => r.2.size ≤ 1000) := by
    unfold spec_DrawReadTerm.f
    refine Dr.bind (open_dr hb) fun b ⟨b0, b1, b2⟩ => ?_
    refine Dr.bind (pick_dr b1 b2 3 (by omega) (by omega)) fun r1 ⟨_, _, _, _⟩ => ?_
    refine Dr.bind (term_dr b1 b2 _ 0 r1.2 (by omega) (by omega)) fun r2 ⟨g1, g2, g3⟩ => ?_
    have htx : Dr (fun k => spec_TermText.f k (wrap64 (1 + r1.1)) r2.1) (fun s => s.size ≤ 60) := by
      rcases term_cases (wrap64 (1 + r1.1)) r2.1 with h | ⟨h, h1, h3, t, ho, e, h15⟩
      · exact ⟨_, spec_TermText_no _ _ (by omega) h, by show 0 ≤ 60; omega⟩
      · rw [e] at h ⊢
        exact ⟨_, spec_TermText_yes _ t h3 ho h h15, by have := t.str_size h3 ho; omega⟩
    refine Dr.bind htx fun s hs => ?_
    have hj : ∀ (x : Bool) (p : Int), (x = true → 0 < s.size) → 0 ≤ p → p < 20000 → Dr (fun k => spec_DrawReadTerm.j0 k (wrap64 (1 + r1.1)) s x b.1 p) (fun r => r.2.size ≤ 1000) := by
      intro x p hx hp0 hp1
      refine Dr.up ?_
      simp only [spec_DrawReadTerm.j0]
      cases x with
      | false =>
        refine Dr.ifn (by decide) ?_
        exact Dr.now _ (by show s.size ≤ 1000; omega)
      | true =>
        have hx := hx rfl
        refine Dr.ifp rfl ?_
        refine Dr.bind (pick_dr b1 b2 _ hp0 (by omega)) fun r4 ⟨_, _, _, _⟩ => ?_
        refine Dr.ifp (by omega) (Dr.ifp (by omega) ?_)
        simp only [Option.bind_some]
        refine Dr.bind (pick_dr b1 b2 7 (by omega) (by omega)) fun r5 ⟨_, _, _, _⟩ => ?_
        generalize hw : rdOf ByteArray.empty [(⟨#[]⟩ : ByteArray), (⟨#[40]⟩ : ByteArray), (⟨#[41]⟩ : ByteArray), (⟨#[124]⟩ : ByteArray), (⟨#[46]⟩ : ByteArray), (⟨#[97]⟩ : ByteArray), (⟨#[100]⟩ : ByteArray)] r5.1 = w
        have hw1 : w.size ≤ 1 := by
          have h7 : r5.1 = 0 ∨ r5.1 = 1 ∨ r5.1 = 2 ∨ r5.1 = 3 ∨ r5.1 = 4 ∨ r5.1 = 5 ∨ r5.1 = 6 := by omega
          rw [← hw]
          rcases h7 with h | h | h | h | h | h | h <;> rw [h] <;> decide +kernel
        refine Dr.ifp (by omega) (Dr.ifp (by simp; omega) (Dr.ifp (by simp only [ByteArray.size_extract]; omega) ?_))
        refine Dr.bind (pick_dr b1 b2 2 (by omega) (by omega)) fun r6 ⟨_, _, _, _⟩ => ?_
        rw [wr (n := r4.1 + r6.1) (by omega) (by omega)]
        refine Dr.ifp (by omega) (Dr.ifp (by omega) (Dr.ifp (by simp only [ByteArray.size_append, ByteArray.size_extract]; omega) ?_))
        exact Dr.now _ (by simp only [ByteArray.size_append, ByteArray.size_extract]; omega)
    refine Dr.bind (pick_dr b1 b2 3 g2 (by omega)) fun r3 ⟨_, _, _, _⟩ => ?_
    by_cases h0 : r3.1 = 0
    · exact Dr.ifp h0 (hj _ _ (fun h => by simpa using h) (by omega) (by omega))
    · exact Dr.ifn h0 (hj _ _ (fun h => by cases h) (by omega) (by omega))
  obtain ⟨⟨c, s⟩, hr, hl⟩ := hd
  have hl : s.size ≤ 1000 := hl
  refine E.bind (a := (c, s)) hr ?_
  obtain ⟨r, hrl, e1, e2, hcase⟩ := reads c s (by omega)
  refine E.bind e1 (E.bind e2 (E.bind (sameMarksE r.1 hrl) (E.ifp rfl (E.up ?_))))
  simp only [laws_FnReadTerm.j0]
  refine E.ifn (by simp) ?_
  rcases hcase with rfl | ⟨t, ho, h, h15, h1, h3, hst, h60, rfl⟩
  · exact E.ifn (by simp) (E.ifp rfl (E.bind alive_e (E.now _)))
  · have est : t.str = s := bytes_eq hst
    subst est
    refine E.ifp rfl (E.ifp (by omega) (E.ifp (by simp only [ByteArray.size_append, s40]; omega) ?_))
    refine E.bind (a := (([] : List S34), false)) ?_ (E.bind (impl_TermText_yes c t h3 ho h h15) (E.ifp rfl (E.bind (implTermE c t.ms (by omega)) (E.ifp h (E.now _)))))
    have := read_held t h1 h3 ho h h15
    simp only [par, if_true] at this
    exact this

end Go.Proofs.Ytpnloocdeljmhaa.Pure
