/- FnTermWays: for all arguments that the statement lets in, the law answers true. No condition of ours. -/
import Derived.Test.YtojaioejdfibhaaOFnTermWaysx13
namespace Go.Proofs.Ytojaioejdfibhaa.Pure
open Go.RowKit Go.Proofs.Ytojaioejdfibhaa.PFnTermWays Go.Proofs.YtojaioejdfibhaaW.PrintWords Go.Proofs.YtojaioejdfibhaaW.PrintLast
theorem wr {n : Int} (h0 : -9223372036854775808 ≤ n) (h1 : n < 9223372036854775808) : wrap64 n = n := by unfold wrap64; omega
theorem rd_byte {b : List Int} (hb : ∀ x ∈ b, 0 ≤ x ∧ x < 256) (i : Int) : 0 ≤ rd b i ∧ rd b i < 256 := by
  unfold rd
  rw [List.getD_eq_getElem?_getD]
  cases h : b[i.toNat]? with
  | none => simp
  | some x => exact hb x (List.mem_of_getElem? h)
theorem xor_nonneg {a c : Int} (ha : 0 ≤ a) (ha' : a < 4611686018427387904) (hc : 0 ≤ c) (hc' : c < 4611686018427387904) : 0 ≤ Go.bits .xor .i64 a c := by
  obtain ⟨a, rfl⟩ := Int.eq_ofNat_of_zero_le ha
  obtain ⟨c, rfl⟩ := Int.eq_ofNat_of_zero_le hc
  have ha2 : a < 2 ^ 62 := by omega
  have hc2 : c < 2 ^ 62 := by omega
  have hx := Nat.xor_lt_two_pow ha2 hc2
  have h1 : a % 2 ^ 64 = a := Nat.mod_eq_of_lt (by omega)
  have h2 : c % 2 ^ 64 = c := Nat.mod_eq_of_lt (by omega)
  have e : Go.bits .xor .i64 (a : Int) (c : Int) = wrap64 ((a ^^^ c : Nat) : Int) := by
    simp only [Go.bits, BitVec.ofInt_natCast, BitVec.toNat_xor, BitVec.toNat_ofNat]
    rw [show Go.IntKind.i64.bits = 64 from rfl, h1, h2, Go.IntKind.wrap_i64]
    unfold wrap64
    with_reducible rfl
  rw [e, wr (by omega) (by omega)]
  omega
theorem tmod_lt {x n : Int} (hx : 0 ≤ x) (hn : 1 ≤ n) : 0 ≤ Int.tmod x n ∧ Int.tmod x n < n :=
  ⟨Int.tmod_nonneg n hx, Int.tmod_lt_of_pos x (by omega)⟩
theorem tdiv_le (x n : Int) (hx : 0 ≤ x) : Int.tdiv x n ≤ x := by
  by_cases hn : n = 0
  · subst hn; simp; omega
  by_cases h : 0 ≤ n
  · rw [Int.tdiv_eq_ediv_of_nonneg hx]; exact Int.ediv_le_self n hx
  · have : Int.tdiv x n ≤ 0 := Int.tdiv_nonpos_of_nonneg_of_nonpos hx (by omega)
    omega
theorem pick_ok {b : List Int} (hb : ∀ x ∈ b, 0 ≤ x ∧ x < 256) (hl : b.length ≤ 2000) {p : Int} (n : Int) (hp0 : 0 ≤ p) (hp1 : p < 1000000000) :
    ∃ v, (∀ k, 1 ≤ k → spec_l20Rd_pick.f k b p n = some (v, p + 1)) ∧ 0 ≤ v ∧ (v = 0 ∨ v < n) := by
  have e0 : wrap64 (p + 1) = p + 1 := wr (by omega) (by omega)
  have e1 : wrap64 (p + 1 - 1) = p := by rw [wr (by omega) (by omega)]; omega
  by_cases hn : n < 1
  · refine ⟨0, fun k hk => ?_, Int.le_refl _, .inl rfl⟩
    obtain ⟨k, rfl⟩ : ∃ m, k = m + 1 := ⟨k - 1, by omega⟩
    unfold spec_l20Rd_pick.f; rw [if_pos hn, e0]; simp only [spec_l20Rd_pick.j0, if_true]
  by_cases hz : (b.length : Int) = 0
  · refine ⟨0, fun k hk => ?_, Int.le_refl _, .inl rfl⟩
    obtain ⟨k, rfl⟩ : ∃ m, k = m + 1 := ⟨k - 1, by omega⟩
    unfold spec_l20Rd_pick.f; rw [if_neg hn, e0, hz]; simp only [spec_l20Rd_pick.j0, beq_self_eq_true, if_true]
  have hz' : ((b.length : Int) == 0) = false := by simpa using hz
  by_cases hp : p < (b.length : Int)
  · have hr := rd_byte hb p
    have ew : wrap64 (rd b p) = rd b p := wr (by omega) (by omega)
    have hm := tmod_lt (n := n) hr.1 (by omega)
    refine ⟨Int.tmod (rd b p) n, fun k hk => ?_, hm.1, .inr hm.2⟩
    obtain ⟨k, rfl⟩ : ∃ m, k = m + 1 := ⟨k - 1, by omega⟩
    unfold spec_l20Rd_pick.f; rw [if_neg hn, e0, hz']; simp only [spec_l20Rd_pick.j0]; rw [e1, if_neg (by decide), if_pos hp, if_pos hp0, if_neg (by omega), ew]
  · have hL : (1 : Int) ≤ b.length := by omega
    have m1 := tmod_lt (n := (b.length : Int)) hp0 hL
    have e7 : wrap64 (p * 7) = p * 7 := wr (by omega) (by omega)
    have e73 : wrap64 (p * 7 + 3) = p * 7 + 3 := wr (by omega) (by omega)
    have m2 := tmod_lt (x := p * 7 + 3) (n := (b.length : Int)) (by omega) hL
    have r1 := rd_byte hb (Int.tmod p (b.length : Int))
    have r2 := rd_byte hb (Int.tmod (p * 7 + 3) (b.length : Int))
    have d0 : 0 ≤ Int.tdiv p (b.length : Int) := Int.tdiv_nonneg hp0 (by omega)
    have d1 : Int.tdiv p (b.length : Int) ≤ p := tdiv_le p _ hp0
    have ex : ∃ v, (∀ k, spec_l20Rd_pick.j0 (k + 1) n false b (p + 1) = some (v, p + 1)) ∧ 0 ≤ v ∧ (v = 0 ∨ v < n) := by
      simp only [spec_l20Rd_pick.j0]
      rw [e1, if_neg (by decide), if_neg hp, if_neg hz, if_pos m1.1, if_pos m1.2, e7, e73, if_pos m2.1, if_pos m2.2, if_neg (show ¬ n = 0 by omega)]
      generalize rd b (Int.tmod p (b.length : Int)) = x1 at r1
      generalize rd b (Int.tmod (p * 7 + 3) (b.length : Int)) = x2 at r2
      generalize Int.tdiv p (b.length : Int) = q at d0 d1
      rw [wr (n := x1) (by omega) (by omega), wr (n := x2) (by omega) (by omega), wr (n := x1 * 131) (by omega) (by omega), wr (n := x2 * 1117) (by omega) (by omega),
        wr (n := x1 * 131 + x2 * 1117) (by omega) (by omega), wr (n := p * 29) (by omega) (by omega), wr (n := x1 * 131 + x2 * 1117 + p * 29) (by omega) (by omega),
        wr (n := q) (by omega) (by omega), wr (n := q * 53) (by omega) (by omega), wr (n := x1 * 131 + x2 * 1117 + p * 29 + q * 53) (by omega) (by omega)]
      have hX : 0 ≤ x1 * 131 + x2 * 1117 + p * 29 + q * 53 := by omega
      have hX' : x1 * 131 + x2 * 1117 + p * 29 + q * 53 < 4611686018427387904 := by omega
      generalize x1 * 131 + x2 * 1117 + p * 29 + q * 53 = X at hX hX'
      have q0 : 0 ≤ Int.tdiv X 64 := Int.tdiv_nonneg hX (by omega)
      have q1 : Int.tdiv X 64 ≤ X := tdiv_le X 64 hX
      rw [wr (n := Int.tdiv X 64) (by omega) (by omega)]
      have hm := tmod_lt (n := n) (xor_nonneg hX hX' q0 (by omega)) (by omega)
      exact ⟨_, fun _ => rfl, hm.1, .inr hm.2⟩
    obtain ⟨v, hv, h0, h1⟩ := ex
    refine ⟨v, fun k hk => ?_, h0, h1⟩
    obtain ⟨k, rfl⟩ : ∃ m, k = m + 1 := ⟨k - 1, by omega⟩
    unfold spec_l20Rd_pick.f; rw [if_neg hn, e0, hz', hv]
theorem open_ok {l : List Int} (hl : ∀ x ∈ l, (Lit.int .u8 x).wf = true) :
    ∃ b, spec_l20Open.f l = some (b, 0) ∧ (∀ x ∈ b, 0 ≤ x ∧ x < 256) ∧ b.length ≤ 2000 := by
  have hl' : ∀ x ∈ l, 0 ≤ x ∧ x < 256 := fun x hx => by
    have := hl x hx
    simp [Lit.wf, Go.IntKind.min, Go.IntKind.max, Go.IntKind.bits, Go.IntKind.signed] at this
    omega
  unfold spec_l20Open.f
  by_cases h : (l.length : Int) > 2000
  · rw [if_pos h, if_pos (by omega)]
    exact ⟨_, rfl, fun x hx => hl' x (List.mem_of_mem_take hx), by simp; omega⟩
  · rw [if_neg h]
    exact ⟨_, rfl, hl', by omega⟩
theorem pick_one {b : List Int} (hb : ∀ x ∈ b, 0 ≤ x ∧ x < 256) (hl : b.length ≤ 2000) {p : Int} (n : Int) (hp0 : 0 ≤ p) (hp1 : p < 1000000000) :
    ∃ v q, (∀ k, 1 ≤ k → spec_l20Rd_pick.f k b p n = some (v, q)) ∧ 0 ≤ v ∧ (v = 0 ∨ v < n) ∧ 0 ≤ q ∧ q ≤ p + 1 := by
  obtain ⟨v, h, h0, h1⟩ := pick_ok hb hl n hp0 hp1
  exact ⟨v, p + 1, h, h0, h1, by omega, by omega⟩
def Dr {α : Type} (g : Nat → Option α) (Q : α → Prop) : Prop := ∃ r, (∃ K, ∀ k, K ≤ k → g k = some r) ∧ Q r
theorem Dr.now {α : Type} {Q : α → Prop} (r : α) (h : Q r) : Dr (fun _ => some r) Q := ⟨r, ⟨0, fun _ _ => rfl⟩, h⟩
theorem Dr.const {α : Type} {Q : α → Prop} {g : Option α} {r : α} (e : g = some r) (h : Q r) : Dr (fun _ => g) Q := ⟨r, ⟨0, fun _ _ => e⟩, h⟩
theorem Dr.bind {α β : Type} {g : Nat → Option α} {f : Nat → α → Option β} {P : α → Prop} {Q : β → Prop} (h : Dr g P) (k : ∀ a, P a → Dr (fun n => f n a) Q) : Dr (fun n => (g n).bind (f n)) Q := by
  obtain ⟨a, ⟨K, hK⟩, hP⟩ := h
  obtain ⟨r, ⟨L, hL⟩, hQ⟩ := k a hP
  exact ⟨r, ⟨K + L, fun n hn => by show (g n).bind (f n) = _; rw [hK n (by omega)]; exact hL n (by omega)⟩, hQ⟩
theorem Dr.step {α : Type} {g f : Nat → Option α} {Q : α → Prop} (h : ∀ k, g (k + 1) = f k) (d : Dr f Q) : Dr g Q := by
  obtain ⟨r, ⟨K, hK⟩, hQ⟩ := d
  refine ⟨r, ⟨K + 1, fun n hn => ?_⟩, hQ⟩
  obtain ⟨n, rfl⟩ : ∃ m, n = m + 1 := ⟨n - 1, by omega⟩
  rw [h]; exact hK n (by omega)
theorem Dr.congr {α : Type} {g f : Nat → Option α} {Q : α → Prop} (h : ∀ k, g k = f k) (d : Dr f Q) : Dr g Q := by
  obtain ⟨r, ⟨K, hK⟩, hQ⟩ := d
  exact ⟨r, ⟨K, fun n hn => by rw [h]; exact hK n hn⟩, hQ⟩
theorem Dr.ifp {α : Type} {c : Prop} [Decidable c] {g f : Nat → Option α} {Q : α → Prop} (h : c) (d : Dr g Q) : Dr (fun k => if c then g k else f k) Q := by
  simp only [if_pos h]; exact d
theorem Dr.ifn {α : Type} {c : Prop} [Decidable c] {g f : Nat → Option α} {Q : α → Prop} (h : ¬ c) (d : Dr f Q) : Dr (fun k => if c then g k else f k) Q := by
  simp only [if_neg h]; exact d
theorem pick_dr {b : List Int} (hb : ∀ x ∈ b, 0 ≤ x ∧ x < 256) (hl : b.length ≤ 2000) {p : Int} (n : Int) (hp0 : 0 ≤ p) (hp1 : p < 1000000000) :
    Dr (fun k => spec_l20Rd_pick.f k b p n) (fun r => 0 ≤ r.1 ∧ (r.1 = 0 ∨ r.1 < n) ∧ 0 ≤ r.2 ∧ r.2 ≤ p + 1) := by
  obtain ⟨v, q, h, h0, h1, h2, h3⟩ := pick_one hb hl n hp0 hp1
  exact ⟨(v, q), ⟨1, h⟩, h0, h1, h2, h3⟩
theorem open_dr {l : List Int} (hl : ∀ x ∈ l, (Lit.int .u8 x).wf = true) :
    Dr (fun _ => spec_l20Open.f l) (fun r => r.2 = 0 ∧ (∀ x ∈ r.1, 0 ≤ x ∧ x < 256) ∧ r.1.length ≤ 2000) := by
  obtain ⟨b, h, h1, h2⟩ := open_ok hl
  exact Dr.const h ⟨rfl, h1, h2⟩
theorem Dr.up {α : Type} {g : Nat → Option α} {Q : α → Prop} (d : Dr (fun k => g (k + 1)) Q) : Dr g Q := Dr.step (fun _ => rfl) d
theorem odd_dr {b : List Int} (hb : ∀ x ∈ b, 0 ≤ x ∧ x < 256) (hl : b.length ≤ 2000) {p : Int} (n : Int) (hp0 : 0 ≤ p) (hp1 : p < 1000000000) :
    Dr (fun k => spec_l20Rd_odd.f k b p n) (fun r => 0 ≤ r.2 ∧ r.2 ≤ p + 1) := by
  unfold spec_l20Rd_odd.f
  by_cases h : n > 0
  · refine Dr.ifp h ?_
    refine Dr.bind (pick_dr hb hl n hp0 hp1) fun r ⟨_, _, _, _⟩ => ?_
    exact Dr.now _ ⟨by omega, by omega⟩
  · refine Dr.ifn h ?_
    exact Dr.now _ ⟨hp0, by omega⟩
def PartGood (b : List Int) (a1 d : Int) (u v n : Nat) : Prop := ∀ p : Int, 0 ≤ p → p + 100 * n + 1000 * d < 1000000 →
  Dr (fun k => spec_l20Part.f k b p a1 (n : Int) d) (fun r => r.1.length + 1 ≤ u * n ∧ 0 ≤ r.2 ∧ r.2 + 2 ≤ p + ((v * n : Nat) : Int))
theorem part_step {b : List Int} (hb : ∀ x ∈ b, 0 ≤ x ∧ x < 256) (hl : b.length ≤ 2000) (a1 d : Int) (u v n : Nat) (hd : (d = 0 ∧ u = 2 ∧ v = 4) ∨ (d = 1 ∧ u = 4 ∧ v = 12)) (hn1 : 1 ≤ n) (hn : n ≤ 3)
    (hA : ∀ i, 1 ≤ i → i < n → PartGood b a1 d u v i) (hB : ∀ i, 1 ≤ i → i ≤ n → (i < n ∨ d = 1) → PartGood b a1 0 2 4 i) : PartGood b a1 d u v n := by
  intro p hp0 hp1
  have hv : v * n ≤ 36 := by
    have : v ≤ 12 := by omega
    exact Nat.le_trans (Nat.mul_le_mul this hn) (by decide)
  refine Dr.up ?_
  simp only [spec_l20Part.f]
  -- leaf or an or, one pick behind
  have two : ∀ q : Int, 0 ≤ q → q ≤ p + 2 → (d = 0 → q ≤ p + 1) → (d = 0 → n = 1 → q = p) → ∀ x : Bool, (x = true → d = 1) → Dr (fun k => spec_l20Part.j1 k a1 (n : Int) d x b q) (fun r => r.1.length + 1 ≤ u * n ∧ 0 ≤ r.2 ∧ r.2 + 2 ≤ p + ((v * n : Nat) : Int)) := by
    intro q hq0 hq1 hq2 hq3 x hx
    refine Dr.up ?_
    simp only [spec_l20Part.j1]
    cases x with
    | true =>
      obtain rfl := hx rfl
      obtain ⟨rfl, rfl⟩ : u = 4 ∧ v = 12 := by omega
      refine Dr.ifp rfl ?_
      rw [wr (n := (1 : Int) - 1) (by omega) (by omega)]
      refine Dr.bind (hB n hn1 (Nat.le_refl _) (.inr rfl) q hq0 (by omega)) fun r1 ⟨g1, g2, g3⟩ => ?_
      refine Dr.bind (hB n hn1 (Nat.le_refl _) (.inr rfl) r1.2 g2 (by omega)) fun r2 ⟨g4, g5, g6⟩ => ?_
      refine Dr.ifp (by omega) ?_
      simp only [Option.bind_some]
      refine Dr.ifp (by simp; omega) ?_
      exact Dr.now _ ⟨by simp; omega, g5, by show r2.2 + 2 ≤ _; omega⟩
    | false =>
      refine Dr.ifn (by decide) ?_
      by_cases h1 : n = 1
      · subst h1
        refine Dr.ifp rfl ?_
        refine Dr.bind (pick_dr hb hl 4 hq0 (by omega)) fun r1 ⟨_, _, _, _⟩ => ?_
        by_cases h : r1.1 = 0
        · refine Dr.ifp h ?_
          exact Dr.now _ ⟨by simp; omega, by show 0 ≤ r1.2; omega, by show r1.2 + 2 ≤ _; rcases hd with ⟨rfl, rfl, rfl⟩ | ⟨rfl, rfl, rfl⟩ <;> omega⟩
        · refine Dr.ifn h ?_
          refine Dr.bind (pick_dr hb hl _ (by omega) (by omega)) fun r2 ⟨_, _, _, _⟩ => ?_
          exact Dr.now _ ⟨by simp; omega, by show 0 ≤ r2.2; omega, by show r2.2 + 2 ≤ _; rcases hd with ⟨rfl, rfl, rfl⟩ | ⟨rfl, rfl, rfl⟩ <;> omega⟩
      · refine Dr.ifn (by omega) ?_
        rw [wr (n := (n : Int) - 1) (by omega) (by omega)]
        refine Dr.bind (pick_dr hb hl _ hq0 (by omega)) fun r0 ⟨_, _, _, _⟩ => ?_
        rw [wr (n := 1 + r0.1) (by omega) (by omega), wr (n := (n : Int) - (1 + r0.1)) (by omega) (by omega)]
        obtain ⟨i, hi⟩ := Int.eq_ofNat_of_zero_le (show 0 ≤ 1 + r0.1 by omega)
        rw [hi, show (n : Int) - (i : Int) = ((n - i : Nat) : Int) by omega]
        have e : u * n = u * i + u * (n - i) := by rw [← Nat.mul_add]; congr 1; omega
        have e' : v * n = v * i + v * (n - i) := by rw [← Nat.mul_add]; congr 1; omega
        refine Dr.bind (hB i (by omega) (by omega) (.inl (by omega)) r0.2 (by omega) (by rcases hd with ⟨rfl, rfl, rfl⟩ | ⟨rfl, rfl, rfl⟩ <;> omega)) fun r1 ⟨g1, g2, g3⟩ => ?_
        refine Dr.bind (hB (n - i) (by omega) (by omega) (.inl (by omega)) r1.2 g2 (by rcases hd with ⟨rfl, rfl, rfl⟩ | ⟨rfl, rfl, rfl⟩ <;> omega)) fun r2 ⟨g4, g5, g6⟩ => ?_
        refine Dr.ifp (by omega) ?_
        simp only [Option.bind_some]
        refine Dr.ifp (by simp; omega) ?_
        have m1 : 2 * i ≤ u * i := Nat.mul_le_mul (by omega) (Nat.le_refl _)
        have m2 : 2 * (n - i) ≤ u * (n - i) := Nat.mul_le_mul (by omega) (Nat.le_refl _)
        have m3 : 4 * i ≤ v * i := Nat.mul_le_mul (by omega) (Nat.le_refl _)
        have m4 : 4 * (n - i) ≤ v * (n - i) := Nat.mul_le_mul (by omega) (Nat.le_refl _)
        exact Dr.now _ ⟨by simp; omega, g5, by show r2.2 + 2 ≤ _; rcases hd with ⟨rfl, rfl, rfl⟩ | ⟨rfl, rfl, rfl⟩ <;> omega⟩
  have one : ∀ q : Int, 0 ≤ q → q ≤ p + 1 → (n = 1 → q = p) → ∀ x : Bool, (x = true → 1 < n) → Dr (fun k => spec_l20Part.j0 k a1 (n : Int) d x b q) (fun r => r.1.length + 1 ≤ u * n ∧ 0 ≤ r.2 ∧ r.2 + 2 ≤ p + ((v * n : Nat) : Int)) := by
    intro q hq0 hq1 hq3 x hx
    refine Dr.up ?_
    simp only [spec_l20Part.j0]
    cases x with
    | true =>
      have hn2 := hx rfl
      refine Dr.ifp rfl ?_
      rw [wr (n := (n : Int) - 1) (by omega) (by omega)]
      refine Dr.bind (pick_dr hb hl _ hq0 (by omega)) fun r0 ⟨_, _, _, _⟩ => ?_
      rw [wr (n := 1 + r0.1) (by omega) (by omega), wr (n := (n : Int) - (1 + r0.1)) (by omega) (by omega)]
      obtain ⟨i, hi⟩ := Int.eq_ofNat_of_zero_le (show 0 ≤ 1 + r0.1 by omega)
      rw [hi, show (n : Int) - (i : Int) = ((n - i : Nat) : Int) by omega]
      have e : u * n = u * i + u * (n - i) := by rw [← Nat.mul_add]; congr 1; omega
      have e' : v * n = v * i + v * (n - i) := by rw [← Nat.mul_add]; congr 1; omega
      refine Dr.bind (hA i (by omega) (by omega) r0.2 (by omega) (by rcases hd with ⟨rfl, rfl, rfl⟩ | ⟨rfl, rfl, rfl⟩ <;> omega)) fun r1 ⟨g1, g2, g3⟩ => ?_
      refine Dr.bind (hA (n - i) (by omega) (by omega) r1.2 g2 (by rcases hd with ⟨rfl, rfl, rfl⟩ | ⟨rfl, rfl, rfl⟩ <;> omega)) fun r2 ⟨g4, g5, g6⟩ => ?_
      have hu : u * n ≤ 12 := Nat.le_trans (Nat.mul_le_mul (show u ≤ 4 by omega) hn) (by decide)
      refine Dr.ifp (by omega) ?_
      simp only [Option.bind_some]
      refine Dr.ifp (by simp; omega) ?_
      exact Dr.now _ ⟨by simp; omega, g5, by show r2.2 + 2 ≤ _; rcases hd with ⟨rfl, rfl, rfl⟩ | ⟨rfl, rfl, rfl⟩ <;> omega⟩
    | false =>
      refine Dr.ifn (by decide) ?_
      by_cases hd0 : d > 0
      · refine Dr.ifp hd0 ?_
        refine Dr.bind (pick_dr hb hl 3 hq0 (by omega)) fun r0 ⟨_, _, _, _⟩ => ?_
        exact two r0.2 (by omega) (by omega) (fun _ => by omega) (fun _ => by omega) _ (fun _ => by omega)
      · refine Dr.ifn hd0 ?_
        exact two q hq0 (by omega) (fun _ => by omega) (fun _ h => hq3 h) false (fun h => by cases h)
  by_cases h1 : (n : Int) > 1
  · refine Dr.ifp h1 ?_
    refine Dr.bind (pick_dr hb hl 3 hp0 (by omega)) fun r0 ⟨_, _, _, _⟩ => ?_
    exact one r0.2 (by omega) (by omega) (fun _ => by omega) _ (fun _ => by omega)
  · refine Dr.ifn h1 ?_
    exact one p hp0 (by omega) (fun _ => rfl) false (fun h => by cases h)
theorem part0 {b : List Int} (hb : ∀ x ∈ b, 0 ≤ x ∧ x < 256) (hl : b.length ≤ 2000) (a1 : Int) : ∀ n, 1 ≤ n → n ≤ 3 → PartGood b a1 0 2 4 n := by
  intro n
  induction n using Nat.strongRecOn with
  | ind n ih =>
    intro h1 h3
    exact part_step hb hl a1 0 2 4 n (.inl ⟨rfl, rfl, rfl⟩) h1 h3 (fun i hi hin => ih i hin hi (by omega)) (fun i hi hin h => ih i (by rcases h with h | h; exact h; omega) hi (by omega))
theorem part1 {b : List Int} (hb : ∀ x ∈ b, 0 ≤ x ∧ x < 256) (hl : b.length ≤ 2000) (a1 : Int) : ∀ n, 1 ≤ n → n ≤ 3 → PartGood b a1 1 4 12 n := by
  intro n
  induction n using Nat.strongRecOn with
  | ind n ih =>
    intro h1 h3
    exact part_step hb hl a1 1 4 12 n (.inr ⟨rfl, rfl, rfl⟩) h1 h3 (fun i hi hin => ih i hin hi (by omega)) (fun i hi hin _ => part0 hb hl a1 i hi (by omega))
theorem term_dr {b : List Int} (hb : ∀ x ∈ b, 0 ≤ x ∧ x < 256) (hl : b.length ≤ 2000) (a1 a2 p : Int) (hp0 : 0 ≤ p) (hp1 : p < 10000) :
    Dr (fun k => spec_l20Term.f k b p a1 a2) (fun r => r.1.length ≤ 14 ∧ 0 ≤ r.2 ∧ r.2 ≤ p + 60) := by
  unfold spec_l20Term.f
  refine Dr.bind (pick_dr hb hl 3 hp0 (by omega)) fun r0 ⟨_, _, _, _⟩ => ?_
  rw [wr (n := 1 + r0.1) (by omega) (by omega)]
  obtain ⟨i, hi⟩ := Int.eq_ofNat_of_zero_le (show 0 ≤ 1 + r0.1 by omega)
  rw [hi]
  refine Dr.bind (part1 hb hl a1 i (by omega) (by omega) r0.2 (by omega) (by omega)) fun r1 ⟨g1, g2, g3⟩ => ?_
  refine Dr.bind (odd_dr hb hl a2 g2 (by omega)) fun r2 ⟨_, _⟩ => ?_
  by_cases h : r2.1 = true
  · refine Dr.ifp h ?_
    refine Dr.bind (pick_dr hb hl 3 (by omega) (by omega)) fun r3 ⟨_, _, _, _⟩ => ?_
    by_cases h0 : r3.1 = 0
    · refine Dr.ifp h0 ?_
      exact Dr.now _ ⟨by simp, by show 0 ≤ r3.2; omega, by show r3.2 ≤ _; omega⟩
    · refine Dr.ifn h0 ?_
      by_cases h2 : r3.1 = 1
      · refine Dr.ifp h2 (Dr.ifp (by omega) ?_)
        exact Dr.now _ ⟨by simp; omega, by show 0 ≤ r3.2; omega, by show r3.2 ≤ _; omega⟩
      · refine Dr.ifn h2 ?_
        simp only [Option.bind_some]
        refine Dr.ifp (by simp; omega) (Dr.ifp (by simp; omega) ?_)
        exact Dr.now _ ⟨by simp; omega, by show 0 ≤ r3.2; omega, by show r3.2 ≤ _; omega⟩
  · refine Dr.ifn h ?_
    exact Dr.now _ ⟨by show r1.1.length ≤ _; omega, by show 0 ≤ r2.2; omega, by show r2.2 ≤ _; omega⟩
theorem rd_nat (l : List Int) (i : Nat) (h : i < l.length) : rd l (i : Int) = l[i] := by
  unfold rd
  rw [Int.toNat_natCast, List.getD_eq_getElem?_getD, List.getElem?_eq_getElem h]; rfl
theorem rd_getD (l : List Int) (i : Nat) : rd l (i : Int) = l.getD i 0 := by
  unfold rd; rw [Int.toNat_natCast]
theorem l1In_ok (a b c : Int) : spec_l1In.f a b c = some (decide (b ≤ a ∧ a ≤ c)) := by
  unfold spec_l1In.f
  by_cases h : a ≥ b
  · rw [if_pos h]; simp [h]
  · rw [if_neg h]; simp; omega
def E {α : Type} (g : Nat → Option α) (r : α) : Prop := ∃ K, ∀ k, K ≤ k → g k = some r
theorem E.now {α : Type} (r : α) : E (fun _ => some r) r := ⟨0, fun _ _ => rfl⟩
theorem E.const {α : Type} {g : Option α} {r : α} (e : g = some r) : E (fun _ => g) r := ⟨0, fun _ _ => e⟩
theorem E.from_ {α : Type} {g : Nat → Option α} {r : α} (K : Nat) (h : ∀ k, K ≤ k → g k = some r) : E g r := ⟨K, h⟩
theorem E.bind {α β : Type} {g : Nat → Option α} {f : Nat → α → Option β} {a : α} {r : β} (h : E g a) (k : E (fun n => f n a) r) : E (fun n => (g n).bind (f n)) r := by
  obtain ⟨K, hK⟩ := h
  obtain ⟨L, hL⟩ := k
  exact ⟨K + L, fun n hn => by show (g n).bind (f n) = _; rw [hK n (by omega)]; exact hL n (by omega)⟩
theorem E.up {α : Type} {g : Nat → Option α} {r : α} (h : E (fun k => g (k + 1)) r) : E g r := by
  obtain ⟨K, hK⟩ := h
  refine ⟨K + 1, fun n hn => ?_⟩
  obtain ⟨n, rfl⟩ : ∃ m, n = m + 1 := ⟨n - 1, by omega⟩
  exact hK n (by omega)
theorem E.ifp {α : Type} {c : Prop} [Decidable c] {g f : Nat → Option α} {r : α} (h : c) (d : E g r) : E (fun k => if c then g k else f k) r := by
  simp only [if_pos h]; exact d
theorem E.ifn {α : Type} {c : Prop} [Decidable c] {g f : Nat → Option α} {r : α} (h : ¬ c) (d : E f r) : E (fun k => if c then g k else f k) r := by
  simp only [if_neg h]; exact d
theorem E.use {α : Type} {g : Nat → Option α} {r : α} (h : E g r) : ∃ k, g k = some r := by
  obtain ⟨K, hK⟩ := h
  exact ⟨K, hK K (Nat.le_refl _)⟩
inductive Tm where
  | col (c : Int)
  | any
  | thn (a b : Tm)
  | orr (a b : Tm)
def Tm.ms : Tm → List S42
  | .col c => [⟨0, c⟩]
  | .any => [⟨1, 0⟩]
  | .thn a b => a.ms ++ b.ms ++ [⟨2, 0⟩]
  | .orr a b => a.ms ++ b.ms ++ [⟨3, 0⟩]
def Tm.len : Tm → Nat
  | .col _ => 1
  | .any => 1
  | .thn a b => a.len + b.len
  | .orr a _ => a.len
def Tm.ok (c : Int) : Tm → Prop
  | .col k => 0 ≤ k ∧ k < c
  | .any => True
  | .thn a b => a.ok c ∧ b.ok c ∧ a.len + b.len ≤ 6
  | .orr a b => a.ok c ∧ b.ok c ∧ a.len = b.len
theorem Tm.len_le {c : Int} (t : Tm) (h : t.ok c) : t.len ≤ 6 := by
  induction t with
  | col c => simp [Tm.len]
  | any => simp [Tm.len]
  | thn a b _ _ => exact h.2.2
  | orr a b iha _ => exact iha h.1
theorem Tm.ms_pos (t : Tm) : 1 ≤ t.ms.length := by
  cases t <;> simp [Tm.ms] <;> omega
def stp (c : Int) (st : List Int) (m : S42) : Option (List Int) :=
  if m.f0 = 0 then (if 0 ≤ m.f1 ∧ m.f1 < c then some (st ++ [1]) else none)
  else if m.f0 = 1 then (if m.f1 = 0 then some (st ++ [1]) else none)
  else if m.f0 = 2 then (if 2 ≤ st.length ∧ st.getD (st.length - 2) 0 + st.getD (st.length - 1) 0 ≤ 6 ∧ m.f1 = 0 then some (st.take (st.length - 2) ++ [st.getD (st.length - 2) 0 + st.getD (st.length - 1) 0]) else none)
  else if m.f0 = 3 then (if 2 ≤ st.length ∧ st.getD (st.length - 2) 0 = st.getD (st.length - 1) 0 ∧ m.f1 = 0 then some (st.take (st.length - 1)) else none)
  else none
def runS (c : Int) : List Int → List S42 → Option (List Int)
  | st, [] => some st
  | st, m :: l => (stp c st m).bind fun st' => runS c st' l
def runB (o : Option (List Int)) : Bool := match o with
  | some st => decide (st.length = 1)
  | none => false
def termB (c : Int) (l : List S42) : Bool := decide (1 ≤ c ∧ c ≤ 3) && decide (l.length ≤ 15) && runB (runS c [] l)
theorem last_two {α : Type} (l : List α) (h : 2 ≤ l.length) : ∃ l0 a b, l = l0 ++ [a, b] := by
  have hr : ∃ b a l0, l.reverse = b :: a :: l0 := by
    match e : l.reverse with
    | [] => have : l.length = 0 := by rw [← List.length_reverse, e]; rfl
            omega
    | [x] => have : l.length = 1 := by rw [← List.length_reverse, e]; rfl
             omega
    | b :: a :: l0 => exact ⟨b, a, l0, rfl⟩
  obtain ⟨b, a, l0, e⟩ := hr
  refine ⟨l0.reverse, a, b, ?_⟩
  have := congrArg List.reverse e
  rw [List.reverse_reverse] at this
  rw [this]; simp
theorem getD_snoc2 (l : List Int) (x y : Int) : (l ++ [x, y]).getD ((l ++ [x, y]).length - 2) 0 = x ∧ (l ++ [x, y]).getD ((l ++ [x, y]).length - 1) 0 = y := by
  constructor
  · rw [List.getD_eq_getElem?_getD, List.length_append, List.getElem?_append_right (by simp)]; simp
  · rw [List.getD_eq_getElem?_getD, List.length_append, List.getElem?_append_right (by simp)]
    rw [show l.length + [x, y].length - 1 - l.length = 1 by simp]; rfl
theorem take_snoc2 (l : List Int) (x y : Int) : (l ++ [x, y]).take ((l ++ [x, y]).length - 2) = l ∧ (l ++ [x, y]).take ((l ++ [x, y]).length - 1) = l ++ [x] := by
  constructor
  · rw [show (l ++ [x, y]).length - 2 = l.length by simp, List.take_left]
  · rw [show l ++ [x, y] = (l ++ [x]) ++ [y] by simp, show ((l ++ [x]) ++ [y]).length - 1 = (l ++ [x]).length by simp, List.take_left]
def lens (ts : List Tm) : List Int := ts.map fun t => (t.len : Int)
def marks (ts : List Tm) : List S42 := (ts.map Tm.ms).flatten
theorem marks_snoc (ts : List Tm) (t : Tm) : marks (ts ++ [t]) = marks ts ++ t.ms := by simp [marks]
theorem lens_snoc (ts : List Tm) (t : Tm) : lens (ts ++ [t]) = lens ts ++ [(t.len : Int)] := by simp [lens]
theorem runS_terms (c : Int) : ∀ (l : List S42) (ts : List Tm) (st' : List Int), (∀ t ∈ ts, t.ok c) → runS c (lens ts) l = some st' →
    ∃ ts', (∀ t ∈ ts', t.ok c) ∧ marks ts ++ l = marks ts' ∧ st' = lens ts' := by
  intro l
  induction l with
  | nil => intro ts st' ho h; exact ⟨ts, ho, by simp, (Option.some.inj h).symm⟩
  | cons m l ih =>
    intro ts st' ho h
    simp only [runS] at h
    obtain ⟨st1, h1, h2⟩ := Option.bind_eq_some_iff.1 h
    have step : ∃ ts1, (∀ t ∈ ts1, t.ok c) ∧ marks ts ++ [m] = marks ts1 ∧ st1 = lens ts1 := by
      obtain ⟨f0, f1⟩ := m
      unfold stp at h1
      simp only at h1
      split at h1
      · rename_i e; subst e
        split at h1
        · rename_i hc
          refine ⟨ts ++ [.col f1], ?_, by rw [marks_snoc]; rfl, by rw [lens_snoc]; exact (Option.some.inj h1).symm⟩
          intro t ht
          rcases List.mem_append.1 ht with ht | ht
          · exact ho t ht
          · rw [List.mem_singleton.1 ht]; exact hc
        · cases h1
      · split at h1
        · rename_i e; subst e
          split at h1
          · rename_i hc; subst hc
            refine ⟨ts ++ [.any], ?_, by rw [marks_snoc]; rfl, by rw [lens_snoc]; exact (Option.some.inj h1).symm⟩
            intro t ht
            rcases List.mem_append.1 ht with ht | ht
            · exact ho t ht
            · rw [List.mem_singleton.1 ht]; trivial
          · cases h1
        · split at h1
          · rename_i e; subst e
            split at h1
            · rename_i hc
              obtain ⟨g1, g2, rfl⟩ := hc
              obtain ⟨ts0, a, b, rfl⟩ := last_two ts (by simpa [lens] using g1)
              have el : lens (ts0 ++ [a, b]) = lens ts0 ++ [(a.len : Int), (b.len : Int)] := by simp [lens]
              rw [el] at g2 h1
              rw [(getD_snoc2 _ _ _).1, (getD_snoc2 _ _ _).2] at g2 h1
              rw [(take_snoc2 _ _ _).1] at h1
              refine ⟨ts0 ++ [.thn a b], ?_, ?_, ?_⟩
              · intro t ht
                rcases List.mem_append.1 ht with ht | ht
                · exact ho t (by simp [ht])
                · rw [List.mem_singleton.1 ht]; exact ⟨ho a (by simp), ho b (by simp), by omega⟩
              · simp [marks, Tm.ms]
              · rw [lens_snoc]; rw [← Option.some.inj h1]; simp [Tm.len]
            · cases h1
          · split at h1
            · rename_i e; subst e
              split at h1
              · rename_i hc
                obtain ⟨g1, g2, rfl⟩ := hc
                obtain ⟨ts0, a, b, rfl⟩ := last_two ts (by simpa [lens] using g1)
                have el : lens (ts0 ++ [a, b]) = lens ts0 ++ [(a.len : Int), (b.len : Int)] := by simp [lens]
                rw [el] at g2 h1
                rw [(getD_snoc2 _ _ _).1, (getD_snoc2 _ _ _).2] at g2
                rw [(take_snoc2 _ _ _).2] at h1
                refine ⟨ts0 ++ [.orr a b], ?_, ?_, ?_⟩
                · intro t ht
                  rcases List.mem_append.1 ht with ht | ht
                  · exact ho t (by simp [ht])
                  · rw [List.mem_singleton.1 ht]; exact ⟨ho a (by simp), ho b (by simp), by omega⟩
                · simp [marks, Tm.ms]
                · rw [lens_snoc]; rw [← Option.some.inj h1]; simp [Tm.len]
              · cases h1
            · cases h1
    obtain ⟨ts1, o1, m1, rfl⟩ := step
    obtain ⟨ts', o', m', e'⟩ := ih ts1 st' o1 h2
    exact ⟨ts', o', by rw [← m', ← m1]; simp, e'⟩
theorem runS_ms (c : Int) (t : Tm) : t.ok c → ∀ (st : List Int) (l : List S42), runS c st (t.ms ++ l) = runS c (st ++ [(t.len : Int)]) l := by
  induction t with
  | col k => intro h st l; simp only [Tm.ms, List.cons_append, List.nil_append, runS]; unfold stp; rw [if_pos rfl, if_pos (show 0 ≤ (⟨0, k⟩ : S42).f1 ∧ (⟨0, k⟩ : S42).f1 < c from h)]; rfl
  | any => intro h st l; simp only [Tm.ms, List.cons_append, List.nil_append, runS]; unfold stp; rw [if_neg (by decide), if_pos rfl, if_pos rfl]; rfl
  | thn a b iha ihb =>
    intro h st l
    simp only [Tm.ms, List.append_assoc]
    rw [iha h.1, ihb h.2.1]
    simp only [List.cons_append, List.nil_append, runS]
    have hs := getD_snoc2 st (a.len : Int) (b.len : Int)
    have hk := take_snoc2 st (a.len : Int) (b.len : Int)
    rw [show st ++ [(a.len : Int)] ++ [(b.len : Int)] = st ++ [(a.len : Int), (b.len : Int)] by simp]
    unfold stp
    rw [if_neg (by decide), if_neg (by decide), if_pos rfl, hs.1, hs.2, if_pos ⟨by simp, by have := h.2.2; omega, rfl⟩, hk.1]
    simp only [Option.bind_some, Tm.len, Int.natCast_add]
  | orr a b iha ihb =>
    intro h st l
    simp only [Tm.ms, List.append_assoc]
    rw [iha h.1, ihb h.2.1]
    simp only [List.cons_append, List.nil_append, runS]
    have hs := getD_snoc2 st (a.len : Int) (b.len : Int)
    have hk := take_snoc2 st (a.len : Int) (b.len : Int)
    rw [show st ++ [(a.len : Int)] ++ [(b.len : Int)] = st ++ [(a.len : Int), (b.len : Int)] by simp]
    unfold stp
    rw [if_neg (by decide), if_neg (by decide), if_neg (by decide), if_pos rfl, hs.1, hs.2, if_pos ⟨by simp, by rw [h.2.2], rfl⟩, hk.2]
    simp only [Option.bind_some, Tm.len]
theorem termB_some {c : Int} {l : List S42} (h : termB c l = true) : 1 ≤ c ∧ c ≤ 3 ∧ l.length ≤ 15 ∧ ∃ t : Tm, t.ok c ∧ l = t.ms := by
  unfold termB at h
  simp only [Bool.and_eq_true, decide_eq_true_eq] at h
  obtain ⟨⟨h1, h2⟩, h3⟩ := h
  unfold runB at h3
  split at h3
  · rename_i st hst
    have h4 : st.length = 1 := by simpa using h3
    obtain ⟨ts', o, m, e⟩ := runS_terms c l [] st (by simp) hst
    have hl : ts'.length = 1 := by rw [e] at h4; simpa [lens] using h4
    match ts', hl with
    | [t], _ => exact ⟨h1.1, h1.2, h2, t, o t (by simp), by simpa [marks] using m⟩
  · cases h3
theorem termB_ms {c : Int} {t : Tm} (h1 : 1 ≤ c) (h2 : c ≤ 3) (h3 : t.ms.length ≤ 15) (h : t.ok c) : termB c t.ms = true := by
  unfold termB
  have := runS_ms c t h [] []
  rw [List.append_nil] at this
  rw [this]
  simp [runS, runB, h1, h2, h3]
theorem rdM (l : List S42) (i : Nat) : rd_T42 l (i : Int) = l.getD i z42 := by unfold rd_T42; rw [Int.toNat_natCast]
def okSt (st : List Int) : Prop := ∀ x ∈ st, 0 ≤ x ∧ x ≤ 6
theorem okSt_get {st : List Int} (h : okSt st) (i : Nat) : 0 ≤ st.getD i 0 ∧ st.getD i 0 ≤ 6 := by
  rw [List.getD_eq_getElem?_getD]
  cases e : st[i]? with
  | none => simp
  | some x => exact h x (List.mem_of_getElem? e)
theorem okSt_snoc {st : List Int} {x : Int} (h : okSt st) (hx : 0 ≤ x ∧ x ≤ 6) : okSt (st ++ [x]) := by
  intro y hy
  rcases List.mem_append.1 hy with hy | hy
  · exact h y hy
  · rw [List.mem_singleton.1 hy]; exact hx
theorem okSt_take {st : List Int} (h : okSt st) (n : Nat) : okSt (st.take n) := fun x hx => h x (List.mem_of_mem_take hx)
theorem set_take (st : List Int) (v : Int) (h : 2 ≤ st.length) : (st.set (st.length - 2) v).take (st.length - 1) = st.take (st.length - 2) ++ [v] := by
  rw [show st.length - 1 = (st.length - 2) + 1 by omega, List.take_succ_eq_append_getElem (by simp; omega), List.take_set_of_le (Nat.le_refl _)]
  simp
theorem impl_TermOk_l0 (c : Int) (l : List S42) (hl : l.length ≤ 1048576) : ∀ (d i f : Nat) (st : List Int), i + d = l.length → 3 * d + 3 ≤ f → st.length ≤ i → okSt st →
    impl_TermOk.l0 f c st l (l.length : Int) (i : Int) = some (runB (runS c st (l.drop i))) := by
  intro d
  induction d with
  | zero =>
    intro i f st hi hf hs ho
    obtain ⟨f, rfl⟩ : ∃ g, f = g + 1 := ⟨f - 1, by omega⟩
    simp only [impl_TermOk.l0]; rw [if_neg (by omega), List.drop_of_length_le (by omega)]
    simp only [runS, runB]
    congr 1
    rw [Bool.eq_iff_iff]; simp; omega
  | succ d ih =>
    intro i f st hi hf hs ho
    obtain ⟨f, rfl⟩ : ∃ g, f = g + 2 := ⟨f - 2, by omega⟩
    have hlen : st.length ≤ 1048576 := by omega
    have w1 : wrap64 ((i : Int) + 1) = ((i + 1 : Nat) : Int) := by rw [wr (by omega) (by omega)]; omega
    have w2 : wrap64 ((st.length : Int) - 1) = (st.length : Int) - 1 := wr (by omega) (by omega)
    have w3 : wrap64 ((st.length : Int) - 1 - 1) = (st.length : Int) - 1 - 1 := wr (by omega) (by omega)
    have em : l.drop i = l.getD i z42 :: l.drop (i + 1) := by
      rw [List.drop_eq_getElem_cons (show i < l.length by omega), List.getD_eq_getElem?_getD, List.getElem?_eq_getElem (by omega)]; rfl
    simp only [impl_TermOk.l0]
    rw [if_pos (by omega), if_pos (by omega), if_pos (by omega), rdM, w1, w2, w3, em]
    generalize l.getD i z42 = m
    simp only [runS]
    unfold stp
    have g1 := okSt_get ho (st.length - 1)
    have g2 := okSt_get ho (st.length - 2)
    by_cases k0 : m.f0 = 0
    · rw [if_pos k0, if_pos k0]
      by_cases h1 : m.f1 < 0
      · rw [if_pos h1, if_neg (by omega)]; simp only [impl_TermOk.j2, if_true]; rfl
      rw [if_neg h1]
      by_cases h2 : m.f1 ≥ c
      · rw [decide_eq_true h2, if_neg (by omega)]; simp only [impl_TermOk.j2, if_true]; rfl
      · rw [decide_eq_false h2, if_pos (by omega)]; simp only [impl_TermOk.j2, Bool.false_eq_true, if_false]
        rw [if_pos (by omega), w1]; simp only [Option.bind_some]
        exact ih (i + 1) f (st ++ [1]) (by omega) (by omega) (by simp; omega) (okSt_snoc ho (by omega))
    rw [if_neg k0, if_neg k0]
    by_cases k1 : m.f0 = 1
    · rw [if_pos k1, if_pos k1, if_pos (by omega)]
      by_cases h1 : m.f1 = 0
      · rw [if_pos h1, if_pos h1]
        simp only [Option.bind_some]
        exact ih (i + 1) (f + 1) (st ++ [1]) (by omega) (by omega) (by simp; omega) (okSt_snoc ho (by omega))
      · rw [if_neg h1, if_neg h1]; rfl
    rw [if_neg k1, if_neg k1]
    by_cases k2 : m.f0 = 2
    · rw [if_pos k2, if_pos k2]
      by_cases h2 : 2 ≤ st.length
      · have r1 : rd st ((st.length : Int) - 1 - 1) = st.getD (st.length - 2) 0 := by rw [show (st.length : Int) - 1 - 1 = ((st.length - 2 : Nat) : Int) by omega]; exact rd_getD _ _
        have r2 : rd st ((st.length : Int) - 1) = st.getD (st.length - 1) 0 := by rw [show (st.length : Int) - 1 = ((st.length - 1 : Nat) : Int) by omega]; exact rd_getD _ _
        rw [if_neg (show ¬ (st.length : Int) - 1 < 1 by omega), if_pos (show 0 ≤ (st.length : Int) - 1 - 1 by omega), if_pos (show (st.length : Int) - 1 - 1 < (st.length : Int) by omega), if_pos (show 0 ≤ (st.length : Int) - 1 by omega), if_pos (show (st.length : Int) - 1 < (st.length : Int) by omega), r1, r2, wr (n := st.getD (st.length - 2) 0 + st.getD (st.length - 1) 0) (by omega) (by omega)]
        by_cases h6 : st.getD (st.length - 2) 0 + st.getD (st.length - 1) 0 > 6
        · rw [decide_eq_true h6, if_neg (by omega)]; simp only [impl_TermOk.j3, if_true]; rfl
        · rw [decide_eq_false h6]; simp only [impl_TermOk.j3, Bool.false_eq_true, if_false]
          rw [w3, if_pos (show 0 ≤ (st.length : Int) - 1 - 1 by omega), if_pos (show (st.length : Int) - 1 - 1 < (st.length : Int) by omega), if_pos (show 0 ≤ (st.length : Int) - 1 by omega), if_pos (show (st.length : Int) - 1 < (st.length : Int) by omega), if_pos (show (st.length : Int) - 1 ≤ (st.length : Int) by omega), r1, r2, wr (n := st.getD (st.length - 2) 0 + st.getD (st.length - 1) 0) (by omega) (by omega)]
          by_cases h0 : m.f1 = 0
          · rw [if_pos h0, if_pos ⟨h2, by omega, h0⟩, show ((st.length : Int) - 1 - 1).toNat = st.length - 2 by omega, show ((st.length : Int) - 1).toNat = st.length - 1 by omega, set_take _ _ h2, w1]; simp only [Option.bind_some]
            exact ih (i + 1) f _ (by omega) (by omega) (by simp; omega) (okSt_snoc (okSt_take ho _) (by omega))
          · rw [if_neg h0, if_neg (fun x => h0 x.2.2)]; rfl
      · rw [if_pos (show (st.length : Int) - 1 < 1 by omega), if_neg (fun x => h2 x.1)]; simp only [impl_TermOk.j3, if_true]; rfl
    rw [if_neg k2, if_neg k2]
    by_cases k3 : m.f0 = 3
    · rw [if_pos k3, if_pos k3]
      by_cases h2 : 2 ≤ st.length
      · have r1 : rd st ((st.length : Int) - 1 - 1) = st.getD (st.length - 2) 0 := by rw [show (st.length : Int) - 1 - 1 = ((st.length - 2 : Nat) : Int) by omega]; exact rd_getD _ _
        have r2 : rd st ((st.length : Int) - 1) = st.getD (st.length - 1) 0 := by rw [show (st.length : Int) - 1 = ((st.length - 1 : Nat) : Int) by omega]; exact rd_getD _ _
        rw [if_neg (show ¬ (st.length : Int) - 1 < 1 by omega), if_pos (show 0 ≤ (st.length : Int) - 1 - 1 by omega), if_pos (show (st.length : Int) - 1 - 1 < (st.length : Int) by omega), if_pos (show 0 ≤ (st.length : Int) - 1 by omega), if_pos (show (st.length : Int) - 1 < (st.length : Int) by omega), r1, r2]
        by_cases h6 : st.getD (st.length - 2) 0 = st.getD (st.length - 1) 0
        · rw [h6, bne_self_eq_false]; simp only [impl_TermOk.j4, Bool.false_eq_true, if_false]
          rw [if_pos (show 0 ≤ (st.length : Int) - 1 by omega), if_pos (show (st.length : Int) - 1 ≤ (st.length : Int) by omega)]
          by_cases h0 : m.f1 = 0
          · rw [if_pos h0, if_pos ⟨h2, (by first | trivial | rfl), h0⟩, show ((st.length : Int) - 1).toNat = st.length - 1 by omega, w1]; simp only [Option.bind_some]
            exact ih (i + 1) f _ (by omega) (by omega) (by simp; omega) (okSt_take ho _)
          · rw [if_neg h0, if_neg (fun x => h0 x.2.2)]; rfl
        · rw [show (st.getD (st.length - 2) 0 != st.getD (st.length - 1) 0) = true by simpa using h6, if_neg (fun x => h6 x.2.1)]; simp only [impl_TermOk.j4, if_true]; rfl
      · rw [if_pos (show (st.length : Int) - 1 < 1 by omega), if_neg (fun x => h2 x.1)]; simp only [impl_TermOk.j4, if_true]; rfl
    · rw [if_neg k3, if_neg k3]; rfl
theorem impl_TermOk_ok (c : Int) (l : List S42) (f : Nat) (hl : l.length ≤ 1048576) (hf : 3 * l.length + 10 ≤ f) : impl_TermOk.f f c l = some (termB c l) := by
  obtain ⟨f, rfl⟩ : ∃ g, f = g + 1 := ⟨f - 1, by omega⟩
  have e : impl_TermOk.j0 (f + 1) c l true = some false := by simp only [impl_TermOk.j0, if_true]
  unfold impl_TermOk.f impl_coloursOk.f termB
  by_cases h1 : c ≥ 1
  · rw [if_pos h1]; simp only [Option.bind_some]
    by_cases h2 : c ≤ 3
    · rw [if_pos (decide_eq_true h2), decide_eq_true (show 1 ≤ c ∧ c ≤ 3 from ⟨h1, h2⟩), Bool.true_and]
      by_cases h3 : (l.length : Int) < 1
      · rw [if_pos h3, e]
        have : l = [] := List.eq_nil_of_length_eq_zero (by omega)
        subst this; rfl
      · rw [if_neg h3]
        by_cases h4 : (l.length : Int) > 15
        · rw [decide_eq_true h4, e, decide_eq_false (by omega)]; rfl
        · rw [decide_eq_false h4, decide_eq_true (by omega)]; simp only [impl_TermOk.j0, Bool.false_eq_true, if_false]
          have := impl_TermOk_l0 c l hl l.length 0 f [] (by omega) (by omega) (by simp) (fun x hx => by simp at hx)
          rw [List.drop_zero] at this
          rw [Bool.true_and]
          exact this
    · rw [decide_eq_false h2, if_neg (by decide), e, decide_eq_false (by omega)]; rfl
  · rw [if_neg h1]; simp only [Option.bind_some]
    rw [if_neg (by decide), e, decide_eq_false (by omega)]; rfl
theorem spec_TermOk_l0 (c : Int) (l : List S42) (hl : l.length ≤ 1048576) : ∀ (d i f : Nat) (st : List Int), i + d = l.length → 3 * d + 3 ≤ f → st.length ≤ i → okSt st →
    spec_TermOk.l0 f c l st (i : Int) = some (decide (1 ≤ c ∧ c ≤ 3) && decide (l.length ≤ 15) && runB (runS c st (l.drop i))) := by
  intro d
  induction d with
  | zero =>
    intro i f st hi hf hs ho
    obtain ⟨f, rfl⟩ : ∃ g, f = g + 1 := ⟨f - 1, by omega⟩
    simp only [spec_TermOk.l0]; rw [if_neg (by omega), List.drop_of_length_le (by omega), l1In_ok]
    simp only [runS, runB, Option.bind_some]
    by_cases hc : 1 ≤ c ∧ c ≤ 3
    · rw [if_pos (decide_eq_true hc), decide_eq_true hc, Bool.true_and]
      by_cases h1 : (st.length : Int) = 1
      · rw [if_pos h1, decide_eq_true (show st.length = 1 by omega), Bool.and_true]; congr 1; apply decide_eq_decide.2; omega
      · rw [if_neg h1, decide_eq_false (show ¬ st.length = 1 by omega), Bool.and_false]
    · rw [decide_eq_false hc, if_neg (by decide)]; rfl
  | succ d ih =>
    intro i f st hi hf hs ho
    obtain ⟨f, rfl⟩ : ∃ g, f = g + 3 := ⟨f - 3, by omega⟩
    have hlen : st.length ≤ 1048576 := by omega
    have w1 : wrap64 ((i : Int) + 1) = ((i + 1 : Nat) : Int) := by rw [wr (by omega) (by omega)]; omega
    have w2 : wrap64 ((st.length : Int) - 1) = (st.length : Int) - 1 := wr (by omega) (by omega)
    have w3 : wrap64 ((st.length : Int) - 1 - 1) = (st.length : Int) - 1 - 1 := wr (by omega) (by omega)
    have em : l.drop i = l.getD i z42 :: l.drop (i + 1) := by
      rw [List.drop_eq_getElem_cons (show i < l.length by omega), List.getD_eq_getElem?_getD, List.getElem?_eq_getElem (by omega)]; rfl
    have g1 := okSt_get ho (st.length - 1)
    have g2 := okSt_get ho (st.length - 2)
    have hnone : some false = some (decide (1 ≤ c ∧ c ≤ 3) && decide (l.length ≤ 15) && runB none) := by simp [runB]
    have push : ∀ x7, spec_TermOk.j1 (f + 2) c l st (i : Int) x7 true = some (decide (1 ≤ c ∧ c ≤ 3) && decide (l.length ≤ 15) && runB (runS c (st ++ [1]) (l.drop (i + 1)))) := by
      intro x7
      simp only [spec_TermOk.j1, if_true]
      rw [if_pos (by omega), w1]
      exact ih (i + 1) (f + 1) (st ++ [1]) (by omega) (by omega) (by simp; omega) (okSt_snoc ho (by omega))
    have r1 : 2 ≤ st.length → rd st ((st.length : Int) - 1 - 1) = st.getD (st.length - 2) 0 := fun h => by rw [show (st.length : Int) - 1 - 1 = ((st.length - 2 : Nat) : Int) by omega]; exact rd_getD _ _
    have r2 : 2 ≤ st.length → rd st ((st.length : Int) - 1) = st.getD (st.length - 1) 0 := fun h => by rw [show (st.length : Int) - 1 = ((st.length - 1 : Nat) : Int) by omega]; exact rd_getD _ _
    have hj2 : ∀ (m : S42), l.getD i z42 = m → m.f0 ≠ 2 ∨ m.f1 ≠ 0 ∨ st.length < 2 ∨ st.getD (st.length - 2) 0 + st.getD (st.length - 1) 0 > 6 → m.f0 ≠ 0 → m.f0 ≠ 1 → m.f0 ≠ 2 →
        spec_TermOk.j2 (f + 1) c l st (i : Int) ((st.length : Int) - 1) false = some (decide (1 ≤ c ∧ c ≤ 3) && decide (l.length ≤ 15) && runB ((stp c st m).bind fun st' => runS c st' (l.drop (i + 1)))) := by
      intro m hm _ k0 k1 k2
      simp only [spec_TermOk.j2, Bool.false_eq_true, if_false]
      rw [if_pos (by omega), if_pos (by omega), rdM, hm]
      unfold stp
      rw [if_neg k0, if_neg k1, if_neg k2]
      by_cases h3 : m.f0 = 3 ∧ m.f1 = 0
      · rw [if_pos (show (m.f0 == 3 && m.f1 == 0) = true by simp [h3.1, h3.2]), if_pos h3.1]
        by_cases h2 : 2 ≤ st.length
        · rw [if_pos (by omega), w3, if_pos (by omega), if_pos (by omega), if_pos (by omega), if_pos (by omega), r1 h2, r2 h2]
          by_cases he : st.getD (st.length - 2) 0 = st.getD (st.length - 1) 0
          · rw [if_pos he, if_pos (by omega), if_pos ⟨h2, he, h3.2⟩, w1, show ((st.length : Int) - 1).toNat = st.length - 1 by omega]
            simp only [Option.bind_some]
            exact ih (i + 1) f _ (by omega) (by omega) (by simp; omega) (okSt_take ho _)
          · rw [if_neg he, if_neg (fun x => he x.2.1)]; exact hnone
        · rw [if_neg (by omega), if_neg (fun x => h2 x.1)]; exact hnone
      · rw [if_neg (show ¬ (m.f0 == 3 && m.f1 == 0) = true by simpa using h3)]
        by_cases e3 : m.f0 = 3
        · rw [if_pos e3, if_neg (fun x => h3 ⟨e3, x.2.2⟩)]; exact hnone
        · rw [if_neg e3]; exact hnone
    have hj2' : ∀ (m : S42), l.getD i z42 = m → m.f0 = 2 → stp c st m = none → spec_TermOk.j2 (f + 1) c l st (i : Int) ((st.length : Int) - 1) false = some false := by
      intro m hm k2 _
      simp only [spec_TermOk.j2, Bool.false_eq_true, if_false]
      rw [if_pos (by omega), if_pos (by omega), rdM, hm, if_neg (by simp [k2])]
    simp only [spec_TermOk.l0]
    rw [if_pos (by omega), if_pos (by omega), rdM, w2, em]
    simp only [runS]
    generalize hm : l.getD i z42 = m
    by_cases k0 : m.f0 = 0
    · rw [if_pos k0]
      have no : ∀ b, b = false → spec_TermOk.j1 (f + 2) c l st (i : Int) ((st.length : Int) - 1) b = some false := by
        intro b hb; subst hb
        simp only [spec_TermOk.j1, Bool.false_eq_true, if_false]
        rw [if_pos (by omega), if_pos (by omega), rdM, hm, if_neg (by simp [k0])]
        simp only [spec_TermOk.j2, Bool.false_eq_true, if_false]
        rw [if_pos (by omega), if_pos (by omega), rdM, hm, if_neg (by simp [k0])]
      unfold stp
      rw [if_pos k0]
      by_cases h1 : m.f1 ≥ 0
      · rw [if_pos h1]
        by_cases h2 : m.f1 < c
        · rw [if_pos h2, push, if_pos ⟨h1, h2⟩]; rfl
        · rw [if_neg h2, no _ (by simp [k0]), if_neg (by omega)]; exact hnone
      · rw [if_neg h1, no _ (by simp [k0]), if_neg (by omega)]; exact hnone
    rw [if_neg k0]
    by_cases k1 : m.f0 = 1 ∧ m.f1 = 0
    · rw [show (m.f0 == 1 && m.f1 == 0) = true by simp [k1.1, k1.2], push]
      unfold stp
      rw [if_neg k0, if_pos k1.1, if_pos k1.2]; rfl
    rw [show (m.f0 == 1 && m.f1 == 0) = false by simpa using k1]
    simp only [spec_TermOk.j1, Bool.false_eq_true, if_false]
    rw [if_pos (by omega), if_pos (by omega), rdM, hm]
    by_cases k2 : m.f0 = 2 ∧ m.f1 = 0
    · rw [if_pos (show (m.f0 == 2 && m.f1 == 0) = true by simp [k2.1, k2.2])]
      have es : stp c st m = if 2 ≤ st.length ∧ st.getD (st.length - 2) 0 + st.getD (st.length - 1) 0 ≤ 6 ∧ m.f1 = 0 then some (st.take (st.length - 2) ++ [st.getD (st.length - 2) 0 + st.getD (st.length - 1) 0]) else none := by
        unfold stp; rw [if_neg k0, if_neg (by omega), if_pos k2.1]
      by_cases h2 : 2 ≤ st.length
      · rw [if_pos (by omega), w3, if_pos (by omega), if_pos (by omega), if_pos (by omega), if_pos (by omega), r1 h2, r2 h2, wr (n := st.getD (st.length - 2) 0 + st.getD (st.length - 1) 0) (by omega) (by omega)]
        by_cases h6 : st.getD (st.length - 2) 0 + st.getD (st.length - 1) 0 ≤ 6
        · rw [decide_eq_true h6, es, if_pos ⟨h2, h6, k2.2⟩]
          simp only [spec_TermOk.j2, if_true, Option.bind_some, List.nil_append, List.length_nil, Nat.zero_add]
          rw [w3, if_pos (by omega), if_pos (by omega), if_pos (by omega), if_pos (by omega), if_pos (by omega), show ((st.length : Int) - 1 - 1).toNat = st.length - 2 by omega, if_pos (by simp; omega), if_pos (by simp; omega), r1 h2, r2 h2, wr (n := st.getD (st.length - 2) 0 + st.getD (st.length - 1) 0) (by omega) (by omega), w1]
          exact ih (i + 1) f _ (by omega) (by omega) (by simp; omega) (okSt_snoc (okSt_take ho _) (by omega))
        · rw [decide_eq_false h6, hj2' m hm k2.1 (by rw [es, if_neg (fun x => h6 x.2.1)]), es, if_neg (fun x => h6 x.2.1)]; exact hnone
      · rw [if_neg (by omega), hj2' m hm k2.1 (by rw [es, if_neg (fun x => h2 x.1)]), es, if_neg (fun x => h2 x.1)]; exact hnone
    · rw [if_neg (show ¬ (m.f0 == 2 && m.f1 == 0) = true by simpa using k2)]
      by_cases e2 : m.f0 = 2
      · have es : stp c st m = none := by
          unfold stp; rw [if_neg k0, if_neg (by omega), if_pos e2, if_neg (fun x => k2 ⟨e2, x.2.2⟩)]
        rw [hj2' m hm e2 es, es]; exact hnone
      · by_cases e1 : m.f0 = 1
        · have es : stp c st m = none := by
            unfold stp; rw [if_neg k0, if_pos e1, if_neg (fun x => k1 ⟨e1, x⟩)]
          rw [es]
          simp only [spec_TermOk.j2, Bool.false_eq_true, if_false]
          rw [if_pos (by omega), if_pos (by omega), rdM, hm, if_neg (by simp [e1])]; exact hnone
        · exact hj2 m hm (.inl e2) k0 e1 e2
theorem spec_TermOk_ok (c : Int) (l : List S42) (f : Nat) (hl : l.length ≤ 1048576) (hf : 3 * l.length + 10 ≤ f) : spec_TermOk.f f c l = some (termB c l) := by
  unfold spec_TermOk.f termB
  have := spec_TermOk_l0 c l hl l.length 0 f [] (by omega) (by omega) (by simp) (fun x hx => by simp at hx)
  rw [List.drop_zero] at this
  exact this
theorem rd_mid (p : List S42) (m : S42) (q : List S42) : rd_T42 (p ++ m :: q) (p.length : Int) = m := by
  rw [rdM, List.getD_eq_getElem?_getD, List.getElem?_append_right (Nat.le_refl _)]; simp
theorem rd_mid' (L p : List S42) (m : S42) (q : List S42) (h : L = p ++ m :: q) (i : Int) (hi : i = (p.length : Int)) : rd_T42 L i = m := by
  subst h; subst hi; exact rd_mid p m q
def Tm.kind : Tm → Int
  | .col _ => 0
  | .any => 1
  | .thn _ _ => 2
  | .orr _ _ => 3
theorem Tm.last_kind (t : Tm) : rd_T42 t.ms ((t.ms.length : Int) - 1) = ⟨t.kind, (match t with | .col c => c | _ => 0)⟩ := by
  cases t with
  | col c => rfl
  | any => rfl
  | thn a b =>
    refine rd_mid' _ (a.ms ++ b.ms) ⟨2, 0⟩ [] rfl _ ?_
    simp [Tm.ms]; omega
  | orr a b =>
    refine rd_mid' _ (a.ms ++ b.ms) ⟨3, 0⟩ [] rfl _ ?_
    simp [Tm.ms]; omega
theorem lastKind_ok (t : Tm) (h : t.ms.length ≤ 1048576) : impl_lastKind.f t.ms = some t.kind := by
  have hp := t.ms_pos
  unfold impl_lastKind.f
  rw [wr (by omega) (by omega), if_pos (by omega), if_pos (by omega), t.last_kind]
theorem halves_scan (L : List S42) (hL : L.length ≤ 1048576) (x4 : Int) (hx4 : 0 ≤ x4 ∧ x4 ≤ L.length) (R : List S42 × List S42) : ∀ (t : Tm) (p q : List S42) (n : Nat), n + t.ms.length ≤ 1048576 → L = p ++ t.ms ++ q →
    (n = 0 → (p.length : Int) ≤ x4 ∧ R = (L.take p.length, (L.take x4.toNat).drop p.length)) → (0 < n → E (fun k => impl_halves.l0 k L x4 (n : Int) ((p.length : Int) - 1)) R) →
    E (fun k => impl_halves.l0 k L x4 ((n + 1 : Nat) : Int) ((p.length : Int) + (t.ms.length : Int) - 1)) R := by
  intro t
  have leaf : ∀ (m : S42) (p q : List S42) (n : Nat), m.f0 = 0 ∨ m.f0 = 1 → n ≤ 1048576 → L = p ++ m :: q →
      (n = 0 → (p.length : Int) ≤ x4 ∧ R = (L.take p.length, (L.take x4.toNat).drop p.length)) → (0 < n → E (fun k => impl_halves.l0 k L x4 (n : Int) ((p.length : Int) - 1)) R) →
      E (fun k => impl_halves.l0 k L x4 ((n + 1 : Nat) : Int) (p.length : Int)) R := by
    intro m p q n hm hn hLe h0 h1
    have hlen : p.length < L.length := by rw [hLe]; simp
    refine E.up ?_
    simp only [impl_halves.l0]
    refine E.ifp (by omega) (E.ifp (by omega) ?_)
    rw [rd_mid' L p m q hLe _ rfl]
    refine E.ifn (by omega) ?_
    refine E.up ?_
    have hk : (m.f0 == 3) = false := by simp; omega
    simp only [impl_halves.j1, hk, Bool.false_eq_true, if_false]
    rw [wr (n := ((n + 1 : Nat) : Int) - 1) (by omega) (by omega), wr (n := (p.length : Int) - 1) (by omega) (by omega), show ((n + 1 : Nat) : Int) - 1 = (n : Int) by omega]
    by_cases hz : n = 0
    · refine E.ifp (by omega) (E.ifp (by omega) (E.ifp (by omega) (E.ifp (h0 hz).1 (E.ifp (by omega) ?_))))
      rw [Int.toNat_natCast, (h0 hz).2]
      exact E.now _
    · exact E.ifn (by omega) (h1 (by omega))
  have op : ∀ (m : S42) (p q : List S42) (n : Nat), m.f0 = 2 ∨ m.f0 = 3 → n + 2 ≤ 1048578 → L = p ++ m :: q →
      E (fun k => impl_halves.l0 k L x4 ((n + 2 : Nat) : Int) ((p.length : Int) - 1)) R → E (fun k => impl_halves.l0 k L x4 ((n + 1 : Nat) : Int) (p.length : Int)) R := by
    intro m p q n hm hn hLe h
    have hlen : p.length < L.length := by rw [hLe]; simp
    refine E.up ?_
    simp only [impl_halves.l0]
    refine E.ifp (by omega) (E.ifp (by omega) ?_)
    rw [rd_mid' L p m q hLe _ rfl]
    have fin : E (fun k => impl_halves.j1 k L x4 ((n + 1 : Nat) : Int) (p.length : Int) true) R := by
      refine E.up ?_
      simp only [impl_halves.j1, if_true]
      rw [wr (n := ((n + 1 : Nat) : Int) + 1) (by omega) (by omega), wr (n := (p.length : Int) - 1) (by omega) (by omega), show ((n + 1 : Nat) : Int) + 1 = ((n + 2 : Nat) : Int) by omega]
      exact E.ifn (by omega) h
    rcases hm with hm | hm
    · exact E.ifp hm fin
    · refine E.ifn (by omega) ?_
      rw [show (m.f0 == 3) = true by simp [hm]]; exact fin
  induction t with
  | col c =>
    intro p q n hn hLe h0 h1
    have := leaf ⟨0, c⟩ p q n (.inl rfl) (by omega) (by rw [hLe]; simp [Tm.ms]) h0 h1
    simpa [Tm.ms] using this
  | any =>
    intro p q n hn hLe h0 h1
    have := leaf ⟨1, 0⟩ p q n (.inr rfl) (by omega) (by rw [hLe]; simp [Tm.ms]) h0 h1
    simpa [Tm.ms] using this
  | thn a b iha ihb =>
    intro p q n hn hLe h0 h1
    have hb := b.ms_pos
    have ha := a.ms_pos
    have hLl : L.length = p.length + (a.ms.length + b.ms.length + 1) + q.length := by rw [hLe]; simp [Tm.ms]; omega
    have ea := iha p (b.ms ++ ⟨2, 0⟩ :: q) n (by simp [Tm.ms] at hn; omega) (by rw [hLe]; simp [Tm.ms]) h0 h1
    have eb := ihb (p ++ a.ms) (⟨2, 0⟩ :: q) (n + 1) (by simp [Tm.ms] at hn; omega) (by rw [hLe]; simp [Tm.ms]) (fun c => by omega) (fun _ => by
      rw [show (((p ++ a.ms).length : Nat) : Int) - 1 = (p.length : Int) + (a.ms.length : Int) - 1 by simp]
      exact ea)
    have key := op ⟨2, 0⟩ (p ++ a.ms ++ b.ms) q n (.inl rfl) (by simp [Tm.ms] at hn; omega) (by rw [hLe]; simp [Tm.ms]) (by
      rw [show (((p ++ a.ms ++ b.ms).length : Nat) : Int) - 1 = ((p ++ a.ms).length : Int) + (b.ms.length : Int) - 1 by simp; omega]
      exact eb)
    rw [show (p.length : Int) + ((Tm.thn a b).ms.length : Int) - 1 = ((p ++ a.ms ++ b.ms).length : Int) by simp [Tm.ms]; omega]
    exact key
  | orr a b iha ihb =>
    intro p q n hn hLe h0 h1
    have hb := b.ms_pos
    have ha := a.ms_pos
    have hLl : L.length = p.length + (a.ms.length + b.ms.length + 1) + q.length := by rw [hLe]; simp [Tm.ms]; omega
    have ea := iha p (b.ms ++ ⟨3, 0⟩ :: q) n (by simp [Tm.ms] at hn; omega) (by rw [hLe]; simp [Tm.ms]) h0 h1
    have eb := ihb (p ++ a.ms) (⟨3, 0⟩ :: q) (n + 1) (by simp [Tm.ms] at hn; omega) (by rw [hLe]; simp [Tm.ms]) (fun c => by omega) (fun _ => by
      rw [show (((p ++ a.ms).length : Nat) : Int) - 1 = (p.length : Int) + (a.ms.length : Int) - 1 by simp]
      exact ea)
    have key := op ⟨3, 0⟩ (p ++ a.ms ++ b.ms) q n (.inr rfl) (by simp [Tm.ms] at hn; omega) (by rw [hLe]; simp [Tm.ms]) (by
      rw [show (((p ++ a.ms ++ b.ms).length : Nat) : Int) - 1 = ((p ++ a.ms).length : Int) + (b.ms.length : Int) - 1 by simp; omega]
      exact eb)
    rw [show (p.length : Int) + ((Tm.orr a b).ms.length : Int) - 1 = ((p ++ a.ms ++ b.ms).length : Int) by simp [Tm.ms]; omega]
    exact key
theorem halves_thn (a b : Tm) (h : (Tm.thn a b).ms.length ≤ 1000) : E (fun k => impl_halves.f k (Tm.thn a b).ms) (a.ms, b.ms) := by
  have hl : (Tm.thn a b).ms.length = a.ms.length + b.ms.length + 1 := by simp [Tm.ms]; omega
  have hb := b.ms_pos
  unfold impl_halves.f
  rw [wr (n := ((Tm.thn a b).ms.length : Int) - 1) (by omega) (by omega), wr (n := ((Tm.thn a b).ms.length : Int) - 1 - 1) (by omega) (by omega)]
  have e : (Tm.thn a b).ms = a.ms ++ b.ms ++ [⟨2, 0⟩] := rfl
  have := halves_scan (Tm.thn a b).ms (by omega) (((Tm.thn a b).ms.length : Int) - 1) (by omega) (a.ms, b.ms) b a.ms [⟨2, 0⟩] 0 (by omega) e (fun _ => ⟨by omega, by
    rw [show (((Tm.thn a b).ms.length : Int) - 1).toNat = (a.ms ++ b.ms).length by simp; omega, e, List.take_left]
    rw [List.append_assoc, List.take_left, List.drop_left]⟩) (fun c => by omega)
  rw [show (a.ms.length : Int) + (b.ms.length : Int) - 1 = ((Tm.thn a b).ms.length : Int) - 1 - 1 by omega] at this
  exact this
theorem halves_orr (a b : Tm) (h : (Tm.orr a b).ms.length ≤ 1000) : E (fun k => impl_halves.f k (Tm.orr a b).ms) (a.ms, b.ms) := by
  have hl : (Tm.orr a b).ms.length = a.ms.length + b.ms.length + 1 := by simp [Tm.ms]; omega
  have hb := b.ms_pos
  unfold impl_halves.f
  rw [wr (n := ((Tm.orr a b).ms.length : Int) - 1) (by omega) (by omega), wr (n := ((Tm.orr a b).ms.length : Int) - 1 - 1) (by omega) (by omega)]
  have e : (Tm.orr a b).ms = a.ms ++ b.ms ++ [⟨3, 0⟩] := rfl
  have := halves_scan (Tm.orr a b).ms (by omega) (((Tm.orr a b).ms.length : Int) - 1) (by omega) (a.ms, b.ms) b a.ms [⟨3, 0⟩] 0 (by omega) e (fun _ => ⟨by omega, by
    rw [show (((Tm.orr a b).ms.length : Int) - 1).toNat = (a.ms ++ b.ms).length by simp; omega, e, List.take_left]
    rw [List.append_assoc, List.take_left, List.drop_left]⟩) (fun c => by omega)
  rw [show (a.ms.length : Int) + (b.ms.length : Int) - 1 = ((Tm.orr a b).ms.length : Int) - 1 - 1 by omega] at this
  exact this
theorem impl_lengthOf_ok {c : Int} (t : Tm) : t.ok c → t.ms.length ≤ 1000 → E (fun k => impl_lengthOf.f k t.ms) (t.len : Int) := by
  induction t with
  | col k => intro _ h; refine E.up ?_; simp only [impl_lengthOf.f]; refine E.bind (E.const (lastKind_ok _ (by omega))) ?_; exact E.ifn (by simp [Tm.kind]) (E.ifn (by simp [Tm.kind]) (E.now _))
  | any => intro _ h; refine E.up ?_; simp only [impl_lengthOf.f]; refine E.bind (E.const (lastKind_ok _ (by omega))) ?_; exact E.ifn (by decide) (E.ifn (by decide) (E.now _))
  | thn a b iha ihb =>
    intro ho h
    have hl : (Tm.thn a b).ms.length = a.ms.length + b.ms.length + 1 := by simp [Tm.ms]; omega
    have h6 := ho.2.2
    refine E.up ?_
    simp only [impl_lengthOf.f]
    refine E.bind (E.const (lastKind_ok _ (by omega))) ?_
    refine E.ifp rfl ?_
    refine E.bind (halves_thn a b h) ?_
    refine E.bind (iha ho.1 (by omega)) ?_
    refine E.bind (ihb ho.2.1 (by omega)) ?_
    rw [wr (by omega) (by omega)]
    exact E.now _
  | orr a b iha ihb =>
    intro ho h
    have hl : (Tm.orr a b).ms.length = a.ms.length + b.ms.length + 1 := by simp [Tm.ms]; omega
    refine E.up ?_
    simp only [impl_lengthOf.f]
    refine E.bind (E.const (lastKind_ok _ (by omega))) ?_
    refine E.ifn (by simp [Tm.kind]) (E.ifp rfl ?_)
    refine E.bind (halves_orr a b h) ?_
    refine E.bind (iha ho.1 (by omega)) ?_
    exact E.now _
theorem starts_scan (L : List S42) (hL : L.length ≤ 1048576) (R : Int) : ∀ (t : Tm) (p q : List S42) (n : Nat), n + t.ms.length ≤ 1048576 → L = p ++ t.ms ++ q →
    E (fun k => spec_l9Starts.l0 k L (n : Int) ((p.length : Int) - 1)) R → E (fun k => spec_l9Starts.l0 k L ((n + 1 : Nat) : Int) ((p.length : Int) + (t.ms.length : Int) - 1)) R := by
  intro t
  have leaf : ∀ (m : S42) (p q : List S42) (n : Nat), m.f0 = 0 ∨ m.f0 = 1 → n ≤ 1048576 → L = p ++ m :: q → E (fun k => spec_l9Starts.l0 k L (n : Int) ((p.length : Int) - 1)) R → E (fun k => spec_l9Starts.l0 k L ((n + 1 : Nat) : Int) (p.length : Int)) R := by
    intro m p q n hm hn hLe h
    have hlen : p.length < L.length := by rw [hLe]; simp
    refine E.up ?_
    simp only [spec_l9Starts.l0]
    rw [rd_mid' L p m q hLe _ rfl, wr (n := ((n + 1 : Nat) : Int) - 1) (by omega) (by omega), wr (n := (p.length : Int) - 1) (by omega) (by omega), show ((n + 1 : Nat) : Int) - 1 = (n : Int) by omega]
    refine E.ifp (by omega) (E.ifp (by omega) (E.ifp (by omega) ?_))
    rcases hm with hm | hm
    · exact E.ifp hm h
    · exact E.ifn (by omega) (E.ifp hm h)
  have op : ∀ (m : S42) (p q : List S42) (n : Nat), m.f0 = 2 ∨ m.f0 = 3 → n + 2 ≤ 1048578 → L = p ++ m :: q →
      E (fun k => spec_l9Starts.l0 k L ((n + 2 : Nat) : Int) ((p.length : Int) - 1)) R → E (fun k => spec_l9Starts.l0 k L ((n + 1 : Nat) : Int) (p.length : Int)) R := by
    intro m p q n hm hn hLe h
    have hlen : p.length < L.length := by rw [hLe]; simp
    refine E.up ?_
    simp only [spec_l9Starts.l0]
    rw [rd_mid' L p m q hLe _ rfl, wr (n := ((n + 1 : Nat) : Int) + 1) (by omega) (by omega), wr (n := (p.length : Int) - 1) (by omega) (by omega), show ((n + 1 : Nat) : Int) + 1 = ((n + 2 : Nat) : Int) by omega]
    exact E.ifp (by omega) (E.ifp (by omega) (E.ifp (by omega) (E.ifn (by omega) (E.ifn (by omega) h))))
  induction t with
  | col c =>
    intro p q n hn hLe h
    have := leaf ⟨0, c⟩ p q n (.inl rfl) (by omega) (by rw [hLe]; simp [Tm.ms]) h
    simpa [Tm.ms] using this
  | any =>
    intro p q n hn hLe h
    have := leaf ⟨1, 0⟩ p q n (.inr rfl) (by omega) (by rw [hLe]; simp [Tm.ms]) h
    simpa [Tm.ms] using this
  | thn a b iha ihb =>
    intro p q n hn hLe h
    have hl : (Tm.thn a b).ms.length = a.ms.length + b.ms.length + 1 := by simp [Tm.ms]; omega
    have ea := iha p (b.ms ++ ⟨2, 0⟩ :: q) n (by omega) (by rw [hLe]; simp [Tm.ms]) h
    have eb := ihb (p ++ a.ms) (⟨2, 0⟩ :: q) (n + 1) (by omega) (by rw [hLe]; simp [Tm.ms]) (by
      rw [show (((p ++ a.ms).length : Nat) : Int) - 1 = (p.length : Int) + (a.ms.length : Int) - 1 by simp]
      exact ea)
    have key := op ⟨2, 0⟩ (p ++ a.ms ++ b.ms) q n (.inl rfl) (by omega) (by rw [hLe]; simp [Tm.ms]) (by
      rw [show (((p ++ a.ms ++ b.ms).length : Nat) : Int) - 1 = ((p ++ a.ms).length : Int) + (b.ms.length : Int) - 1 by simp; omega]
      exact eb)
    rw [show (p.length : Int) + ((Tm.thn a b).ms.length : Int) - 1 = ((p ++ a.ms ++ b.ms).length : Int) by simp [Tm.ms]; omega]
    exact key
  | orr a b iha ihb =>
    intro p q n hn hLe h
    have hl : (Tm.orr a b).ms.length = a.ms.length + b.ms.length + 1 := by simp [Tm.ms]; omega
    have ea := iha p (b.ms ++ ⟨3, 0⟩ :: q) n (by omega) (by rw [hLe]; simp [Tm.ms]) h
    have eb := ihb (p ++ a.ms) (⟨3, 0⟩ :: q) (n + 1) (by omega) (by rw [hLe]; simp [Tm.ms]) (by
      rw [show (((p ++ a.ms).length : Nat) : Int) - 1 = (p.length : Int) + (a.ms.length : Int) - 1 by simp]
      exact ea)
    have key := op ⟨3, 0⟩ (p ++ a.ms ++ b.ms) q n (.inr rfl) (by omega) (by rw [hLe]; simp [Tm.ms]) (by
      rw [show (((p ++ a.ms ++ b.ms).length : Nat) : Int) - 1 = ((p ++ a.ms).length : Int) + (b.ms.length : Int) - 1 by simp; omega]
      exact eb)
    rw [show (p.length : Int) + ((Tm.orr a b).ms.length : Int) - 1 = ((p ++ a.ms ++ b.ms).length : Int) by simp [Tm.ms]; omega]
    exact key
theorem starts_thn (a b : Tm) (h : (Tm.thn a b).ms.length ≤ 1000) : E (fun k => spec_l9Starts.f k (Tm.thn a b).ms (((Tm.thn a b).ms.length : Int) - 1 - 1)) (a.ms.length : Int) := by
  have hl : (Tm.thn a b).ms.length = a.ms.length + b.ms.length + 1 := by simp [Tm.ms]; omega
  unfold spec_l9Starts.f
  have := starts_scan (Tm.thn a b).ms (by omega) (a.ms.length : Int) b a.ms [⟨2, 0⟩] 0 (by omega) rfl (by
    refine E.up ?_
    simp only [spec_l9Starts.l0]
    refine E.ifn (by omega) ?_
    rw [wr (by omega) (by omega), show (a.ms.length : Int) - 1 + 1 = a.ms.length by omega]
    exact E.now _)
  rw [show (a.ms.length : Int) + (b.ms.length : Int) - 1 = ((Tm.thn a b).ms.length : Int) - 1 - 1 by omega] at this
  exact this
theorem parts_thn (a b : Tm) : (Tm.thn a b).ms.take ((a.ms.length : Int)).toNat = a.ms ∧ ((Tm.thn a b).ms.take ((((Tm.thn a b).ms.length : Int) - 1)).toNat).drop ((a.ms.length : Int)).toNat = b.ms := by
  have hl : (Tm.thn a b).ms.length = a.ms.length + b.ms.length + 1 := by simp [Tm.ms]; omega
  have e : (Tm.thn a b).ms = a.ms ++ b.ms ++ [⟨2, 0⟩] := rfl
  constructor
  · rw [Int.toNat_natCast, e, List.append_assoc, List.take_left]
  · rw [show (((Tm.thn a b).ms.length : Int) - 1).toNat = (a.ms ++ b.ms).length by simp; omega, Int.toNat_natCast, e, List.take_left, List.drop_left]
theorem starts_orr (a b : Tm) (h : (Tm.orr a b).ms.length ≤ 1000) : E (fun k => spec_l9Starts.f k (Tm.orr a b).ms (((Tm.orr a b).ms.length : Int) - 1 - 1)) (a.ms.length : Int) := by
  have hl : (Tm.orr a b).ms.length = a.ms.length + b.ms.length + 1 := by simp [Tm.ms]; omega
  unfold spec_l9Starts.f
  have := starts_scan (Tm.orr a b).ms (by omega) (a.ms.length : Int) b a.ms [⟨3, 0⟩] 0 (by omega) rfl (by
    refine E.up ?_
    simp only [spec_l9Starts.l0]
    refine E.ifn (by omega) ?_
    rw [wr (by omega) (by omega), show (a.ms.length : Int) - 1 + 1 = a.ms.length by omega]
    exact E.now _)
  rw [show (a.ms.length : Int) + (b.ms.length : Int) - 1 = ((Tm.orr a b).ms.length : Int) - 1 - 1 by omega] at this
  exact this
theorem parts_orr (a b : Tm) : (Tm.orr a b).ms.take ((a.ms.length : Int)).toNat = a.ms ∧ ((Tm.orr a b).ms.take ((((Tm.orr a b).ms.length : Int) - 1)).toNat).drop ((a.ms.length : Int)).toNat = b.ms := by
  have hl : (Tm.orr a b).ms.length = a.ms.length + b.ms.length + 1 := by simp [Tm.ms]; omega
  have e : (Tm.orr a b).ms = a.ms ++ b.ms ++ [⟨3, 0⟩] := rfl
  constructor
  · rw [Int.toNat_natCast, e, List.append_assoc, List.take_left]
  · rw [show (((Tm.orr a b).ms.length : Int) - 1).toNat = (a.ms ++ b.ms).length by simp; omega, Int.toNat_natCast, e, List.take_left, List.drop_left]
theorem spec_l9Length_ok {c : Int} (t : Tm) : t.ok c → t.ms.length ≤ 1000 → E (fun k => spec_l9Length.f k t.ms) (t.len : Int) := by
  induction t with
  | col k =>
    intro _ h
    have hp := (Tm.col k).ms_pos
    refine E.up ?_; simp only [spec_l9Length.f]
    rw [wr (n := ((Tm.col k).ms.length : Int) - 1) (by omega) (by omega), (Tm.col k).last_kind]
    refine E.ifp (by omega) (E.ifp (by omega) (E.ifp rfl ?_))
    refine E.up ?_; simp only [spec_l9Length.j0, if_true]; exact E.now _
  | any =>
    intro _ h
    have hp := Tm.any.ms_pos
    refine E.up ?_; simp only [spec_l9Length.f]
    rw [wr (n := (Tm.any.ms.length : Int) - 1) (by omega) (by omega), Tm.any.last_kind]
    refine E.ifp (by omega) (E.ifp (by omega) (E.ifn (by decide) ?_))
    refine E.up ?_; simp only [spec_l9Length.j0, Tm.kind, beq_self_eq_true, if_true]; exact E.now _
  | thn a b iha ihb =>
    intro ho h
    have hl : (Tm.thn a b).ms.length = a.ms.length + b.ms.length + 1 := by simp [Tm.ms]; omega
    have h6 := ho.2.2
    have hb := b.ms_pos
    obtain ⟨p1, p2⟩ := parts_thn a b
    refine E.up ?_; simp only [spec_l9Length.f]
    rw [wr (n := ((Tm.thn a b).ms.length : Int) - 1) (by omega) (by omega), (Tm.thn a b).last_kind]
    refine E.ifp (by omega) (E.ifp (by omega) (E.ifn (by simp [Tm.kind]) ?_))
    refine E.up ?_; simp only [spec_l9Length.j0]
    refine E.ifn (by simp [Tm.kind]) ?_
    rw [wr (n := ((Tm.thn a b).ms.length : Int) - 1 - 1) (by omega) (by omega), (Tm.thn a b).last_kind]
    refine E.bind (starts_thn a b h) ?_
    rw [p1, p2]
    refine E.ifp (by omega) (E.ifp (by omega) (E.ifp rfl (E.ifp (by omega) (E.ifp (by omega) ?_))))
    refine E.bind (iha ho.1 (by omega)) ?_
    refine E.ifp (by omega) (E.ifp (by omega) ?_)
    refine E.bind (ihb ho.2.1 (by omega)) ?_
    rw [wr (by omega) (by omega)]
    exact E.now _
  | orr a b iha ihb =>
    intro ho h
    have hl : (Tm.orr a b).ms.length = a.ms.length + b.ms.length + 1 := by simp [Tm.ms]; omega
    have hb := b.ms_pos
    obtain ⟨p1, p2⟩ := parts_orr a b
    refine E.up ?_; simp only [spec_l9Length.f]
    rw [wr (n := ((Tm.orr a b).ms.length : Int) - 1) (by omega) (by omega), (Tm.orr a b).last_kind]
    refine E.ifp (by omega) (E.ifp (by omega) (E.ifn (by simp [Tm.kind]) ?_))
    refine E.up ?_; simp only [spec_l9Length.j0]
    refine E.ifn (by simp [Tm.kind]) ?_
    rw [wr (n := ((Tm.orr a b).ms.length : Int) - 1 - 1) (by omega) (by omega), (Tm.orr a b).last_kind]
    refine E.bind (starts_orr a b h) ?_
    rw [p1]
    refine E.ifp (by omega) (E.ifp (by omega) (E.ifn (by simp [Tm.kind]) (E.ifp (by omega) (E.ifp (by omega) ?_))))
    refine E.bind (iha ho.1 (by omega)) ?_
    exact E.now _
theorem term_cases (c : Int) (l : List S42) : termB c l = false ∨ (termB c l = true ∧ 1 ≤ c ∧ c ≤ 3 ∧ ∃ t : Tm, t.ok c ∧ l = t.ms ∧ t.ms.length ≤ 15) := by
  cases h : termB c l with
  | false => exact .inl rfl
  | true =>
    obtain ⟨h1, h2, h3, t, ho, e⟩ := termB_some h
    exact .inr ⟨rfl, h1, h2, t, ho, e, e ▸ h3⟩
theorem implTermE (c : Int) (l : List S42) (hl : l.length ≤ 1048576) : E (fun k => impl_TermOk.f k c l) (termB c l) := E.from_ (3 * l.length + 10) (fun k hk => impl_TermOk_ok c l k hl hk)
theorem specTermE (c : Int) (l : List S42) (hl : l.length ≤ 1048576) : E (fun k => spec_TermOk.f k c l) (termB c l) := E.from_ (3 * l.length + 10) (fun k hk => spec_TermOk_ok c l k hl hk)
def Tm.back : Tm → Tm
  | .col c => .col c
  | .any => .any
  | .thn a b => .thn b.back a.back
  | .orr a b => .orr a.back b.back
theorem Tm.back_len (t : Tm) : t.back.len = t.len := by
  induction t with
  | col c => rfl
  | any => rfl
  | thn a b iha ihb => simp only [Tm.back, Tm.len]; omega
  | orr a b iha _ => simp only [Tm.back, Tm.len]; exact iha
theorem Tm.back_ok {c : Int} (t : Tm) (h : t.ok c) : t.back.ok c := by
  induction t with
  | col k => exact h
  | any => exact h
  | thn a b iha ihb => exact ⟨ihb h.2.1, iha h.1, by rw [b.back_len, a.back_len]; have := h.2.2; omega⟩
  | orr a b iha ihb => exact ⟨iha h.1, ihb h.2.1, by rw [b.back_len, a.back_len]; exact h.2.2⟩
theorem Tm.back_size (t : Tm) : t.back.ms.length = t.ms.length := by
  induction t with
  | col c => rfl
  | any => rfl
  | thn a b iha ihb => simp only [Tm.back, Tm.ms, List.length_append, iha, ihb]; omega
  | orr a b iha ihb => simp only [Tm.back, Tm.ms, List.length_append, iha, ihb]
theorem impl_backOf_ok (t : Tm) : t.ms.length ≤ 1000 → E (fun k => impl_backOf.f k t.ms) t.back.ms := by
  induction t with
  | col c =>
    intro h
    refine E.up ?_; simp only [impl_backOf.f]
    refine E.bind (E.const (lastKind_ok _ (by omega))) (E.ifn (by simp [Tm.kind]) (E.up ?_))
    simp only [impl_backOf.j0]
    exact E.ifp rfl (E.ifp (by simp [Tm.ms]) (E.now _))
  | any =>
    intro h
    refine E.up ?_; simp only [impl_backOf.f]
    refine E.bind (E.const (lastKind_ok _ (by omega))) (E.ifn (by simp [Tm.kind]) (E.up ?_))
    simp only [impl_backOf.j0]
    exact E.ifp rfl (E.ifp (by simp [Tm.ms]) (E.now _))
  | thn a b iha ihb =>
    intro h
    have hl : (Tm.thn a b).ms.length = a.ms.length + b.ms.length + 1 := by simp [Tm.ms]; omega
    refine E.up ?_; simp only [impl_backOf.f]
    refine E.bind (E.const (lastKind_ok _ (by omega))) (E.ifp rfl (E.up ?_))
    simp only [impl_backOf.j0]
    refine E.ifn (by decide) (E.bind (halves_thn a b h) (E.ifp rfl (E.bind (ihb (by omega)) (E.bind (iha (by omega)) ?_))))
    have h1 := a.back_size
    have h2 := b.back_size
    simp only [Option.bind_some]
    exact E.ifp (by omega) (E.ifp (by simp; omega) (E.now _))
  | orr a b iha ihb =>
    intro h
    have hl : (Tm.orr a b).ms.length = a.ms.length + b.ms.length + 1 := by simp [Tm.ms]; omega
    refine E.up ?_; simp only [impl_backOf.f]
    refine E.bind (E.const (lastKind_ok _ (by omega))) (E.ifn (by simp [Tm.kind]) (E.up ?_))
    simp only [impl_backOf.j0]
    refine E.ifn (by simp [Tm.kind]) (E.bind (halves_orr a b h) (E.ifn (by simp [Tm.kind]) (E.bind (iha (by omega)) (E.bind (ihb (by omega)) ?_))))
    have h1 := a.back_size
    have h2 := b.back_size
    simp only [Option.bind_some]
    exact E.ifp (by omega) (E.ifp (by simp; omega) (E.now _))
theorem impl_BackTerm_yes (c : Int) (t : Tm) (h : termB c t.ms = true) (h15 : t.ms.length ≤ 15) : E (fun k => impl_BackTerm.f k c t.ms) t.back.ms := by
  unfold impl_BackTerm.f; exact E.bind (implTermE c _ (by omega)) (E.ifp h (E.bind (impl_backOf_ok t (by omega)) (E.now _)))
def inC (c x : Int) : Bool := decide (0 ≤ x ∧ x < c)
def wordB (c : Int) (l : List Int) : Bool := l.all (inC c) && decide (1 ≤ c ∧ c ≤ 3 ∧ l.length ≤ 6)
theorem wordB_some {c : Int} {l : List Int} (h : wordB c l = true) : (∀ x ∈ l, 0 ≤ x ∧ x < c) ∧ 1 ≤ c ∧ c ≤ 3 ∧ l.length ≤ 6 := by
  unfold wordB at h
  simp only [Bool.and_eq_true, List.all_eq_true, decide_eq_true_eq] at h
  exact ⟨fun x hx => by have := h.1 x hx; unfold inC at this; simpa using this, h.2⟩
theorem wordB_mk {c : Int} {l : List Int} (h : ∀ x ∈ l, 0 ≤ x ∧ x < c) (h2 : 1 ≤ c ∧ c ≤ 3 ∧ l.length ≤ 6) : wordB c l = true := by
  unfold wordB
  simp only [Bool.and_eq_true, List.all_eq_true, decide_eq_true_eq]
  exact ⟨fun x hx => by unfold inC; exact decide_eq_true (h x hx), h2⟩
theorem spec_WordOk_l0 (c : Int) (l : List Int) (hl : l.length ≤ 17592186044416) : ∀ (d i f : Nat), i + d = l.length → d < f →
    spec_WordOk.l0 f c l (i : Int) = some ((l.drop i).all (inC c) && decide (1 ≤ c ∧ c ≤ 3 ∧ l.length ≤ 6)) := by
  intro d
  induction d with
  | zero =>
    intro i f hi hf
    obtain ⟨f, rfl⟩ : ∃ g, f = g + 1 := ⟨f - 1, by omega⟩
    simp only [spec_WordOk.l0]; rw [if_neg (by omega), List.drop_of_length_le (by omega), List.all_nil, Bool.true_and, l1In_ok]
    simp only [Option.bind_some]
    by_cases h : 1 ≤ c ∧ c ≤ 3
    · rw [if_pos (decide_eq_true h)]; congr 1; apply decide_eq_decide.2; omega
    · rw [decide_eq_false h, if_neg (by decide), decide_eq_false (by omega)]
  | succ d ih =>
    intro i f hi hf
    obtain ⟨f, rfl⟩ : ∃ g, f = g + 1 := ⟨f - 1, by omega⟩
    simp only [spec_WordOk.l0]
    rw [if_pos (by omega), if_pos (by omega), rd_nat l i (by omega), wr (by omega) (by omega), List.drop_eq_getElem_cons (show i < l.length by omega), List.all_cons]
    by_cases h1 : l[i] < 0
    · rw [if_pos h1, show inC c l[i] = false from decide_eq_false (by omega)]; rfl
    by_cases h2 : l[i] ≥ c
    · rw [if_neg h1, if_pos h2, show inC c l[i] = false from decide_eq_false (by omega)]; rfl
    · rw [if_neg h1, if_neg h2]
      have := ih (i + 1) f (by omega) (by omega)
      rw [show ((i : Int) + 1) = ((i + 1 : Nat) : Int) by omega, this, show inC c l[i] = true from decide_eq_true (by omega), Bool.true_and]
theorem spec_WordOk_ok (c : Int) (l : List Int) (f : Nat) (hl : l.length ≤ 17592186044416) (hf : l.length + 2 ≤ f) : spec_WordOk.f f c l = some (wordB c l) := by
  unfold spec_WordOk.f wordB
  have := spec_WordOk_l0 c l hl l.length 0 f (by omega) (by omega)
  rw [List.drop_zero] at this
  exact this
def Tm.fits : Tm → List Int → Bool
  | .col c, w => decide (w = [c])
  | .any, w => decide (w.length = 1)
  | .thn a b, w => decide (a.len ≤ w.length) && (a.fits (w.take a.len) && b.fits (w.drop a.len))
  | .orr a b, w => a.fits w || b.fits w
theorem Tm.fits_len {c : Int} (t : Tm) : t.ok c → ∀ w, t.fits w = true → w.length = t.len := by
  induction t with
  | col k => intro _ w h; simp only [Tm.fits, decide_eq_true_eq] at h; subst h; rfl
  | any => intro _ w h; simp only [Tm.fits, decide_eq_true_eq] at h; exact h
  | thn a b iha ihb =>
    intro ho w h
    simp only [Tm.fits, Bool.and_eq_true, decide_eq_true_eq] at h
    have h1 := ihb ho.2.1 _ h.2.2
    rw [List.length_drop] at h1
    simp only [Tm.len]; omega
  | orr a b iha ihb =>
    intro ho w h
    simp only [Tm.fits, Bool.or_eq_true] at h
    simp only [Tm.len]
    rcases h with h | h
    · exact iha ho.1 _ h
    · rw [ihb ho.2.1 _ h]; exact ho.2.2.symm
theorem Tm.back_fits {c : Int} (t : Tm) : t.ok c → ∀ w : List Int, t.back.fits w.reverse = t.fits w := by
  induction t with
  | col k =>
    intro _ w
    simp only [Tm.back, Tm.fits]
    apply decide_eq_decide.2
    constructor
    · intro h; rw [← List.reverse_reverse w, h]; rfl
    · intro h; rw [h]; rfl
  | any => intro _ w; simp only [Tm.back, Tm.fits, List.length_reverse]
  | thn a b iha ihb =>
    intro ho w
    by_cases hw : w.length = a.len + b.len
    · simp only [Tm.back, Tm.fits, List.length_reverse, b.back_len]
      rw [decide_eq_true (show b.len ≤ w.length by omega), decide_eq_true (show a.len ≤ w.length by omega), Bool.true_and, Bool.true_and]
      rw [List.take_reverse, List.drop_reverse, show w.length - b.len = a.len by omega, iha ho.1, ihb ho.2.1, Bool.and_comm]
    · have h1 : (Tm.thn a b).fits w = false := by
        cases h : (Tm.thn a b).fits w with
        | false => rfl
        | true => exact absurd ((Tm.thn a b).fits_len ho _ h) hw
      have h2 : (Tm.thn a b).back.fits w.reverse = false := by
        cases h : (Tm.thn a b).back.fits w.reverse with
        | false => rfl
        | true =>
          have := (Tm.thn a b).back.fits_len ((Tm.thn a b).back_ok ho) _ h
          rw [(Tm.thn a b).back_len, List.length_reverse] at this
          exact absurd this hw
      rw [h1, h2]
  | orr a b iha ihb => intro ho w; simp only [Tm.back, Tm.fits, iha ho.1, ihb ho.2.1]
theorem one_word {w : List Int} (h : w.length = 1) : ∃ x, w = [x] := by
  match w, h with
  | [x], _ => exact ⟨x, rfl⟩
theorem impl_fits_ok {c : Int} (t : Tm) : t.ok c → t.ms.length ≤ 1000 → ∀ w, E (fun k => impl_fits.f k t.ms w) (t.fits w) := by
  induction t with
  | col n =>
    intro _ h w
    refine E.up ?_; simp only [impl_fits.f]
    refine E.bind (E.const (lastKind_ok _ (by omega))) (E.ifp rfl ?_)
    by_cases hw : w.length = 1
    · obtain ⟨x, rfl⟩ := one_word hw
      refine E.ifp (by simp) (E.ifp (by simp) (E.ifp (by simp [Tm.ms]) ?_))
      have : (rd [x] 0 == (rd_T42 (Tm.col n).ms 0).f1) = (Tm.col n).fits [x] := by
        show (x == n) = decide ([x] = [n])
        simp only [List.cons.injEq, and_true]
        rfl
      rw [this]; exact E.now _
    · refine E.ifn (by omega) ?_
      have : (Tm.col n).fits w = false := by simp only [Tm.fits]; exact decide_eq_false (fun e => hw (by rw [e]; rfl))
      rw [this]; exact E.now _
  | any =>
    intro _ h w
    refine E.up ?_; simp only [impl_fits.f]
    refine E.bind (E.const (lastKind_ok _ (by omega))) (E.ifn (by simp [Tm.kind]) (E.ifp rfl ?_))
    have : ((w.length : Int) == 1) = Tm.any.fits w := by
      simp only [Tm.fits]
      by_cases hw : w.length = 1
      · rw [decide_eq_true hw, hw]; rfl
      · rw [decide_eq_false hw]; exact beq_eq_false_iff_ne.2 (by omega)
    rw [this]; exact E.now _
  | thn a b iha ihb =>
    intro ho h w
    have hl : (Tm.thn a b).ms.length = a.ms.length + b.ms.length + 1 := by simp [Tm.ms]; omega
    refine E.up ?_; simp only [impl_fits.f]
    refine E.bind (E.const (lastKind_ok _ (by omega))) (E.ifn (by simp [Tm.kind]) (E.ifn (by simp [Tm.kind]) (E.bind (halves_thn a b h) (E.bind (E.const (lastKind_ok _ (by omega))) (E.ifn (by simp [Tm.kind]) (E.bind (impl_lengthOf_ok a ho.1 (by omega)) ?_))))))
    by_cases hw : a.len ≤ w.length
    · refine E.ifp (by omega) (E.ifp (by omega) (E.ifp (by omega) ?_))
      simp only [Int.toNat_natCast]
      refine E.bind (iha ho.1 (by omega) _) ?_
      simp only [Tm.fits, decide_eq_true hw, Bool.true_and]
      cases a.fits (w.take a.len) with
      | false => exact E.ifn (by decide) (E.now _)
      | true => exact E.ifp rfl (E.bind (ihb ho.2.1 (by omega) _) (E.now _))
    · refine E.ifn (by omega) ?_
      simp only [Tm.fits, decide_eq_false hw, Bool.false_and]
      exact E.now _
  | orr a b iha ihb =>
    intro ho h w
    have hl : (Tm.orr a b).ms.length = a.ms.length + b.ms.length + 1 := by simp [Tm.ms]; omega
    refine E.up ?_; simp only [impl_fits.f]
    refine E.bind (E.const (lastKind_ok _ (by omega))) (E.ifn (by simp [Tm.kind]) (E.ifn (by simp [Tm.kind]) (E.bind (halves_orr a b h) (E.bind (E.const (lastKind_ok _ (by omega))) (E.ifp rfl (E.bind (iha ho.1 (by omega) w) ?_))))))
    simp only [Tm.fits]
    cases a.fits w with
    | true => exact E.ifp rfl (E.now _)
    | false => exact E.ifn (by decide) (E.bind (ihb ho.2.1 (by omega) w) (E.now _))
theorem spec_l9Fits_ok {c : Int} (t : Tm) : t.ok c → t.ms.length ≤ 1000 → ∀ w, E (fun k => spec_l9Fits.f k t.ms w) (t.fits w) := by
  induction t with
  | col n =>
    intro _ h w
    have hp := (Tm.col n).ms_pos
    refine E.up ?_; simp only [spec_l9Fits.f]
    rw [wr (n := ((Tm.col n).ms.length : Int) - 1) (by omega) (by omega), (Tm.col n).last_kind]
    refine E.ifp (by omega) (E.ifp (by omega) (E.ifp rfl ?_))
    by_cases hw : w.length = 1
    · obtain ⟨x, rfl⟩ := one_word hw
      refine E.ifp (by simp) (E.ifp (by simp) ?_)
      have : (rd [x] 0 == n) = (Tm.col n).fits [x] := by
        show (x == n) = decide ([x] = [n])
        simp only [List.cons.injEq, and_true]
        rfl
      simp only []
      rw [this]; exact E.now _
    · refine E.ifn (by omega) ?_
      have : (Tm.col n).fits w = false := by simp only [Tm.fits]; exact decide_eq_false (fun e => hw (by rw [e]; rfl))
      rw [this]; exact E.now _
  | any =>
    intro _ h w
    have hp := Tm.any.ms_pos
    refine E.up ?_; simp only [spec_l9Fits.f]
    rw [wr (n := (Tm.any.ms.length : Int) - 1) (by omega) (by omega), Tm.any.last_kind]
    refine E.ifp (by omega) (E.ifp (by omega) (E.ifn (by simp [Tm.kind]) (E.ifp rfl ?_)))
    have : ((w.length : Int) == 1) = Tm.any.fits w := by
      simp only [Tm.fits]
      by_cases hw : w.length = 1
      · rw [decide_eq_true hw, hw]; rfl
      · rw [decide_eq_false hw]; exact beq_eq_false_iff_ne.2 (by omega)
    rw [this]; exact E.now _
  | thn a b iha ihb =>
    intro ho h w
    have hl : (Tm.thn a b).ms.length = a.ms.length + b.ms.length + 1 := by simp [Tm.ms]; omega
    have hb := b.ms_pos
    obtain ⟨p1, p2⟩ := parts_thn a b
    refine E.up ?_; simp only [spec_l9Fits.f]
    rw [wr (n := ((Tm.thn a b).ms.length : Int) - 1) (by omega) (by omega), (Tm.thn a b).last_kind, wr (n := ((Tm.thn a b).ms.length : Int) - 1 - 1) (by omega) (by omega)]
    refine E.ifp (by omega) (E.ifp (by omega) (E.ifn (by simp [Tm.kind]) (E.ifn (by simp [Tm.kind]) (E.bind (starts_thn a b h) (E.ifn (by simp [Tm.kind]) (E.ifp (by omega) (E.ifp (by omega) ?_)))))))
    rw [p1, p2]
    refine E.bind (spec_l9Length_ok a ho.1 (by omega)) ?_
    by_cases hw : a.len ≤ w.length
    · refine E.ifp (by omega) (E.ifp (by omega) (E.ifp (by omega) ?_))
      simp only [Int.toNat_natCast]
      refine E.bind (iha ho.1 (by omega) _) ?_
      simp only [Tm.fits, decide_eq_true hw, Bool.true_and]
      cases a.fits (w.take a.len) with
      | false => exact E.ifn (by decide) (E.now _)
      | true => exact E.ifp rfl (E.ifp (by omega) (E.ifp (by omega) (E.bind (ihb ho.2.1 (by omega) _) (E.now _))))
    · refine E.ifn (by omega) ?_
      simp only [Tm.fits, decide_eq_false hw, Bool.false_and]
      exact E.now _
  | orr a b iha ihb =>
    intro ho h w
    have hl : (Tm.orr a b).ms.length = a.ms.length + b.ms.length + 1 := by simp [Tm.ms]; omega
    have hb := b.ms_pos
    obtain ⟨p1, p2⟩ := parts_orr a b
    refine E.up ?_; simp only [spec_l9Fits.f]
    rw [wr (n := ((Tm.orr a b).ms.length : Int) - 1) (by omega) (by omega), (Tm.orr a b).last_kind, wr (n := ((Tm.orr a b).ms.length : Int) - 1 - 1) (by omega) (by omega)]
    refine E.ifp (by omega) (E.ifp (by omega) (E.ifn (by simp [Tm.kind]) (E.ifn (by simp [Tm.kind]) (E.bind (starts_orr a b h) (E.ifp rfl (E.ifp (by omega) (E.ifp (by omega) ?_)))))))
    rw [p1, p2]
    refine E.bind (iha ho.1 (by omega) w) ?_
    simp only [Tm.fits]
    cases a.fits w with
    | true => exact E.ifp rfl (E.now _)
    | false => exact E.ifn (by decide) (E.ifp (by omega) (E.ifp (by omega) (E.bind (ihb ho.2.1 (by omega) w) (E.now _))))
theorem alive_ok (f : Nat) (hf : 5 ≤ f) : laws_alive.f f = some true := by
  obtain ⟨f, rfl⟩ : ∃ g, f = g + 5 := ⟨f - 5, by omega⟩
  have h1 : impl_UrnOk.f (f + 5) [1] = some true := by
    simp [impl_UrnOk.f, impl_UrnOk.l0, impl_coloursOk.f, rd, wrap64]
  have h2 : impl_UrnOk.f (f + 5) [] = some false := by
    simp [impl_UrnOk.f, impl_UrnOk.l0, impl_coloursOk.f]
  unfold laws_alive.f
  rw [h1, h2]; rfl
def addR (a b : List Int) : List Int := List.zipWith (· + ·) a b
def aft (rule : List (List Int)) : List Int → List Int → List Int
  | u, [] => u
  | u, c :: w => aft rule (addR u (rd_L1 rule c)) w
def wys (rule : List (List Int)) : List Int → List Int → Int
  | _, [] => 1
  | u, c :: w => mx 0 (rd u c) * wys rule (addR u (rd_L1 rule c)) w
def Sq (n : Nat) (rule : List (List Int)) : Prop := rule.length = n ∧ ∀ r ∈ rule, r.length = n ∧ ∀ x ∈ r, -1 ≤ x ∧ x ≤ 3
def Ur (n : Nat) (b : Int) (u : List Int) : Prop := u.length = n ∧ ∀ x ∈ u, -b ≤ x ∧ x ≤ b
def InW (n : Nat) (w : List Int) : Prop := ∀ x ∈ w, 0 ≤ x ∧ x < (n : Int)
theorem addR_length {a b : List Int} (h : a.length = b.length) : (addR a b).length = a.length := by unfold addR; rw [List.length_zipWith]; omega
theorem rd_addR {a b : List Int} (h : a.length = b.length) (i : Nat) (hi : i < a.length) : rd (addR a b) i = rd a i + rd b i := by
  rw [rd_nat _ i (by rw [addR_length h]; exact hi), rd_nat a i hi, rd_nat b i (by omega)]
  unfold addR
  rw [List.getElem_zipWith]
theorem Sq.row {n : Nat} {rule : List (List Int)} (h : Sq n rule) {c : Int} (h0 : 0 ≤ c) (h1 : c < n) : (rd_L1 rule c).length = n ∧ ∀ x ∈ rd_L1 rule c, -1 ≤ x ∧ x ≤ 3 := by
  obtain ⟨m, rfl⟩ := Int.eq_ofNat_of_zero_le h0
  have hm : m < rule.length := by rw [h.1]; omega
  unfold rd_L1
  rw [Int.toNat_natCast, List.getD_eq_getElem?_getD, List.getElem?_eq_getElem hm]
  exact h.2 _ (List.getElem_mem hm)
theorem Ur.step {n : Nat} {b : Int} {u : List Int} {rule : List (List Int)} (h : Ur n b u) (hs : Sq n rule) {c : Int} (h0 : 0 ≤ c) (h1 : c < n) : Ur n (b + 3) (addR u (rd_L1 rule c)) := by
  obtain ⟨g1, g2⟩ := hs.row h0 h1
  refine ⟨by rw [addR_length (by rw [h.1, g1]), h.1], fun x hx => ?_⟩
  unfold addR at hx
  obtain ⟨i, hi, rfl⟩ := List.mem_iff_getElem.mp hx
  rw [List.getElem_zipWith]
  rw [List.length_zipWith] at hi
  have a1 := h.2 _ (List.getElem_mem (show i < u.length by omega))
  have a2 := g2 _ (List.getElem_mem (show i < (rd_L1 rule c).length by omega))
  omega
theorem Ur.rd_le {n : Nat} {b : Int} {u : List Int} (h : Ur n b u) (hb : 0 ≤ b) (c : Int) : -b ≤ rd u c ∧ rd u c ≤ b := by
  unfold rd
  rw [List.getD_eq_getElem?_getD]
  cases e : u[c.toNat]? with
  | none => simp; omega
  | some x => exact h.2 x (List.mem_of_getElem? e)
theorem mx_nonneg (x : Int) : 0 ≤ mx 0 x := by unfold mx; omega
theorem mx_le {x b : Int} (h : x ≤ b) (hb : 0 ≤ b) : mx 0 x ≤ b := by unfold mx; omega
theorem Ur.aft {n : Nat} {rule : List (List Int)} (hs : Sq n rule) : ∀ (w : List Int) {b : Int} {u : List Int}, InW n w → Ur n b u → Ur n (b + 3 * w.length) (aft rule u w) := by
  intro w
  induction w with
  | nil => intro b u _ h; simpa [Pure.aft] using h
  | cons c w ih =>
    intro b u hw h
    have hc := hw c (by simp)
    have := ih (fun x hx => hw x (by simp [hx])) (h.step hs hc.1 hc.2)
    rw [Pure.aft, show b + 3 * ((c :: w).length : Int) = b + 3 + 3 * (w.length : Int) by simp; omega]
    exact this
theorem aft_append (rule : List (List Int)) : ∀ (v w u : List Int), aft rule u (v ++ w) = aft rule (aft rule u v) w := by
  intro v
  induction v with
  | nil => intro w u; rfl
  | cons c v ih => intro w u; exact ih w _
theorem wys_nonneg (rule : List (List Int)) : ∀ (w u : List Int), 0 ≤ wys rule u w := by
  intro w
  induction w with
  | nil => intro u; show (0 : Int) ≤ 1; decide
  | cons c w ih => intro u; exact Int.mul_nonneg (mx_nonneg _) (ih _)
theorem wys_le {n : Nat} {rule : List (List Int)} (hs : Sq n rule) : ∀ (w : List Int) {b : Int} {u : List Int}, InW n w → Ur n b u → 0 ≤ b → b + 3 * w.length ≤ 100 → wys rule u w ≤ 100 ^ w.length := by
  intro w
  induction w with
  | nil => intro b u _ _ _ _; show (1 : Int) ≤ 100 ^ 0; decide
  | cons c w ih =>
    intro b u hw h hb hl
    have hc := hw c (by simp)
    simp only [List.length_cons] at hl
    have h1 := ih (fun x hx => hw x (by simp [hx])) (h.step hs hc.1 hc.2) (by omega) (by omega)
    have h2 := mx_le (x := rd u c) (b := 100) (by have := h.rd_le hb c; omega) (by omega)
    rw [wys, List.length_cons, Int.pow_succ, Int.mul_comm (100 ^ w.length) 100]
    exact Int.mul_le_mul h2 h1 (wys_nonneg _ _ _) (by decide)
theorem pow6 : ∀ i : Fin 7, (1000 : Int) ^ (i : Nat) ≤ 1000000000000000000 := by decide
theorem set_mid {X a : List Int} (hX : X.length = a.length) (i : Nat) (hi : i < a.length) : (X.take i ++ a.drop i).set i (X[i]'(by omega)) = X.take (i + 1) ++ a.drop (i + 1) := by
  rw [List.set_append_right _ _ (by rw [List.length_take]; omega), List.length_take, Nat.min_eq_left (by omega), Nat.sub_self, List.drop_eq_getElem_cons hi, List.set_cons_zero, List.take_succ_eq_append_getElem (by omega), List.append_assoc]
  rfl
theorem impl_added_l0 (a b : List Int) (hab : a.length = b.length) (hl : a.length ≤ 1000) (hv : ∀ i : Nat, i < a.length → -9223372036854775808 ≤ rd a i + rd b i ∧ rd a i + rd b i < 9223372036854775808) :
    ∀ (d i : Nat), i + d = a.length → E (fun k => impl_added.l0 k ((addR a b).take i ++ a.drop i) b (b.length : Int) (i : Int)) (addR a b) := by
  have hX := addR_length hab
  intro d
  induction d with
  | zero =>
    intro i hi
    refine E.up ?_
    simp only [impl_added.l0]
    rw [List.take_of_length_le (by omega), List.drop_of_length_le (by omega), List.append_nil]
    exact E.ifn (by omega) (E.now _)
  | succ d ih =>
    intro i hi
    refine E.up ?_
    simp only [impl_added.l0]
    have e0 : ((addR a b).take i ++ a.drop i).length = a.length := by simp [hX]; omega
    refine E.ifp (by omega) (E.ifp (by omega) (E.ifp (by omega) (E.ifp (by omega) ?_)))
    have e1 : rd ((addR a b).take i ++ a.drop i) (i : Int) = rd a (i : Int) := by
      rw [rd_nat _ i (by omega), rd_nat a i (by omega), List.getElem_append_right (by rw [List.length_take]; omega)]
      simp only [List.length_take, List.getElem_drop]
      congr 1; omega
    have hv2 := hv i (by omega)
    rw [Int.toNat_natCast, e1, wr hv2.1 hv2.2, ← rd_addR hab i (by omega), rd_nat (addR a b) i (by omega), set_mid hX i (by omega), wr (n := (i : Int) + 1) (by omega) (by omega)]
    exact ih (i + 1) (by omega)
theorem impl_added_ok {n : Nat} {B : Int} {u r : List Int} (hn : n ≤ 3) (h : Ur n B u) (hB : 0 ≤ B ∧ B ≤ 1000) (hr : r.length = n ∧ ∀ x ∈ r, -1 ≤ x ∧ x ≤ 3) : E (fun k => impl_added.f k u r) (addR u r) := by
  unfold impl_added.f
  refine E.bind (E.const (r := u) (by unfold slices_Clone_int.f; rw [if_pos (by rw [h.1]; omega)])) ?_
  have := impl_added_l0 u r (by rw [h.1, hr.1]) (by rw [h.1]; omega) (fun i hi => by
    have a1 := h.rd_le hB.1 i
    have hi2 : i < r.length := by rw [hr.1, ← h.1]; exact hi
    rw [rd_nat r i hi2]
    have a2 := hr.2 _ (List.getElem_mem hi2)
    omega) u.length 0 (by omega)
  rw [List.take_zero, List.nil_append, List.drop_zero] at this
  exact this
theorem impl_after_l0 {n : Nat} {rule : List (List Int)} (hn : n ≤ 3) (hs : Sq n rule) (w : List Int) (hw : InW n w) (hl : w.length ≤ 6) : ∀ (d i : Nat) (B : Int) (u : List Int), i + d = w.length → Ur n B u → 0 ≤ B → B + 3 * d ≤ 1000 →
    E (fun k => impl_after.l0 k rule u w (w.length : Int) (i : Int)) (aft rule u (w.drop i)) := by
  intro d
  induction d with
  | zero =>
    intro i B u hi _ _ _
    refine E.up ?_
    simp only [impl_after.l0]
    rw [List.drop_of_length_le (by omega)]
    exact E.ifn (by omega) (E.now _)
  | succ d ih =>
    intro i B u hi hu h0 hB
    refine E.up ?_
    simp only [impl_after.l0]
    have hi2 : i < w.length := by omega
    have hc := hw _ (List.getElem_mem hi2)
    have hlen : rule.length = n := hs.1
    rw [rd_nat w i hi2]
    refine E.ifp (by omega) (E.ifp (by omega) (E.ifp (by omega) (E.ifp hc.1 (E.ifp (by omega) ?_))))
    refine E.bind (impl_added_ok hn hu ⟨h0, by omega⟩ (hs.row hc.1 hc.2)) ?_
    rw [wr (n := (i : Int) + 1) (by omega) (by omega), List.drop_eq_getElem_cons hi2, aft]
    exact ih (i + 1) (B + 3) _ (by omega) (hu.step hs hc.1 hc.2) (by omega) (by omega)
theorem impl_after_ok {n : Nat} {rule : List (List Int)} (hn : n ≤ 3) (hs : Sq n rule) (w : List Int) (hw : InW n w) (hl : w.length ≤ 6) {u : List Int} (hu : Ur n 10 u) : E (fun k => impl_after.f k u rule w) (aft rule u w) := by
  unfold impl_after.f
  refine E.bind (E.const (r := u) (by unfold slices_Clone_int.f; rw [if_pos (by rw [hu.1]; omega)])) ?_
  exact impl_after_l0 hn hs w hw hl w.length 0 10 u (by omega) hu (by omega) (by omega)
theorem impl_ruleWays_l0 {n : Nat} {rule : List (List Int)} (hn : n ≤ 3) (hs : Sq n rule) (w : List Int) (hw : InW n w) (hl : w.length ≤ 6) {u : List Int} (hu : Ur n 10 u) : ∀ (d i : Nat) (p : Int), i + d = w.length → 0 ≤ p → p ≤ 1000 ^ i →
    E (fun k => impl_ruleWays.l0 k u rule w p w (w.length : Int) (i : Int)) (p * wys rule (aft rule u (w.take i)) (w.drop i)) := by
  intro d
  induction d with
  | zero =>
    intro i p hi _ _
    refine E.up ?_
    simp only [impl_ruleWays.l0]
    rw [List.drop_of_length_le (by omega), wys, Int.mul_one]
    exact E.ifn (by omega) (E.now _)
  | succ d ih =>
    intro i p hi h0 hp
    refine E.up ?_
    simp only [impl_ruleWays.l0]
    have hi2 : i < w.length := by omega
    have hc := hw _ (List.getElem_mem hi2)
    have hwt : InW n (w.take i) := fun x hx => hw x (List.mem_of_mem_take hx)
    have hua := Ur.aft hs (w.take i) hwt hu
    have hlt : (w.take i).length = i := by rw [List.length_take]; omega
    rw [hlt] at hua
    rw [rd_nat w i hi2, Int.toNat_natCast]
    refine E.ifp (by omega) (E.ifp (by omega) (E.ifp (by omega) (E.ifp (by omega) ?_)))
    refine E.bind (impl_after_ok hn hs (w.take i) hwt (by omega) hu) ?_
    refine E.ifp hc.1 (E.ifp (by rw [hua.1]; exact hc.2) ?_)
    have hm0 := mx_nonneg (rd (aft rule u (w.take i)) w[i])
    have hm1 : mx 0 (rd (aft rule u (w.take i)) w[i]) ≤ 1000 := mx_le (by have := hua.rd_le (by omega) w[i]; omega) (by omega)
    have hp2 : p * mx 0 (rd (aft rule u (w.take i)) w[i]) ≤ 1000 ^ (i + 1) := by rw [Int.pow_succ]; exact Int.mul_le_mul hp hm1 hm0 (by exact Int.le_trans h0 hp)
    have hp3 := pow6 ⟨i + 1, by omega⟩
    simp only at hp3
    have hp4 : 0 ≤ p * mx 0 (rd (aft rule u (w.take i)) w[i]) := Int.mul_nonneg h0 hm0
    rw [wr (n := p * mx 0 (rd (aft rule u (w.take i)) w[i])) (by omega) (by omega)]
    rw [List.drop_eq_getElem_cons hi2, wys, ← Int.mul_assoc]
    by_cases hz : p * mx 0 (rd (aft rule u (w.take i)) w[i]) = 0
    · rw [hz, Int.zero_mul]; exact E.ifp rfl (E.now _)
    · refine E.ifn hz ?_
      rw [wr (n := (i : Int) + 1) (by omega) (by omega)]
      have e := ih (i + 1) _ (by omega) hp4 hp2
      rw [List.take_succ_eq_append_getElem hi2, aft_append, aft, aft] at e
      exact e
theorem impl_ruleWays_ok {n : Nat} {rule : List (List Int)} (hn : n ≤ 3) (hs : Sq n rule) (w : List Int) (hw : InW n w) (hl : w.length ≤ 6) {u : List Int} (hu : Ur n 10 u) : E (fun k => impl_ruleWays.f k u rule w) (wys rule u w) := by
  unfold impl_ruleWays.f
  have e := impl_ruleWays_l0 hn hs w hw hl hu w.length 0 1 (by omega) (by decide) (by decide)
  rw [List.take_zero, aft, List.drop_zero, Int.one_mul] at e
  exact e
def startB (l : List Int) : Bool := l.all (fun x => decide (x ≤ 10)) && (l.all (fun x => decide (0 ≤ x ∧ x ≤ 40)) && decide (1 ≤ l.length ∧ l.length ≤ 3))
def rowB (i : Nat) : Nat → List Int → Bool
  | _, [] => true
  | j, x :: xs => decide (x ≤ 3 ∧ -1 ≤ x ∧ (x = -1 → i = j)) && rowB i (j + 1) xs
def rowsB (c : Int) : Nat → List (List Int) → Bool
  | _, [] => true
  | i, r :: rs => decide ((r.length : Int) = c) && (rowB i 0 r && rowsB c (i + 1) rs)
def ruleB (c : Int) (rule : List (List Int)) : Bool := rowsB c 0 rule && (decide (1 ≤ c ∧ c ≤ 3) && decide ((rule.length : Int) = c))
def SqD (n : Nat) (rule : List (List Int)) : Prop := ∀ c k : Nat, c < n → k < n → k ≠ c → 0 ≤ rd (rd_L1 rule c) k
theorem rdL_nat (l : List (List Int)) (i : Nat) (h : i < l.length) : rd_L1 l (i : Int) = l[i] := by
  unfold rd_L1; rw [Int.toNat_natCast, List.getD_eq_getElem?_getD, List.getElem?_eq_getElem h]; rfl
theorem rowB_get {i : Nat} : ∀ (r : List Int) (j : Nat), rowB i j r = true → ∀ k (h : k < r.length), r[k] ≤ 3 ∧ -1 ≤ r[k] ∧ (r[k] = -1 → i = j + k) := by
  intro r
  induction r with
  | nil => intro j _ k h; simp at h
  | cons x xs ih =>
    intro j h k hk
    rw [rowB, Bool.and_eq_true, decide_eq_true_eq] at h
    cases k with
    | zero => exact h.1
    | succ k =>
      have e := ih (j + 1) h.2 k (by simpa using hk)
      rw [List.getElem_cons_succ]
      exact ⟨e.1, e.2.1, fun q => by have := e.2.2 q; omega⟩
theorem rowsB_get {c : Int} : ∀ (rs : List (List Int)) (i : Nat), rowsB c i rs = true → ∀ k (h : k < rs.length), (rs[k].length : Int) = c ∧ rowB (i + k) 0 rs[k] = true := by
  intro rs
  induction rs with
  | nil => intro i _ k h; simp at h
  | cons r rs ih =>
    intro i h k hk
    rw [rowsB, Bool.and_eq_true, Bool.and_eq_true, decide_eq_true_eq] at h
    cases k with
    | zero => exact ⟨h.1, h.2.1⟩
    | succ k =>
      have e := ih (i + 1) h.2.2 k (by simpa using hk)
      rw [List.getElem_cons_succ, show i + (k + 1) = i + 1 + k by omega]
      exact e
theorem ruleB_some {n : Nat} {rule : List (List Int)} (h : ruleB (n : Int) rule = true) : 1 ≤ n ∧ n ≤ 3 ∧ Sq n rule ∧ SqD n rule := by
  unfold ruleB at h
  simp only [Bool.and_eq_true, decide_eq_true_eq] at h
  obtain ⟨h1, h2, h3⟩ := h
  have hl : rule.length = n := by omega
  refine ⟨by omega, by omega, ⟨hl, fun r hr => ?_⟩, fun c k hc hk hne => ?_⟩
  · obtain ⟨i, hi, rfl⟩ := List.mem_iff_getElem.mp hr
    have e := rowsB_get rule 0 h1 i hi
    refine ⟨by omega, fun x hx => ?_⟩
    obtain ⟨k, hk, rfl⟩ := List.mem_iff_getElem.mp hx
    have := rowB_get _ 0 e.2 k hk
    omega
  · have e := rowsB_get rule 0 h1 c (by omega)
    have hk2 : k < rule[c].length := by omega
    have e2 := rowB_get _ 0 e.2 k hk2
    rw [rdL_nat rule c (by omega), rd_nat _ k hk2]
    by_cases q : rule[c][k] = -1
    · have := e2.2.2 q; omega
    · omega
theorem startB_some {u : List Int} (h : startB u = true) : 1 ≤ u.length ∧ u.length ≤ 3 ∧ Ur u.length 10 u ∧ ∀ x ∈ u, 0 ≤ x := by
  unfold startB at h
  simp only [Bool.and_eq_true, decide_eq_true_eq, List.all_eq_true] at h
  exact ⟨h.2.2.1, h.2.2.2, ⟨rfl, fun x hx => by have a := h.1 x hx; have b := h.2.1 x hx; omega⟩, fun x hx => (h.2.1 x hx).1⟩
theorem impl_colours_ok (c : Int) : impl_coloursOk.f c = some (decide (1 ≤ c ∧ c ≤ 3)) := by
  unfold impl_coloursOk.f
  by_cases h : c ≥ 1
  · rw [if_pos h]; congr 1; apply decide_eq_decide.2; omega
  · rw [if_neg h]; congr 1; rw [eq_comm, decide_eq_false_iff_not]; omega
theorem impl_UrnOk_l0 (l : List Int) (hl : l.length ≤ 2000000) : ∀ (d i : Nat), i + d = l.length → E (fun k => impl_UrnOk.l0 k l l (l.length : Int) (i : Int)) ((l.drop i).all (fun x => decide (0 ≤ x ∧ x ≤ 40)) && decide (1 ≤ l.length ∧ l.length ≤ 3)) := by
  intro d
  induction d with
  | zero =>
    intro i hi
    refine E.up ?_
    simp only [impl_UrnOk.l0]
    refine E.ifn (by omega) ?_
    rw [List.drop_of_length_le (by omega), List.all_nil, Bool.true_and, impl_colours_ok]
    simp only [Option.bind_some]
    rw [show decide (1 ≤ (l.length : Int) ∧ (l.length : Int) ≤ 3) = decide (1 ≤ l.length ∧ l.length ≤ 3) from decide_eq_decide.2 (by omega)]
    exact E.now _
  | succ d ih =>
    intro i hi
    have hi2 : i < l.length := by omega
    refine E.up ?_
    simp only [impl_UrnOk.l0]
    rw [rd_nat l i hi2, List.drop_eq_getElem_cons hi2, List.all_cons]
    refine E.ifp (by omega) (E.ifp (by omega) (E.ifp (by omega) ?_))
    by_cases h1 : l[i] < 0
    · rw [decide_eq_false (show ¬ (0 ≤ l[i] ∧ l[i] ≤ 40) by omega)]; exact E.ifp h1 (E.now _)
    refine E.ifn h1 ?_
    by_cases h2 : l[i] > 40
    · rw [decide_eq_false (show ¬ (0 ≤ l[i] ∧ l[i] ≤ 40) by omega)]; exact E.ifp h2 (E.now _)
    refine E.ifn h2 ?_
    rw [decide_eq_true (show 0 ≤ l[i] ∧ l[i] ≤ 40 by omega), Bool.true_and, wr (n := (i : Int) + 1) (by omega) (by omega)]
    exact ih (i + 1) (by omega)
theorem impl_StartOk_l0 (l : List Int) (hl : l.length ≤ 2000000) : ∀ (d i : Nat), i + d = l.length → E (fun k => impl_StartOk.l0 k l l (l.length : Int) (i : Int)) ((l.drop i).all (fun x => decide (x ≤ 10)) && (l.all (fun x => decide (0 ≤ x ∧ x ≤ 40)) && decide (1 ≤ l.length ∧ l.length ≤ 3))) := by
  intro d
  induction d with
  | zero =>
    intro i hi
    refine E.up ?_
    simp only [impl_StartOk.l0]
    refine E.ifn (by omega) ?_
    rw [List.drop_of_length_le (by omega), List.all_nil, Bool.true_and]
    have e := impl_UrnOk_l0 l hl l.length 0 (by omega)
    rw [List.drop_zero] at e
    refine E.bind (show E (fun k => impl_UrnOk.f k l) _ from e) (E.now _)
  | succ d ih =>
    intro i hi
    have hi2 : i < l.length := by omega
    refine E.up ?_
    simp only [impl_StartOk.l0]
    rw [rd_nat l i hi2, List.drop_eq_getElem_cons hi2, List.all_cons]
    refine E.ifp (by omega) (E.ifp (by omega) (E.ifp (by omega) ?_))
    by_cases h1 : l[i] > 10
    · rw [decide_eq_false (show ¬ l[i] ≤ 10 by omega)]; exact E.ifp h1 (E.now _)
    refine E.ifn h1 ?_
    rw [decide_eq_true (show l[i] ≤ 10 by omega), Bool.true_and, wr (n := (i : Int) + 1) (by omega) (by omega)]
    exact ih (i + 1) (by omega)
theorem impl_StartOk_ok (l : List Int) (hl : l.length ≤ 2000000) : E (fun k => impl_StartOk.f k l) (startB l) := by
  have e := impl_StartOk_l0 l hl l.length 0 (by omega)
  rw [List.drop_zero] at e
  exact e
theorem impl_RuleOk_l1 (c : Int) (rule : List (List Int)) (hl : rule.length ≤ 2000000) (i : Nat) (hi : i < rule.length) (row : List Int) (hr : row.length ≤ 2000000) (rest : Bool) (hrest : E (fun k => impl_RuleOk.l0 k c rule rule (rule.length : Int) ((i : Int) + 1)) rest) :
    ∀ (d j : Nat), j + d = row.length → E (fun k => impl_RuleOk.l1 k c rule (i : Int) rule (rule.length : Int) (i : Int) row (row.length : Int) (j : Int)) (rowB i j (row.drop j) && rest) := by
  intro d
  induction d with
  | zero =>
    intro j hj
    refine E.up ?_
    simp only [impl_RuleOk.l1]
    refine E.ifn (by omega) ?_
    rw [List.drop_of_length_le (by omega), rowB, Bool.true_and, wr (n := (i : Int) + 1) (by omega) (by omega)]
    exact hrest
  | succ d ih =>
    intro j hj
    have hj2 : j < row.length := by omega
    refine E.up ?_
    simp only [impl_RuleOk.l1]
    rw [rd_nat row j hj2, List.drop_eq_getElem_cons hj2, rowB]
    refine E.ifp (by omega) (E.ifp (by omega) (E.ifp (by omega) ?_))
    by_cases h1 : row[j] > 3
    · rw [decide_eq_false (by omega)]; exact E.ifp h1 (E.now _)
    refine E.ifn h1 ?_
    by_cases h2 : row[j] < -1
    · rw [decide_eq_false (by omega)]; exact E.ifp h2 (E.now _)
    refine E.ifn h2 ?_
    have hn := ih (j + 1) (by omega)
    rw [wr (n := (j : Int) + 1) (by omega) (by omega)]
    by_cases h3 : row[j] = -1
    · refine E.ifp h3 ?_
      by_cases h4 : i = j
      · rw [decide_eq_true (show row[j] ≤ 3 ∧ -1 ≤ row[j] ∧ (row[j] = -1 → i = j) from ⟨by omega, by omega, fun _ => h4⟩), Bool.true_and]
        exact E.ifp (by omega) hn
      · rw [decide_eq_false (show ¬ (row[j] ≤ 3 ∧ -1 ≤ row[j] ∧ (row[j] = -1 → i = j)) from fun q => h4 (q.2.2 h3))]
        exact E.ifn (by omega) (E.now _)
    · refine E.ifn h3 ?_
      rw [decide_eq_true (show row[j] ≤ 3 ∧ -1 ≤ row[j] ∧ (row[j] = -1 → i = j) from ⟨by omega, by omega, fun q => absurd q h3⟩), Bool.true_and]
      exact hn
theorem impl_RuleOk_l0 (c : Int) (rule : List (List Int)) (hl : rule.length ≤ 2000000) (hr : ∀ r ∈ rule, r.length ≤ 2000000) : ∀ (d i : Nat), i + d = rule.length →
    E (fun k => impl_RuleOk.l0 k c rule rule (rule.length : Int) (i : Int)) (rowsB c i (rule.drop i) && (decide (1 ≤ c ∧ c ≤ 3) && decide ((rule.length : Int) = c))) := by
  intro d
  induction d with
  | zero =>
    intro i hi
    refine E.up ?_
    simp only [impl_RuleOk.l0]
    refine E.ifn (by omega) ?_
    rw [List.drop_of_length_le (by omega), rowsB, Bool.true_and, impl_colours_ok]
    simp only [Option.bind_some]
    by_cases h : 1 ≤ c ∧ c ≤ 3
    · rw [decide_eq_true h, Bool.true_and]; refine E.ifp rfl ?_
      rw [show ((rule.length : Int) == c) = decide ((rule.length : Int) = c) from rfl]
      exact E.now _
    · rw [decide_eq_false h, Bool.false_and]; exact E.ifn (by decide) (E.now _)
  | succ d ih =>
    intro i hi
    have hi2 : i < rule.length := by omega
    refine E.up ?_
    simp only [impl_RuleOk.l0]
    rw [rdL_nat rule i hi2, List.drop_eq_getElem_cons hi2, rowsB]
    refine E.ifp (by omega) (E.ifp (by omega) (E.ifp (by omega) ?_))
    by_cases h1 : ((rule[i]).length : Int) = c
    · refine E.ifp h1 ?_
      have e := impl_RuleOk_l1 c rule hl i hi2 rule[i] (hr _ (List.getElem_mem hi2)) _ (ih (i + 1) (by omega)) rule[i].length 0 (by omega)
      rw [List.drop_zero] at e
      rw [decide_eq_true h1, Bool.true_and, Bool.and_assoc]
      exact e
    · rw [decide_eq_false h1]; exact E.ifn h1 (E.now _)
theorem impl_RuleOk_ok (c : Int) (rule : List (List Int)) (hl : rule.length ≤ 2000000) (hr : ∀ r ∈ rule, r.length ≤ 2000000) : E (fun k => impl_RuleOk.f k c rule) (ruleB c rule) := by
  have e := impl_RuleOk_l0 c rule hl hr rule.length 0 (by omega)
  rw [List.drop_zero] at e
  exact e
theorem impl_ruleAsked_ok (u : List Int) (rule : List (List Int)) (hu : u.length ≤ 2000000) (hl : rule.length ≤ 2000000) (hr : ∀ r ∈ rule, r.length ≤ 2000000) : E (fun k => impl_ruleAsked.f k u rule) (startB u && ruleB (u.length : Int) rule) := by
  unfold impl_ruleAsked.f
  refine E.bind (impl_StartOk_ok u hu) ?_
  cases startB u
  · exact E.ifn (by decide) (E.now _)
  · exact E.ifp rfl (E.bind (impl_RuleOk_ok _ rule hl hr) (E.now _))
theorem spec_UrnOk_l0 (l : List Int) (hl : l.length ≤ 2000000) : ∀ (d i : Nat), i + d = l.length → E (fun k => spec_UrnOk.l0 k l (i : Int)) ((l.drop i).all (fun x => decide (0 ≤ x ∧ x ≤ 40)) && decide (1 ≤ l.length ∧ l.length ≤ 3)) := by
  intro d
  induction d with
  | zero =>
    intro i hi
    refine E.up ?_
    simp only [spec_UrnOk.l0]
    refine E.ifn (by omega) ?_
    rw [List.drop_of_length_le (by omega), List.all_nil, Bool.true_and, l1In_ok]
    simp only [Option.bind_some]
    rw [show decide (1 ≤ (l.length : Int) ∧ (l.length : Int) ≤ 3) = decide (1 ≤ l.length ∧ l.length ≤ 3) from decide_eq_decide.2 (by omega)]
    exact E.now _
  | succ d ih =>
    intro i hi
    have hi2 : i < l.length := by omega
    refine E.up ?_
    simp only [spec_UrnOk.l0]
    rw [rd_nat l i hi2, List.drop_eq_getElem_cons hi2, List.all_cons, l1In_ok]
    simp only [Option.bind_some]
    refine E.ifp (by omega) (E.ifp (by omega) ?_)
    by_cases h1 : 0 ≤ l[i] ∧ l[i] ≤ 40
    · rw [decide_eq_true h1, Bool.true_and, wr (n := (i : Int) + 1) (by omega) (by omega)]
      exact E.ifp rfl (ih (i + 1) (by omega))
    · rw [decide_eq_false h1]; exact E.ifn (by decide) (E.now _)
theorem spec_StartOk_l0 (l : List Int) (hl : l.length ≤ 2000000) : ∀ (d i : Nat), i + d = l.length → E (fun k => spec_StartOk.l0 k l (i : Int)) ((l.drop i).all (fun x => decide (x ≤ 10)) && (l.all (fun x => decide (0 ≤ x ∧ x ≤ 40)) && decide (1 ≤ l.length ∧ l.length ≤ 3))) := by
  intro d
  induction d with
  | zero =>
    intro i hi
    refine E.up ?_
    simp only [spec_StartOk.l0]
    refine E.ifn (by omega) ?_
    rw [List.drop_of_length_le (by omega), List.all_nil, Bool.true_and]
    have e := spec_UrnOk_l0 l hl l.length 0 (by omega)
    rw [List.drop_zero] at e
    refine E.bind (show E (fun k => spec_UrnOk.f k l) _ from e) (E.now _)
  | succ d ih =>
    intro i hi
    have hi2 : i < l.length := by omega
    refine E.up ?_
    simp only [spec_StartOk.l0]
    rw [rd_nat l i hi2, List.drop_eq_getElem_cons hi2, List.all_cons]
    refine E.ifp (by omega) (E.ifp (by omega) ?_)
    by_cases h1 : l[i] > 10
    · rw [decide_eq_false (show ¬ l[i] ≤ 10 by omega)]; exact E.ifp h1 (E.now _)
    refine E.ifn h1 ?_
    rw [decide_eq_true (show l[i] ≤ 10 by omega), Bool.true_and, wr (n := (i : Int) + 1) (by omega) (by omega)]
    exact ih (i + 1) (by omega)
theorem spec_StartOk_ok (l : List Int) (hl : l.length ≤ 2000000) : E (fun k => spec_StartOk.f k l) (startB l) := by
  have e := spec_StartOk_l0 l hl l.length 0 (by omega)
  rw [List.drop_zero] at e
  exact e
theorem spec_RuleOk_l1 (c : Int) (rule : List (List Int)) (hl : rule.length ≤ 2000000) (i : Nat) (hi : i < rule.length) (hr : rule[i].length ≤ 2000000) (hc : (rule[i].length : Int) = c) (rest : Bool) (hrest : E (fun k => spec_RuleOk.l0 k c rule ((i : Int) + 1)) rest) :
    ∀ (d j : Nat), j + d = rule[i].length → E (fun k => spec_RuleOk.l1 k c rule (i : Int) (j : Int)) (rowB i j (rule[i].drop j) && rest) := by
  intro d
  induction d with
  | zero =>
    intro j hj
    refine E.up ?_
    simp only [spec_RuleOk.l1]
    refine E.ifn (by omega) ?_
    rw [List.drop_of_length_le (by omega), rowB, Bool.true_and, wr (n := (i : Int) + 1) (by omega) (by omega)]
    exact hrest
  | succ d ih =>
    intro j hj
    have hj2 : j < rule[i].length := by omega
    refine E.up ?_
    simp only [spec_RuleOk.l1]
    rw [rdL_nat rule i hi, rd_nat rule[i] j hj2, List.drop_eq_getElem_cons hj2, rowB, l1In_ok]
    simp only [Option.bind_some]
    refine E.ifp (by omega) (E.ifp (by omega) (E.ifp (by omega) (E.ifp (by omega) (E.ifp (by omega) ?_))))
    have hn := ih (j + 1) (by omega)
    rw [wr (n := (j : Int) + 1) (by omega) (by omega)]
    by_cases h1 : 0 ≤ rule[i][j] ∧ rule[i][j] ≤ 3
    · rw [decide_eq_true (show rule[i][j] ≤ 3 ∧ -1 ≤ rule[i][j] ∧ (rule[i][j] = -1 → i = j) from ⟨by omega, by omega, fun q => by omega⟩), Bool.true_and]
      exact E.ifp (decide_eq_true h1) hn
    · refine E.ifn (by simpa using h1) ?_
      by_cases h3 : rule[i][j] = -1
      · refine E.ifp h3 ?_
        by_cases h4 : i = j
        · rw [decide_eq_true (show rule[i][j] ≤ 3 ∧ -1 ≤ rule[i][j] ∧ (rule[i][j] = -1 → i = j) from ⟨by omega, by omega, fun _ => h4⟩), Bool.true_and]
          exact E.ifp (by omega) hn
        · rw [decide_eq_false (show ¬ (rule[i][j] ≤ 3 ∧ -1 ≤ rule[i][j] ∧ (rule[i][j] = -1 → i = j)) from fun q => h4 (q.2.2 h3))]
          exact E.ifn (by omega) (E.now _)
      · rw [decide_eq_false (show ¬ (rule[i][j] ≤ 3 ∧ -1 ≤ rule[i][j] ∧ (rule[i][j] = -1 → i = j)) from fun q => by omega)]
        exact E.ifn h3 (E.now _)
theorem spec_RuleOk_l0 (c : Int) (rule : List (List Int)) (hl : rule.length ≤ 2000000) (hr : ∀ r ∈ rule, r.length ≤ 2000000) : ∀ (d i : Nat), i + d = rule.length →
    E (fun k => spec_RuleOk.l0 k c rule (i : Int)) (rowsB c i (rule.drop i) && (decide (1 ≤ c ∧ c ≤ 3) && decide ((rule.length : Int) = c))) := by
  intro d
  induction d with
  | zero =>
    intro i hi
    refine E.up ?_
    simp only [spec_RuleOk.l0]
    refine E.ifn (by omega) ?_
    rw [List.drop_of_length_le (by omega), rowsB, Bool.true_and, l1In_ok]
    simp only [Option.bind_some]
    by_cases h : 1 ≤ c ∧ c ≤ 3
    · rw [decide_eq_true h, Bool.true_and]; refine E.ifp rfl ?_
      rw [show ((rule.length : Int) == c) = decide ((rule.length : Int) = c) from rfl]
      exact E.now _
    · rw [decide_eq_false h, Bool.false_and]; exact E.ifn (by decide) (E.now _)
  | succ d ih =>
    intro i hi
    have hi2 : i < rule.length := by omega
    refine E.up ?_
    simp only [spec_RuleOk.l0]
    rw [rdL_nat rule i hi2, List.drop_eq_getElem_cons hi2, rowsB]
    refine E.ifp (by omega) (E.ifp (by omega) ?_)
    by_cases h1 : ((rule[i]).length : Int) = c
    · refine E.ifp h1 ?_
      have e := spec_RuleOk_l1 c rule hl i hi2 (hr _ (List.getElem_mem hi2)) h1 _ (ih (i + 1) (by omega)) rule[i].length 0 (by omega)
      rw [List.drop_zero] at e
      rw [decide_eq_true h1, Bool.true_and, Bool.and_assoc]
      exact e
    · rw [decide_eq_false h1]; exact E.ifn h1 (E.now _)
theorem spec_RuleOk_ok (c : Int) (rule : List (List Int)) (hl : rule.length ≤ 2000000) (hr : ∀ r ∈ rule, r.length ≤ 2000000) : E (fun k => spec_RuleOk.f k c rule) (ruleB c rule) := by
  have e := spec_RuleOk_l0 c rule hl hr rule.length 0 (by omega)
  rw [List.drop_zero] at e
  exact e
theorem spec_l4After_l0 {n : Nat} {rule : List (List Int)} {u : List Int} {B : Int} (hn : n ≤ 3) (hs : Sq n rule) (hu : Ur n B u) (hB : 0 ≤ B ∧ B ≤ 1000) {c : Int} (h0 : 0 ≤ c) (h1 : c < n) : ∀ (d i : Nat), i + d = n →
    E (fun k => spec_l4After.l0 k u rule c ((addR u (rd_L1 rule c)).take i) (i : Int)) (addR u (rd_L1 rule c)) := by
  obtain ⟨g1, g2⟩ := hs.row h0 h1
  have hul := hu.1
  have hX : (addR u (rd_L1 rule c)).length = n := by rw [addR_length (by rw [hul, g1]), hul]
  intro d
  induction d with
  | zero =>
    intro i hi
    refine E.up ?_
    simp only [spec_l4After.l0]
    rw [List.take_of_length_le (by omega)]
    exact E.ifn (by omega) (E.now _)
  | succ d ih =>
    intro i hi
    refine E.up ?_
    simp only [spec_l4After.l0]
    have hlen : rule.length = n := hs.1
    refine E.ifp (by omega) (E.ifp (by omega) (E.ifp h0 (E.ifp (by omega) (E.ifp (by omega) (E.ifp (by rw [List.length_take]; omega) ?_)))))
    have a1 := hu.rd_le hB.1 (i : Int)
    have a2 := g2 _ (List.getElem_mem (show i < (rd_L1 rule c).length by omega))
    rw [← rd_nat (rd_L1 rule c) i (by omega)] at a2
    rw [wr (n := rd u (i : Int) + rd (rd_L1 rule c) (i : Int)) (by omega) (by omega), ← rd_addR (by rw [hul, g1]) i (by omega), rd_nat _ i (by omega), ← List.take_succ_eq_append_getElem (by omega), wr (n := (i : Int) + 1) (by omega) (by omega)]
    exact ih (i + 1) (by omega)
theorem spec_l4After_ok {n : Nat} {rule : List (List Int)} {u : List Int} {B : Int} (hn : n ≤ 3) (hs : Sq n rule) (hu : Ur n B u) (hB : 0 ≤ B ∧ B ≤ 1000) {c : Int} (h0 : 0 ≤ c) (h1 : c < n) : E (fun k => spec_l4After.f k u rule c) (addR u (rd_L1 rule c)) := by
  have e := spec_l4After_l0 hn hs hu hB h0 h1 n 0 (by omega)
  rw [List.take_zero] at e
  exact e
theorem addR_nn {n : Nat} {rule : List (List Int)} {u : List Int} (hs : Sq n rule) (hd : SqD n rule) (hul : u.length = n) (hnn : ∀ x ∈ u, 0 ≤ x) {c : Int} (h0 : 0 ≤ c) (h1 : c < n) (hp : 0 < rd u c) : ∀ x ∈ addR u (rd_L1 rule c), 0 ≤ x := by
  obtain ⟨g1, g2⟩ := hs.row h0 h1
  intro x hx
  obtain ⟨i, hi, rfl⟩ := List.mem_iff_getElem.mp hx
  have hl := addR_length (a := u) (b := rd_L1 rule c) (by rw [hul, g1])
  have hi2 : i < n := by omega
  rw [← rd_nat _ i hi, rd_addR (by rw [hul, g1]) i (by omega)]
  have a1 := hnn _ (List.getElem_mem (show i < u.length by omega))
  rw [← rd_nat u i (by omega)] at a1
  have a2 := g2 _ (List.getElem_mem (show i < (rd_L1 rule c).length by omega))
  rw [← rd_nat _ i (by omega)] at a2
  obtain ⟨m, rfl⟩ := Int.eq_ofNat_of_zero_le h0
  by_cases q : i = m
  · subst q; omega
  · have := hd m i (by omega) hi2 q; omega
theorem spec_RuleWays_l0 {n : Nat} {rule : List (List Int)} (hn : n ≤ 3) (hs : Sq n rule) (hd : SqD n rule) (w : List Int) (hw : InW n w) (hl : w.length ≤ 6) : ∀ (d i : Nat) (p B : Int) (u : List Int), i + d = w.length → 0 ≤ p → p ≤ 1000 ^ i → Ur n B u → 0 ≤ B → B + 3 * d ≤ 1000 → (0 < p → ∀ x ∈ u, 0 ≤ x) →
    E (fun k => spec_RuleWays.l0 k rule w u p (i : Int)) (p * wys rule u (w.drop i)) := by
  intro d
  induction d with
  | zero =>
    intro i p B u hi _ _ _ _ _ _
    refine E.up ?_
    simp only [spec_RuleWays.l0]
    rw [List.drop_of_length_le (by omega), wys, Int.mul_one]
    exact E.ifn (by omega) (E.now _)
  | succ d ih =>
    intro i p B u hi h0 hp hu hB0 hB hnn
    refine E.up ?_
    simp only [spec_RuleWays.l0]
    have hi2 : i < w.length := by omega
    have hc := hw _ (List.getElem_mem hi2)
    rw [rd_nat w i hi2]
    refine E.ifp (by omega) ?_
    by_cases hz : p > 0
    · refine E.ifp hz (E.ifp (by omega) (E.ifp hc.1 (E.ifp (by rw [hu.1]; exact hc.2) ?_)))
      refine E.bind (spec_l4After_ok hn hs hu ⟨hB0, by omega⟩ hc.1 hc.2) ?_
      have hn2 := hnn hz
      have hc0 : 0 ≤ rd u w[i] := by
        unfold rd
        rw [List.getD_eq_getElem?_getD]
        cases e : u[w[i].toNat]? with
        | none => simp
        | some x => exact hn2 x (List.mem_of_getElem? e)
      have hmx : mx 0 (rd u w[i]) = rd u w[i] := by unfold mx; omega
      have hm1 : rd u w[i] ≤ 1000 := by have := hu.rd_le hB0 w[i]; omega
      have hp2 : p * rd u w[i] ≤ 1000 ^ (i + 1) := by rw [Int.pow_succ]; exact Int.mul_le_mul hp hm1 hc0 (by exact Int.le_trans h0 hp)
      have hp3 := pow6 ⟨i + 1, by omega⟩
      simp only at hp3
      have hp4 : 0 ≤ p * rd u w[i] := Int.mul_nonneg h0 hc0
      rw [wr (n := p * rd u w[i]) (by omega) (by omega), wr (n := (i : Int) + 1) (by omega) (by omega), List.drop_eq_getElem_cons hi2, wys, hmx, ← Int.mul_assoc]
      refine ih (i + 1) _ (B + 3) _ (by omega) hp4 hp2 (hu.step hs hc.1 hc.2) (by omega) (by omega) (fun hq => addR_nn hs hd hu.1 hn2 hc.1 hc.2 ?_)
      rcases Int.lt_or_eq_of_le hc0 with h | h
      · exact h
      · rw [← h, Int.mul_zero] at hq; omega
    · have : p = 0 := by omega
      rw [this, show (0 : Int) * wys rule u (w.drop i) = 0 from Int.zero_mul _]
      exact E.ifn (by omega) (E.now _)
theorem spec_RuleWays_ok {n : Nat} {rule : List (List Int)} {u : List Int} (hl : u.length = n) (hst : startB u = true) (hru : ruleB (n : Int) rule = true) (w : List Int) (hw : wordB (n : Int) w = true) : E (fun k => spec_RuleWays.f k u rule w) (wys rule u w) := by
  obtain ⟨h1, h3, hs, hd⟩ := ruleB_some hru
  obtain ⟨s1, s3, hu, hnn⟩ := startB_some hst
  obtain ⟨w1, _, _, w4⟩ := wordB_some hw
  have hrl : ∀ r ∈ rule, r.length ≤ 2000000 := fun r hr => by rw [(hs.2 r hr).1]; omega
  unfold spec_RuleWays.f
  refine E.bind (spec_StartOk_ok u (by omega)) ?_
  rw [hst]
  refine E.ifp rfl (E.bind (spec_RuleOk_ok _ rule (by rw [hs.1]; omega) hrl) ?_)
  rw [hl, hru]
  refine E.ifp rfl (E.bind (E.from_ (w.length + 2) (fun k hk => spec_WordOk_ok (n : Int) w k (by omega) hk)) ?_)
  rw [hw]
  refine E.up ?_
  simp only [spec_RuleWays.j0]
  refine E.ifn (by decide) ?_
  simp only [Option.bind_some, List.nil_append, List.length_nil]
  refine E.ifp (by omega) ?_
  rw [hl] at hu
  have e := spec_RuleWays_l0 h3 hs hd w (fun x hx => w1 x hx) w4 w.length 0 1 10 u (by omega) (by decide) (by decide) hu (by decide) (by omega) (fun _ => hnn)
  rw [List.drop_zero, Int.one_mul] at e
  exact e
def sumTo (f : Nat → Int) : Nat → Int
  | 0 => 0
  | n + 1 => sumTo f n + f n
def SW (cs : Nat) : Nat → (List Int → Int) → Int
  | 0, g => g []
  | d + 1, g => sumTo (fun r => SW cs d (fun u => g ((r : Int) :: u))) cs
theorem sumTo_congr {f g : Nat → Int} : ∀ n, (∀ i, i < n → f i = g i) → sumTo f n = sumTo g n := by
  intro n
  induction n with
  | zero => intro _; rfl
  | succ n ih => intro h; rw [sumTo, sumTo, ih (fun i hi => h i (by omega)), h n (by omega)]
theorem sumTo_nonneg {f : Nat → Int} : ∀ n, (∀ i, i < n → 0 ≤ f i) → 0 ≤ sumTo f n := by
  intro n
  induction n with
  | zero => intro _; exact Int.le_refl 0
  | succ n ih => intro h; rw [sumTo]; have := ih (fun i hi => h i (by omega)); have := h n (by omega); omega
theorem sumTo_le {f g : Nat → Int} : ∀ n, (∀ i, i < n → f i ≤ g i) → sumTo f n ≤ sumTo g n := by
  intro n
  induction n with
  | zero => intro _; exact Int.le_refl 0
  | succ n ih => intro h; rw [sumTo, sumTo]; have := ih (fun i hi => h i (by omega)); have := h n (by omega); omega
theorem sumTo_const (c : Int) : ∀ n : Nat, sumTo (fun _ => c) n = n * c := by
  intro n
  induction n with
  | zero => simp [sumTo]
  | succ n ih => rw [sumTo, ih, Int.natCast_succ, Int.add_mul, Int.one_mul]
theorem sumTo_add {f g : Nat → Int} : ∀ n, sumTo (fun i => f i + g i) n = sumTo f n + sumTo g n := by
  intro n
  induction n with
  | zero => rfl
  | succ n ih => rw [sumTo, sumTo, sumTo, ih]; omega
theorem sumTo_swap (f : Nat → Nat → Int) (m : Nat) : ∀ n, sumTo (fun i => sumTo (fun j => f i j) m) n = sumTo (fun j => sumTo (fun i => f i j) n) m := by
  intro n
  induction n with
  | zero => simp only [sumTo]; rw [sumTo_const]; omega
  | succ n ih => rw [sumTo, ih, ← sumTo_add]; rfl
theorem sumTo_shift (f : Nat → Int) (a : Nat) : ∀ n, sumTo f (a + n) = sumTo f a + sumTo (fun i => f (a + i)) n := by
  intro n
  induction n with
  | zero => simp [sumTo]
  | succ n ih => rw [← Nat.add_assoc, sumTo, ih, sumTo]; omega
theorem sumTo_mul (f : Nat → Int) (c : Nat) : ∀ n, sumTo f (n * c) = sumTo (fun q => sumTo (fun r => f (q * c + r)) c) n := by
  intro n
  induction n with
  | zero => simp [sumTo]
  | succ n ih => rw [Nat.succ_mul, sumTo_shift, ih, sumTo]
theorem SW_congr (cs : Nat) : ∀ (d : Nat) (g h : List Int → Int), (∀ u, u.length = d → InW cs u → g u = h u) → SW cs d g = SW cs d h := by
  intro d
  induction d with
  | zero => intro g h e; exact e [] rfl (fun x hx => by simp at hx)
  | succ d ih =>
    intro g h e
    refine sumTo_congr cs (fun r hr => ih _ _ (fun u hl hu => e _ (by simp [hl]) (fun x hx => ?_)))
    rcases List.mem_cons.mp hx with rfl | hx
    · omega
    · exact hu x hx
theorem SW_le (cs : Nat) : ∀ (d : Nat) (g h : List Int → Int), (∀ u, u.length = d → InW cs u → g u ≤ h u) → SW cs d g ≤ SW cs d h := by
  intro d
  induction d with
  | zero => intro g h e; exact e [] rfl (fun x hx => by simp at hx)
  | succ d ih =>
    intro g h e
    refine sumTo_le cs (fun r hr => ih _ _ (fun u hl hu => e _ (by simp [hl]) (fun x hx => ?_)))
    rcases List.mem_cons.mp hx with rfl | hx
    · omega
    · exact hu x hx
theorem SW_nonneg (cs : Nat) : ∀ (d : Nat) (g : List Int → Int), (∀ u, u.length = d → InW cs u → 0 ≤ g u) → 0 ≤ SW cs d g := by
  intro d
  induction d with
  | zero => intro g e; exact e [] rfl (fun x hx => by simp at hx)
  | succ d ih =>
    intro g e
    refine sumTo_nonneg cs (fun r hr => ih _ (fun u hl hu => e _ (by simp [hl]) (fun x hx => ?_)))
    rcases List.mem_cons.mp hx with rfl | hx
    · omega
    · exact hu x hx
theorem SW_const (cs : Nat) (c : Int) : ∀ d : Nat, SW cs d (fun _ => c) = (cs : Int) ^ d * c := by
  intro d
  induction d with
  | zero => simp [SW]
  | succ d ih => rw [SW]; simp only [ih]; rw [sumTo_const, Int.pow_succ, ← Int.mul_assoc, Int.mul_comm (cs : Int)]
theorem SW_snoc (cs : Nat) : ∀ (d : Nat) (g : List Int → Int), SW cs (d + 1) g = sumTo (fun r => SW cs d (fun u => g (u ++ [(r : Int)]))) cs := by
  intro d
  induction d with
  | zero => intro g; rfl
  | succ d ih =>
    intro g
    rw [SW, sumTo_congr cs (fun r _ => ih (fun u => g ((r : Int) :: u))), sumTo_swap]
    refine sumTo_congr cs (fun r _ => ?_)
    rw [SW]
    rfl
theorem SW_rev (cs : Nat) : ∀ (d : Nat) (g : List Int → Int), SW cs d (fun u => g u.reverse) = SW cs d g := by
  intro d
  induction d with
  | zero => intro g; rfl
  | succ d ih =>
    intro g
    rw [SW, SW_snoc]
    refine sumTo_congr cs (fun r _ => ?_)
    rw [← ih (fun u => g (u ++ [(r : Int)]))]
    refine SW_congr cs d _ _ (fun u _ _ => ?_)
    rw [List.reverse_cons]
def dig (cs : Nat) : Nat → Nat → List Int
  | 0, _ => []
  | d + 1, n => ((n % cs : Nat) : Int) :: dig cs d (n / cs)
theorem SW_dig (cs : Nat) (hcs : 0 < cs) : ∀ (d : Nat) (g : List Int → Int), sumTo (fun n => g (dig cs d n)) (cs ^ d) = SW cs d g := by
  intro d
  induction d with
  | zero => intro g; simp [sumTo, SW, dig]
  | succ d ih =>
    intro g
    rw [Nat.pow_succ, sumTo_mul, SW, sumTo_swap]
    refine sumTo_congr cs (fun r hr => ?_)
    rw [← ih (fun u => g ((r : Int) :: u))]
    refine sumTo_congr _ (fun q _ => ?_)
    rw [dig, show (q * cs + r) % cs = r by rw [Nat.mul_comm, Nat.mul_add_mod]; exact Nat.mod_eq_of_lt hr, show (q * cs + r) / cs = q by rw [Nat.mul_comm, Nat.mul_add_div hcs, Nat.div_eq_of_lt hr]; omega]
theorem dig_length (cs : Nat) : ∀ (d n : Nat), (dig cs d n).length = d := by
  intro d
  induction d with
  | zero => intro n; rfl
  | succ d ih => intro n; rw [dig, List.length_cons, ih]
theorem dig_in (cs : Nat) (hcs : 0 < cs) : ∀ (d n : Nat), InW cs (dig cs d n) := by
  intro d
  induction d with
  | zero => intro n x hx; simp [dig] at hx
  | succ d ih =>
    intro n x hx
    rw [dig] at hx
    rcases List.mem_cons.mp hx with rfl | hx
    · have := Nat.mod_lt n hcs; omega
    · exact ih _ x hx
theorem wl_ok (g : Nat → Int → Int → Option Int) (f : Nat → Int) (B : Int) (_hB : B < 9223372036854775808) : ∀ (n a : Nat) (s : Int), 0 ≤ s → (∀ i, a ≤ i → i < a + n → 0 ≤ f i) → s + sumTo (fun i => f (a + i)) n ≤ B →
    (∀ i, a ≤ i → i < a + n → ∀ s, 0 ≤ s → s + f i ≤ B → E (fun k => g k (i : Int) s) (s + f i)) → E (fun k => wl (g k) n (a : Int) s) (s + sumTo (fun i => f (a + i)) n) := by
  intro n
  induction n with
  | zero => intro a s _ _ _ _; simp only [wl, sumTo, Int.add_zero]; exact E.now _
  | succ n ih =>
    intro a s h0 hf hs hg
    have e1 : sumTo (fun i => f (a + i)) (n + 1) = f a + sumTo (fun i => f (a + 1 + i)) n := by
      have := sumTo_shift (fun i => f (a + i)) 1 n
      rw [Nat.add_comm 1 n] at this
      rw [this]
      simp only [sumTo, Nat.add_zero, Int.zero_add]
      congr 1
      exact sumTo_congr n (fun i _ => by rw [Nat.add_assoc])
    have h1 := sumTo_nonneg (f := fun i => f (a + 1 + i)) n (fun i hi => hf _ (by omega) (by omega))
    have h2 := hf a (by omega) (by omega)
    simp only [wl]
    rw [e1] at hs ⊢
    refine E.bind (hg a (by omega) (by omega) s h0 (by omega)) ?_
    have e := ih (a + 1) (s + f a) (by omega) (fun i hi hi2 => hf i (by omega) (by omega)) (by omega) (fun i hi hi2 => hg i (by omega) (by omega))
    rw [← Int.add_assoc]
    exact e
theorem wk_ok (T : Nat → List Int → Int → Option Int) (g : List Int → Int) (cs : Nat) (B : Int) (hB : B < 9223372036854775808) : ∀ (d : Nat) (pre : List Int) (s : Int), 0 ≤ s → (∀ u, u.length = d → InW cs u → 0 ≤ g (pre ++ u)) → s + SW cs d (fun u => g (pre ++ u)) ≤ B →
    (∀ u, u.length = d → InW cs u → ∀ s, 0 ≤ s → s + g (pre ++ u) ≤ B → E (fun k => T k (pre ++ u) s) (s + g (pre ++ u))) → E (fun k => wk (T k) cs d pre s) (s + SW cs d (fun u => g (pre ++ u))) := by
  intro d
  induction d with
  | zero =>
    intro pre s h0 _ hs hT
    have e := hT [] rfl (fun x hx => by simp at hx) s h0 (by simpa [SW] using hs)
    rw [List.append_nil] at e
    simp only [wk, SW, List.append_nil]
    exact e
  | succ d ih =>
    intro pre s h0 hg hs hT
    have e := wl_ok (fun k c s => wk (T k) cs d (pre ++ [c]) s) (fun r => SW cs d (fun u => g (pre ++ ((r : Int) :: u)))) B hB cs 0 s h0
      (fun i _ hi => SW_nonneg cs d _ (fun u hl hu => hg _ (by simp [hl]) (fun x hx => by rcases List.mem_cons.mp hx with rfl | hx; · omega
                                                                                          · exact hu x hx)))
      (by simp only [Nat.zero_add]; exact hs)
      (fun i _ hi s hs0 hsB => by
        have e := ih (pre ++ [(i : Int)]) s hs0 (fun u hl hu => by
            rw [List.append_assoc]
            exact hg _ (by simp [hl]) (fun x hx => by rcases List.mem_cons.mp hx with rfl | hx; · omega
                                                      · exact hu x hx))
          (by simp only [List.append_assoc]; exact hsB)
          (fun u hl hu s h1 h2 => by
            rw [List.append_assoc] at h2 ⊢
            exact hT _ (by simp [hl]) (fun x hx => by rcases List.mem_cons.mp hx with rfl | hx; · omega
                                                      · exact hu x hx) s h1 h2)
        simp only [List.append_assoc] at e
        exact e)
    simp only [Nat.zero_add] at e
    exact e
def gW (u : List Int) (rule : List (List Int)) (t : Tm) (w : List Int) : Int := if t.fits w = true then wys rule u w else 0
def tW (u : List Int) (rule : List (List Int)) (t : Tm) : Int := SW u.length t.len (gW u rule t)
def rA (u : List Int) (rule : List (List Int)) (m : Nat) : Int := SW u.length m (wys rule u)
theorem pow100 : ∀ i : Fin 7, (100 : Int) ^ (i : Nat) ≤ 1000000000000 := by decide
theorem pow729 : ∀ c : Fin 4, ∀ d : Fin 7, ((c : Nat) : Int) ^ (d : Nat) ≤ 729 := by decide
theorem ways_small {n : Nat} {rule : List (List Int)} (hs : Sq n rule) {u : List Int} (hu : Ur n 10 u) {w : List Int} (hw : InW n w) (hl : w.length ≤ 6) : 0 ≤ wys rule u w ∧ wys rule u w ≤ 1000000000000 := by
  have h1 := wys_le hs w hw hu (by omega) (by omega)
  have h2 := pow100 ⟨w.length, by omega⟩
  simp only at h2
  exact ⟨wys_nonneg _ _ _, by omega⟩
theorem SW_small {n : Nat} (hn : n ≤ 3) {m : Nat} (hm : m ≤ 6) {g : List Int → Int} (hg : ∀ w, w.length = m → InW n w → 0 ≤ g w ∧ g w ≤ 1000000000000) : 0 ≤ SW n m g ∧ SW n m g ≤ 729000000000000 := by
  have h1 := SW_nonneg n m g (fun w a b => (hg w a b).1)
  have h2 := SW_le n m g (fun _ => 1000000000000) (fun w a b => (hg w a b).2)
  rw [SW_const] at h2
  have h3 := pow729 ⟨n, by omega⟩ ⟨m, by omega⟩
  simp only at h3
  have h4 := Int.mul_le_mul_of_nonneg_right h3 (show (0 : Int) ≤ 1000000000000 by decide)
  exact ⟨h1, by omega⟩
theorem gW_small {n : Nat} {rule : List (List Int)} (hs : Sq n rule) {u : List Int} (hu : Ur n 10 u) (t : Tm) {w : List Int} (hw : InW n w) (hl : w.length ≤ 6) : 0 ≤ gW u rule t w ∧ gW u rule t w ≤ 1000000000000 := by
  unfold gW
  split
  · exact ways_small hs hu hw hl
  · omega
theorem TTW_ok {n : Nat} {rule : List (List Int)} {u : List Int} (hn : n ≤ 3) (hs : Sq n rule) (hu : Ur n 10 u) {c : Int} {t : Tm} (ho : t.ok c) (h15 : t.ms.length ≤ 15) {w : List Int} (hw : InW n w) (hl : w.length ≤ 6) {s : Int} (s0 : 0 ≤ s) (s1 : s + gW u rule t w ≤ 729000000000000) :
    E (fun k => TTW k u rule t.ms w s) (s + gW u rule t w) := by
  have hg := gW_small hs hu t hw hl
  unfold TTW
  refine E.bind (impl_fits_ok t ho (by omega) w) ?_
  unfold gW at *
  by_cases hf : t.fits w = true
  · rw [if_pos hf] at *
    refine E.ifp hf (E.bind (impl_ruleWays_ok hn hs w hw hl hu) ?_)
    rw [wr (by omega) (by omega)]
    exact E.now _
  · rw [if_neg hf, Int.add_zero]
    exact E.ifn hf (E.now _)
theorem impl_TermWays_yes {u : List Int} {rule : List (List Int)} {t : Tm} (hst : startB u = true) (hru : ruleB (u.length : Int) rule = true) (ho : t.ok (u.length : Int)) (hte : termB (u.length : Int) t.ms = true) (h15 : t.ms.length ≤ 15) : E (fun k => impl_TermWays.f k u rule t.ms) (tW u rule t) := by
  obtain ⟨h1, h3, hs, hd⟩ := ruleB_some hru
  obtain ⟨s1, s3, hu, hnn⟩ := startB_some hst
  have h6 := t.len_le ho
  have hrl : ∀ r ∈ rule, r.length ≤ 2000000 := fun r hr => by rw [(hs.2 r hr).1]; omega
  have hA := impl_ruleAsked_ok u rule (by omega) (by rw [hs.1]; omega) hrl
  rw [hst, hru, Bool.true_and] at hA
  unfold impl_TermWays.f
  refine E.bind hA (E.ifp rfl ?_)
  have hT := implTermE (u.length : Int) t.ms (by omega)
  rw [hte] at hT
  refine E.bind hT (E.ifp rfl ?_)
  refine E.bind (impl_lengthOf_ok t ho (by omega)) ?_
  refine E.ifp ⟨by omega, by omega, by omega⟩ ?_
  rw [Int.toNat_natCast]
  have hsm := SW_small (n := u.length) h3 h6 (g := gW u rule t) (fun w a b => gW_small hs hu t b (by omega))
  have e := wk_ok (fun k => TTW k u rule t.ms) (gW u rule t) u.length 729000000000000 (by decide) t.len [] 0 (by decide) (fun w a b => (gW_small hs hu t b (by omega)).1) (by simp only [List.nil_append, Int.zero_add]; exact hsm.2)
    (fun w a b s hs0 hs1 => TTW_ok h3 hs hu ho h15 b (by omega) hs0 hs1)
  simp only [List.nil_append, Int.zero_add] at e
  exact e
theorem impl_TermWays_no {u : List Int} {rule : List (List Int)} {l : List S42} (hu : u.length ≤ 2000000) (hr : rule.length ≤ 2000000) (hrl : ∀ r ∈ rule, r.length ≤ 2000000) (hl : l.length ≤ 1048576) (h : (startB u && (ruleB (u.length : Int) rule && termB (u.length : Int) l)) = false) : E (fun k => impl_TermWays.f k u rule l) (-1) := by
  unfold impl_TermWays.f
  refine E.bind (impl_ruleAsked_ok u rule hu hr hrl) ?_
  cases h1 : startB u && ruleB (u.length : Int) rule with
  | false => exact E.ifn (by decide) (E.now _)
  | true =>
    refine E.ifp rfl (E.bind (implTermE _ l hl) ?_)
    rw [← Bool.and_assoc, h1, Bool.true_and] at h
    rw [h]
    exact E.ifn (by decide) (E.now _)
theorem TRA_ok {n : Nat} {rule : List (List Int)} {u : List Int} (hn : n ≤ 3) (hs : Sq n rule) (hu : Ur n 10 u) {w : List Int} (hw : InW n w) (hl : w.length ≤ 6) {s : Int} (s0 : 0 ≤ s) (s1 : s + wys rule u w ≤ 729000000000000) :
    E (fun k => TRA k u rule w s) (s + wys rule u w) := by
  have hg := ways_small hs hu hw hl
  unfold TRA
  refine E.bind (impl_ruleWays_ok hn hs w hw hl hu) ?_
  rw [wr (by omega) (by omega)]
  exact E.now _
theorem impl_RuleAll_yes {u : List Int} {rule : List (List Int)} {m : Nat} (hm : m ≤ 6) (hst : startB u = true) (hru : ruleB (u.length : Int) rule = true) : E (fun k => impl_RuleAll.f k u rule (m : Int)) (rA u rule m) := by
  obtain ⟨h1, h3, hs, hd⟩ := ruleB_some hru
  obtain ⟨s1, s3, hu, hnn⟩ := startB_some hst
  have hrl : ∀ r ∈ rule, r.length ≤ 2000000 := fun r hr => by rw [(hs.2 r hr).1]; omega
  have hA := impl_ruleAsked_ok u rule (by omega) (by rw [hs.1]; omega) hrl
  rw [hst, hru, Bool.true_and] at hA
  unfold impl_RuleAll.f
  refine E.bind hA (E.ifp rfl (E.ifn (by omega) (E.ifn (by omega) (E.ifp (by omega) ?_))))
  rw [Int.toNat_natCast]
  have hsm := SW_small (n := u.length) h3 hm (g := wys rule u) (fun w a b => ways_small hs hu b (by omega))
  have e := wk_ok (fun k => TRA k u rule) (wys rule u) u.length 729000000000000 (by decide) m [] 0 (by decide) (fun w a b => wys_nonneg _ _ _) (by simp only [List.nil_append, Int.zero_add]; exact hsm.2)
    (fun w a b s hs0 hs1 => TRA_ok h3 hs hu b (by omega) hs0 hs1)
  simp only [List.nil_append, Int.zero_add] at e
  exact e
theorem spec_l3Power_l0 {n m : Nat} (hn : n ≤ 3) (hm : m ≤ 6) : ∀ (d i : Nat), i + d = m → E (fun k => spec_l3Power.l0 k (n : Int) (m : Int) ((n ^ i : Nat) : Int) (i : Int)) ((n ^ m : Nat) : Int) := by
  intro d
  induction d with
  | zero =>
    intro i hi
    refine E.up ?_
    simp only [spec_l3Power.l0]
    rw [show i = m by omega]
    exact E.ifn (by omega) (E.now _)
  | succ d ih =>
    intro i hi
    refine E.up ?_
    simp only [spec_l3Power.l0]
    refine E.ifp (by omega) ?_
    have h3 := pow729 ⟨n, by omega⟩ ⟨i + 1, by omega⟩
    simp only at h3
    have e : ((n ^ i : Nat) : Int) * (n : Int) = ((n ^ (i + 1) : Nat) : Int) := by rw [Nat.pow_succ, Int.natCast_mul]
    have e2 : ((n ^ (i + 1) : Nat) : Int) = (n : Int) ^ (i + 1) := Int.natCast_pow n (i + 1)
    rw [e, wr (n := ((n ^ (i + 1) : Nat) : Int)) (by omega) (by omega), wr (n := (i : Int) + 1) (by omega) (by omega)]
    exact ih (i + 1) (by omega)
theorem spec_l3Power_ok {n m : Nat} (hn : n ≤ 3) (hm : m ≤ 6) : E (fun k => spec_l3Power.f k (n : Int) (m : Int)) ((n ^ m : Nat) : Int) := spec_l3Power_l0 hn hm m 0 (by omega)
theorem spec_l9Word_l0 {n m : Nat} (hn : 1 ≤ n ∧ n ≤ 3) (hm : m ≤ 6) : ∀ (d i x : Nat) (acc : List Int), i + d = m → x < 1000000 → acc.length = i → E (fun k => spec_l9Word.l0 k (n : Int) (m : Int) (x : Int) acc (i : Int)) (acc ++ dig n d x) := by
  intro d
  induction d with
  | zero =>
    intro i x acc hi hx ha
    refine E.up ?_
    simp only [spec_l9Word.l0]
    rw [dig, List.append_nil]
    exact E.ifn (by omega) (E.now _)
  | succ d ih =>
    intro i x acc hi hx ha
    refine E.up ?_
    simp only [spec_l9Word.l0]
    have h1 : Int.tdiv (x : Int) (n : Int) = ((x / n : Nat) : Int) := by rw [Int.tdiv_eq_ediv_of_nonneg (by omega), Int.natCast_ediv]
    have h2 : Int.tmod (x : Int) (n : Int) = ((x % n : Nat) : Int) := by rw [Int.tmod_eq_emod_of_nonneg (by omega), Int.natCast_emod]
    have h3 : x / n ≤ x := Nat.div_le_self _ _
    refine E.ifp (by omega) (E.ifn (by omega) (E.ifp (by omega) ?_))
    rw [h1, h2, dig]
    generalize x / n = q at h3 ⊢
    generalize x % n = y
    rw [wr (n := (q : Int)) (by omega) (by omega), wr (n := (i : Int) + 1) (by omega) (by omega)]
    have e := ih (i + 1) q (acc ++ [(y : Int)]) (by omega) (by omega) (by simp; omega)
    rw [List.append_assoc] at e
    exact e
theorem spec_l9Word_ok {n m : Nat} (hn : 1 ≤ n ∧ n ≤ 3) (hm : m ≤ 6) (x : Nat) (hx : x < 1000000) : E (fun k => spec_l9Word.f k (n : Int) (m : Int) (x : Int)) (dig n m x) := spec_l9Word_l0 hn hm m 0 x [] (by omega) hx rfl
theorem spec_TermWays_l0 {u : List Int} {rule : List (List Int)} {t : Tm} (hst : startB u = true) (hru : ruleB (u.length : Int) rule = true) (ho : t.ok (u.length : Int)) (h15 : t.ms.length ≤ 15) : ∀ (d i : Nat) (s : Int), i + d = u.length ^ t.len → 0 ≤ s → s + sumTo (fun j => gW u rule t (dig u.length t.len (i + j))) d ≤ 729000000000000 →
    E (fun k => spec_TermWays.l0 k u rule t.ms (t.len : Int) s (i : Int)) (s + sumTo (fun j => gW u rule t (dig u.length t.len (i + j))) d) := by
  obtain ⟨h1, h3, hs, hd⟩ := ruleB_some hru
  obtain ⟨s1, s3, hu, hnn⟩ := startB_some hst
  have h6 := t.len_le ho
  have hp := pow729 ⟨u.length, by omega⟩ ⟨t.len, by omega⟩
  simp only at hp
  have hp2 : ((u.length ^ t.len : Nat) : Int) = (u.length : Int) ^ t.len := Int.natCast_pow _ _
  intro d
  induction d with
  | zero =>
    intro i s hi _ _
    refine E.up ?_
    simp only [spec_TermWays.l0]
    refine E.bind (spec_l3Power_ok h3 h6) ?_
    simp only [sumTo, Int.add_zero]
    exact E.ifn (by omega) (E.now _)
  | succ d ih =>
    intro i s hi s0 sB
    have e1 : sumTo (fun j => gW u rule t (dig u.length t.len (i + j))) (d + 1) = gW u rule t (dig u.length t.len i) + sumTo (fun j => gW u rule t (dig u.length t.len (i + 1 + j))) d := by
      have := sumTo_shift (fun j => gW u rule t (dig u.length t.len (i + j))) 1 d
      rw [Nat.add_comm 1 d] at this
      rw [this]
      simp only [sumTo, Nat.add_zero, Int.zero_add]
      congr 1
      exact sumTo_congr d (fun j _ => by rw [Nat.add_assoc])
    have hin := dig_in u.length (by omega) t.len
    have hle := dig_length u.length t.len
    have hg := gW_small hs hu t (hin i) (by rw [hle]; omega)
    have hrest := sumTo_nonneg (f := fun j => gW u rule t (dig u.length t.len (i + 1 + j))) d (fun j _ => (gW_small hs hu t (hin _) (by rw [hle]; omega)).1)
    rw [e1] at sB ⊢
    refine E.up ?_
    simp only [spec_TermWays.l0]
    refine E.bind (spec_l3Power_ok h3 h6) (E.ifp (by omega) ?_)
    refine E.bind (spec_l9Word_ok ⟨h1, h3⟩ h6 i (by omega)) ?_
    refine E.bind (spec_l9Fits_ok t ho (by omega) _) ?_
    rw [wr (n := (i : Int) + 1) (by omega) (by omega)]
    by_cases hf : t.fits (dig u.length t.len i) = true
    · refine E.ifp hf (E.bind (spec_RuleWays_ok rfl hst hru _ (wordB_mk (hin i) ⟨by omega, by omega, by rw [hle]; omega⟩)) ?_)
      have eg : gW u rule t (dig u.length t.len i) = wys rule u (dig u.length t.len i) := if_pos hf
      rw [← eg, wr (n := s + gW u rule t (dig u.length t.len i)) (by omega) (by omega), ← Int.add_assoc]
      exact ih (i + 1) _ (by omega) (by omega) (by omega)
    · have eg : gW u rule t (dig u.length t.len i) = 0 := if_neg hf
      rw [eg, Int.zero_add] at sB ⊢
      exact E.ifn hf (ih (i + 1) s (by omega) s0 sB)
theorem spec_TermWays_yes {u : List Int} {rule : List (List Int)} {t : Tm} (hst : startB u = true) (hru : ruleB (u.length : Int) rule = true) (ho : t.ok (u.length : Int)) (hte : termB (u.length : Int) t.ms = true) (h15 : t.ms.length ≤ 15) : E (fun k => spec_TermWays.f k u rule t.ms) (tW u rule t) := by
  obtain ⟨h1, h3, hs, hd⟩ := ruleB_some hru
  obtain ⟨s1, s3, hu, hnn⟩ := startB_some hst
  have h6 := t.len_le ho
  have hrl : ∀ r ∈ rule, r.length ≤ 2000000 := fun r hr => by rw [(hs.2 r hr).1]; omega
  unfold spec_TermWays.f
  refine E.bind (spec_StartOk_ok u (by omega)) ?_
  rw [hst]
  refine E.ifp rfl (E.bind (spec_RuleOk_ok _ rule (by rw [hs.1]; omega) hrl) ?_)
  rw [hru]
  refine E.ifp rfl (E.bind (specTermE (u.length : Int) t.ms (by omega)) ?_)
  rw [hte]
  refine E.up ?_
  simp only [spec_TermWays.j0]
  refine E.ifn (by decide) (E.bind (spec_l9Length_ok t ho (by omega)) ?_)
  have hsm := SW_small (n := u.length) h3 h6 (g := gW u rule t) (fun w a b => gW_small hs hu t b (by omega))
  have e := spec_TermWays_l0 hst hru ho h15 (u.length ^ t.len) 0 0 (by omega) (by decide) (by simp only [Nat.zero_add]; rw [SW_dig u.length (by omega) t.len (gW u rule t)]; omega)
  simp only [Nat.zero_add, Int.zero_add] at e
  rw [SW_dig u.length (by omega) t.len (gW u rule t)] at e
  exact e
theorem spec_TermWays_no {u : List Int} {rule : List (List Int)} {l : List S42} (hu : u.length ≤ 2000000) (hr : rule.length ≤ 2000000) (hrl : ∀ r ∈ rule, r.length ≤ 2000000) (hl : l.length ≤ 1048576) (h : (startB u && (ruleB (u.length : Int) rule && termB (u.length : Int) l)) = false) : E (fun k => spec_TermWays.f k u rule l) (-1) := by
  have hj : E (fun k => spec_TermWays.j0 k u rule l true) (-1) := by
    refine E.up ?_
    simp only [spec_TermWays.j0]
    exact E.ifp trivial (E.now _)
  unfold spec_TermWays.f
  refine E.bind (spec_StartOk_ok u hu) ?_
  cases h1 : startB u with
  | false => exact E.ifn (by decide) hj
  | true =>
    refine E.ifp rfl (E.bind (spec_RuleOk_ok _ rule hr hrl) ?_)
    cases h2 : ruleB (u.length : Int) rule with
    | false => exact E.ifn (by decide) hj
    | true =>
      rw [h1, h2, Bool.true_and, Bool.true_and] at h
      refine E.ifp rfl (E.bind (specTermE _ l hl) ?_)
      rw [h]
      exact hj
def UrnGood (r : List Int × Int) : Prop := r.1.length ≤ 4 ∧ 0 ≤ r.2 ∧ r.2 ≤ 100
theorem urn_l0 {b : List Int} (hb : ∀ x ∈ b, 0 ≤ x ∧ x < 256) (hl : b.length ≤ 2000) (n : Int) : ∀ (d : Nat) (y : List Int) (p : Int), 1 ≤ y.length + d → y.length + d ≤ 3 → 0 ≤ p → p + d ≤ 90 →
    Dr (fun k => spec_l20Urn.l0 k n y (d : Int) b p) UrnGood := by
  intro d
  induction d with
  | zero =>
    intro y p h1 h3 hp0 hp1
    refine Dr.up ?_
    simp only [spec_l20Urn.l0]
    refine Dr.ifn (by omega) ?_
    refine Dr.bind (odd_dr hb hl n hp0 (by omega)) fun r ⟨g1, g2⟩ => ?_
    by_cases h : r.1 = true
    · refine Dr.ifp h ?_
      refine Dr.bind (pick_dr hb hl 3 g1 (by omega)) fun r1 ⟨_, _, q1, q2⟩ => ?_
      by_cases h0 : r1.1 = 0
      · exact Dr.ifp h0 (Dr.now _ ⟨by simp, q1, by show r1.2 ≤ 100; omega⟩)
      refine Dr.ifn h0 ?_
      by_cases h2 : r1.1 = 1
      · refine Dr.ifp h2 ?_
        simp only [Option.bind_some]
        refine Dr.bind (pick_dr hb hl 2 q1 (by omega)) fun r2 ⟨a1, a2, q3, q4⟩ => ?_
        refine Dr.ifp a1 (Dr.ifp (by simp; omega) (Dr.ifp (by omega) ?_))
        exact Dr.now _ ⟨by simp; omega, q3, by show r2.2 ≤ 100; omega⟩
      · exact Dr.ifn h2 (Dr.now _ ⟨by simp, q1, by show r1.2 ≤ 100; omega⟩)
    · exact Dr.ifn h (Dr.now _ ⟨by show y.length ≤ 4; omega, g1, by show r.2 ≤ 100; omega⟩)
  | succ d ih =>
    intro y p h1 h3 hp0 hp1
    refine Dr.up ?_
    simp only [spec_l20Urn.l0]
    refine Dr.ifp (by omega) ?_
    refine Dr.bind (pick_dr hb hl 6 hp0 (by omega)) fun r ⟨_, _, g1, g2⟩ => ?_
    refine Dr.ifp (by omega) ?_
    rw [show wrap64 (((d + 1 : Nat) : Int) - 1) = (d : Int) by rw [wr (by omega) (by omega)]; omega]
    exact ih (y ++ [r.1]) r.2 (by simp; omega) (by simp; omega) g1 (by omega)
theorem urn_dr {b : List Int} (hb : ∀ x ∈ b, 0 ≤ x ∧ x < 256) (hl : b.length ≤ 2000) (n p : Int) (hp0 : 0 ≤ p) (hp1 : p ≤ 50) : Dr (fun k => spec_l20Urn.f k b p n) UrnGood := by
  unfold spec_l20Urn.f
  refine Dr.bind (pick_dr hb hl 3 hp0 (by omega)) fun r ⟨a1, a2, g1, g2⟩ => ?_
  rw [wr (n := 1 + r.1) (by omega) (by omega)]
  obtain ⟨d, hd⟩ := Int.eq_ofNat_of_zero_le (show 0 ≤ 1 + r.1 by omega)
  rw [hd]
  exact urn_l0 hb hl n d [] r.2 (by simp; omega) (by simp; omega) g1 (by omega)
def RuleGood (r : List (List Int) × Int) : Prop := r.1.length ≤ 3 ∧ (∀ row ∈ r.1, row.length ≤ 3) ∧ 0 ≤ r.2 ∧ r.2 ≤ 1000
theorem rule_l1 {b : List Int} (hb : ∀ x ∈ b, 0 ≤ x ∧ x < 256) (hl : b.length ≤ 2000) (n : Nat) (hn : 1 ≤ n ∧ n ≤ 3) (x2 x8 : Int) (X : List (List Int)) (i : Nat) (hi : i < n) (hX : X.length ≤ 3) (P : Int) (hP : P ≤ 100000)
    (hnext : ∀ (row : List Int) (p : Int), row.length = n → 0 ≤ p → p ≤ P → Dr (fun k => spec_l20Rule.l0 k (n : Int) x2 (X ++ [row]) x8 ((i : Int) + 1) b p) RuleGood) :
    ∀ (d j : Nat) (y : List Int) (p : Int), j + d = n → y.length = n → 0 ≤ p → p + 2 * d ≤ P → Dr (fun k => spec_l20Rule.l1 k (n : Int) x2 X x8 (i : Int) y (j : Int) b p) RuleGood := by
  intro d
  induction d with
  | zero =>
    intro j y p hj hy hp0 hp1
    refine Dr.up ?_
    simp only [spec_l20Rule.l1]
    rw [wr (n := (i : Int) + 1) (by omega) (by omega)]
    simp only [Option.bind_some, Int.toNat_natCast, List.length_replicate]
    refine Dr.ifn (by omega) ?_
    by_cases k0 : x8 = 0
    · refine Dr.ifp k0 (Dr.ifp (by omega) (Dr.ifp (by omega) (Dr.ifp (by omega) (Dr.ifp (by omega) (Dr.ifp (by omega) ?_)))))
      exact hnext _ p (by simp) hp0 (by omega)
    refine Dr.ifn k0 ?_
    by_cases k1 : x8 = 1
    · have hm := tmod_lt (x := (i : Int) + 1) (n := (n : Int)) (by omega) (by omega)
      refine Dr.ifp k1 (Dr.ifp (by omega) (Dr.ifp (by omega) (Dr.ifp (by omega) (Dr.ifp (by omega) (Dr.ifn (by omega) (Dr.ifp hm.1 (Dr.ifp hm.2 (Dr.ifp (by omega) ?_))))))))
      exact hnext _ p (by simp) hp0 (by omega)
    · refine Dr.ifn k1 (Dr.ifp (by omega) ?_)
      exact hnext _ p hy hp0 (by omega)
  | succ d ih =>
    intro j y p hj hy hp0 hp1
    refine Dr.up ?_
    simp only [spec_l20Rule.l1]
    refine Dr.ifp (by omega) ?_
    refine Dr.bind (pick_dr hb hl 3 hp0 (by omega)) fun r ⟨_, _, g1, g2⟩ => ?_
    refine Dr.bind (pick_dr hb hl 2 g1 (by omega)) fun r2 ⟨_, _, g3, g4⟩ => ?_
    refine Dr.ifp (by omega) (Dr.ifp (by omega) ?_)
    rw [wr (n := (j : Int) + 1) (by omega) (by omega)]
    exact ih (j + 1) _ r2.2 (by omega) (by simpa using hy) g3 (by omega)
theorem rule_l0 {b : List Int} (hb : ∀ x ∈ b, 0 ≤ x ∧ x < 256) (hl : b.length ≤ 2000) (n : Nat) (hn : 1 ≤ n ∧ n ≤ 3) (x2 x8 : Int) : ∀ (d i : Nat) (X : List (List Int)) (p : Int), i + d = n → X.length = i → (∀ row ∈ X, row.length = n) → 0 ≤ p → p + 10 * d ≤ 900 →
    Dr (fun k => spec_l20Rule.l0 k (n : Int) x2 X x8 (i : Int) b p) RuleGood := by
  intro d
  induction d with
  | zero =>
    intro i X p hi hX hrow hp0 hp1
    refine Dr.up ?_
    simp only [spec_l20Rule.l0]
    rw [wr (n := (n : Int) - 1) (by omega) (by omega)]
    refine Dr.ifn (by omega) ?_
    refine Dr.bind (odd_dr hb hl x2 hp0 (by omega)) fun r ⟨g1, g2⟩ => ?_
    by_cases h : r.1 = true
    · refine Dr.ifp h ?_
      refine Dr.bind (pick_dr hb hl 2 g1 (by omega)) fun r1 ⟨_, _, q1, q2⟩ => ?_
      by_cases h0 : r1.1 = 0
      · have hx0 : rd_L1 X 0 = X[0]'(by omega) := rdL_nat X 0 (by omega)
        have hl0 : (rd_L1 X 0).length = n := by rw [hx0]; exact hrow _ (List.getElem_mem _)
        refine Dr.ifp h0 (Dr.ifp (by omega) (Dr.ifp (by omega) (Dr.ifp (by omega) ?_)))
        refine Dr.now _ ⟨by simp; omega, fun row hr => ?_, q1, by show r1.2 ≤ 1000; omega⟩
        rcases List.mem_or_eq_of_mem_set hr with h | h
        · rw [hrow row h]; omega
        · rw [h, List.length_set, hl0]; omega
      · refine Dr.ifn h0 (Dr.ifp (by omega) ?_)
        exact Dr.now _ ⟨by simp; omega, fun row hr => by rw [hrow row (List.mem_of_mem_drop hr)]; omega, q1, by show r1.2 ≤ 1000; omega⟩
    · exact Dr.ifn h (Dr.now _ ⟨by show X.length ≤ 3; omega, fun row hr => by rw [hrow row hr]; omega, g1, by show r.2 ≤ 1000; omega⟩)
  | succ d ih =>
    intro i X p hi hX hrow hp0 hp1
    refine Dr.up ?_
    simp only [spec_l20Rule.l0]
    rw [Int.toNat_natCast]
    refine Dr.ifp (by omega) (Dr.ifp (by omega) (Dr.ifp (by omega) ?_))
    refine rule_l1 hb hl n hn x2 x8 X i (by omega) (by omega) (p + 6) (by omega) (fun row p' hr h0 h1 => ?_) n 0 (List.replicate n 0) p (by omega) (by simp) hp0 (by omega)
    refine ih (i + 1) (X ++ [row]) p' (by omega) (by simp; omega) (fun row2 hr2 => ?_) h0 (by omega)
    rcases List.mem_append.mp hr2 with h | h
    · exact hrow row2 h
    · rw [List.mem_singleton.mp h]; exact hr
theorem rule_dr {b : List Int} (hb : ∀ x ∈ b, 0 ≤ x ∧ x < 256) (hl : b.length ≤ 2000) (a1 a2 p : Int) (hp0 : 0 ≤ p) (hp1 : p ≤ 500) : Dr (fun k => spec_l20Rule.f k b p a1 a2) RuleGood := by
  unfold spec_l20Rule.f
  refine Dr.bind (pick_dr hb hl 4 hp0 (by omega)) fun r ⟨a1', a2', g1, g2⟩ => ?_
  have hm : 1 ≤ mn (mx a1 1) 3 ∧ mn (mx a1 1) 3 ≤ 3 := by unfold mn mx; omega
  obtain ⟨n, hn⟩ := Int.eq_ofNat_of_zero_le (show 0 ≤ mn (mx a1 1) 3 by omega)
  rw [hn] at hm ⊢
  exact rule_l0 hb hl n (by omega) a2 r.1 n 0 [] r.2 (by omega) rfl (fun row h => by simp at h) g1 (by omega)
theorem tw_dr {l : List Int} (hl : ∀ x ∈ l, (Lit.int .u8 x).wf = true) : Dr (fun k => spec_DrawTermWays.f k l) (fun r => r.1.length ≤ 4 ∧ r.2.1.length ≤ 3 ∧ (∀ row ∈ r.2.1, row.length ≤ 3) ∧ r.2.2.length ≤ 14) := by
  unfold spec_DrawTermWays.f
  refine Dr.bind (open_dr hl) fun b ⟨b0, b1, b2⟩ => ?_
  refine Dr.bind (urn_dr b1 b2 14 b.2 (by omega) (by omega)) fun u ⟨u1, u2, u3⟩ => ?_
  refine Dr.bind (rule_dr b1 b2 (u.1.length : Int) 14 u.2 u2 (by omega)) fun r ⟨r1, r2, r3, r4⟩ => ?_
  refine Dr.bind (term_dr b1 b2 (u.1.length : Int) 14 r.2 r3 (by omega)) fun t ⟨t1, _, _⟩ => ?_
  exact Dr.now _ ⟨u1, r1, r2, t1⟩
def sameR (n : Nat) (step : Int) : List (List Int) := (List.range n).map fun i => (List.replicate n 0).set i step
theorem sameR_length (n : Nat) (step : Int) : (sameR n step).length = n := by simp [sameR]
theorem sameR_get {n : Nat} {step : Int} {i : Nat} (h : i < n) : rd_L1 (sameR n step) (i : Int) = (List.replicate n 0).set i step := by
  rw [rdL_nat _ i (by rw [sameR_length]; exact h)]
  simp [sameR]
theorem impl_SameRule_l0 (n : Nat) (step : Int) (hn : n ≤ 3) : ∀ (d i : Nat), i + d = n → E (fun k => impl_SameRule.l0 k (n : Int) step ((sameR n step).take i) (n : Int) (i : Int)) (sameR n step) := by
  intro d
  induction d with
  | zero =>
    intro i hi
    refine E.up ?_
    simp only [impl_SameRule.l0]
    rw [List.take_of_length_le (by rw [sameR_length]; omega)]
    exact E.ifn (by omega) (E.now _)
  | succ d ih =>
    intro i hi
    have hi2 : i < (sameR n step).length := by rw [sameR_length]; omega
    refine E.up ?_
    simp only [impl_SameRule.l0]
    simp only [Option.bind_some, Int.toNat_natCast, List.length_replicate]
    refine E.ifp (by omega) (E.ifp (by omega) (E.ifp (by omega) (E.ifp (by omega) (E.ifp (by omega) (E.ifp (by rw [List.length_take, sameR_length]; omega) ?_)))))
    rw [wr (n := (i : Int) + 1) (by omega) (by omega)]
    have e : (sameR n step)[i] = (List.replicate n 0).set i step := by simp [sameR]
    rw [← e, ← List.take_succ_eq_append_getElem hi2]
    exact ih (i + 1) (by omega)
theorem impl_SameRule_ok {n : Nat} {step : Int} (hn : 1 ≤ n ∧ n ≤ 3) (hs : -1 ≤ step ∧ step ≤ 3) : E (fun k => impl_SameRule.f k (n : Int) step) (sameR n step) := by
  unfold impl_SameRule.f
  rw [impl_colours_ok, decide_eq_true (show 1 ≤ (n : Int) ∧ (n : Int) ≤ 3 by omega)]
  simp only [Option.bind_some]
  refine E.ifp trivial (E.ifn (by omega) ?_)
  refine E.up ?_
  simp only [impl_SameRule.j0]
  refine E.ifn (by simp; omega) ?_
  have e := impl_SameRule_l0 n step hn.2 n 0 (by omega)
  rw [List.take_zero] at e
  exact e
theorem sameR_ok {n : Nat} {step : Int} (hn : 1 ≤ n ∧ n ≤ 3) (hs : -1 ≤ step ∧ step ≤ 3) : ruleB (n : Int) (sameR n step) = true := by
  have h1 : n = 1 ∨ n = 2 ∨ n = 3 := by omega
  have h2 : step = -1 ∨ step = 0 ∨ step = 1 ∨ step = 2 ∨ step = 3 := by omega
  rcases h1 with rfl | rfl | rfl <;> rcases h2 with rfl | rfl | rfl | rfl | rfl <;> decide
theorem addR_comm {u r s : List Int} : addR (addR u r) s = addR (addR u s) r := by
  refine List.ext_getElem (by simp [addR]; omega) (fun i h1 h2 => ?_)
  simp [addR]; omega
theorem rd_other {n : Nat} {step : Int} {u : List Int} (hu : u.length = n) {a b : Nat} (ha : a < n) (hb : b < n) (hab : a ≠ b) : rd (addR u (rd_L1 (sameR n step) (a : Int))) (b : Int) = rd u (b : Int) := by
  rw [sameR_get ha, rd_addR (by simp [hu]) b (by omega), rd_nat ((List.replicate n 0).set a step) b (by simp; exact hb), List.getElem_set_ne (by omega)]
  simp
theorem wys_swap {n : Nat} {step : Int} {u : List Int} (hu : u.length = n) {x y : Int} (hx : 0 ≤ x ∧ x < n) (hy : 0 ≤ y ∧ y < n) (w : List Int) : wys (sameR n step) u (x :: y :: w) = wys (sameR n step) u (y :: x :: w) := by
  obtain ⟨a, rfl⟩ := Int.eq_ofNat_of_zero_le hx.1
  obtain ⟨b, rfl⟩ := Int.eq_ofNat_of_zero_le hy.1
  by_cases h : a = b
  · rw [h]
  · simp only [wys]
    rw [rd_other hu (by omega) (by omega) h, rd_other hu (by omega) (by omega) (fun e => h e.symm), addR_comm, ← Int.mul_assoc, ← Int.mul_assoc, Int.mul_comm (mx 0 (rd u (a : Int)))]
theorem sameR_step {n : Nat} {step : Int} {u : List Int} (hu : u.length = n) {x : Int} (hx : 0 ≤ x ∧ x < n) : (addR u (rd_L1 (sameR n step) x)).length = n := by
  obtain ⟨a, rfl⟩ := Int.eq_ofNat_of_zero_le hx.1
  rw [sameR_get (by omega), addR_length (by simp [hu]), hu]
theorem wys_perm {n : Nat} {step : Int} {w v : List Int} (h : w.Perm v) : ∀ u : List Int, u.length = n → InW n w → wys (sameR n step) u w = wys (sameR n step) u v := by
  induction h with
  | nil => intro u _ _; rfl
  | cons x _ ih =>
    intro u hu hw
    rw [wys, wys, ih _ (sameR_step hu (hw x (by simp))) (fun y hy => hw y (by simp [hy]))]
  | swap x y l => intro u hu hw; exact wys_swap hu (hw y (by simp)) (hw x (by simp)) l
  | trans h1 _ ih1 ih2 =>
    intro u hu hw
    rw [ih1 u hu hw]
    exact ih2 u hu (fun x hx => hw x (h1.mem_iff.mpr hx))
theorem tW_back {u : List Int} {step : Int} {t : Tm} (ho : t.ok (u.length : Int)) : tW u (sameR u.length step) t.back = tW u (sameR u.length step) t := by
  unfold tW
  rw [t.back_len, ← SW_rev]
  refine SW_congr _ _ _ _ (fun w _ hw => ?_)
  unfold gW
  rw [t.back_fits ho w, wys_perm (List.reverse_perm w) u rfl (fun x hx => hw x (List.mem_reverse.mp hx))]
theorem tW_le {u : List Int} {rule : List (List Int)} {t : Tm} : tW u rule t ≤ rA u rule t.len := by
  unfold tW rA
  refine SW_le _ _ _ _ (fun w _ _ => ?_)
  unfold gW
  split
  · exact Int.le_refl _
  · exact wys_nonneg _ _ _
theorem alive_e : E (fun k => laws_alive.f k) true := E.from_ 5 alive_ok
theorem tW_nonneg {u : List Int} {rule : List (List Int)} {t : Tm} : 0 ≤ tW u rule t := by
  unfold tW
  refine SW_nonneg _ _ _ (fun w _ _ => ?_)
  unfold gW
  split
  · exact wys_nonneg _ _ _
  · exact Int.le_refl _
theorem law_step {u : List Int} {rule : List (List Int)} {t : Tm} (hst : startB u = true) (hru : ruleB (u.length : Int) rule = true) (ho : t.ok (u.length : Int)) (hte : termB (u.length : Int) t.ms = true) (h15 : t.ms.length ≤ 15) (step : Int) (hs : -1 ≤ step ∧ step ≤ 3) :
    E (fun k => laws_FnTermWays.j1 k u rule t.ms (tW u rule t) step) true := by
  obtain ⟨h1, h3, _, _⟩ := ruleB_some hru
  have h6 := t.len_le ho
  have hsame := sameR_ok (n := u.length) ⟨h1, h3⟩ hs
  have hbo := t.back_ok ho
  have hbs := t.back_size
  have hbt : termB (u.length : Int) t.back.ms = true := termB_ms (by omega) (by omega) (by omega) hbo
  refine E.up ?_
  simp only [laws_FnTermWays.j1]
  refine E.bind (impl_SameRule_ok ⟨h1, h3⟩ hs) ?_
  refine E.bind (a := (t.len : Int)) ?_ ?_
  · unfold impl_LengthOf.f
    exact E.bind (implTermE _ _ (by omega)) (E.ifp hte (E.bind (impl_lengthOf_ok t ho (by omega)) (E.now _)))
  refine E.bind (impl_RuleAll_yes h6 hst hru) (E.ifp tW_le ?_)
  refine E.bind (impl_TermWays_yes hst hsame ho hte h15) ?_
  refine E.bind (impl_BackTerm_yes (u.length : Int) t hte h15) ?_
  refine E.bind (impl_TermWays_yes hst hsame hbo hbt (by omega)) ?_
  rw [tW_back ho, beq_self_eq_true]
  exact E.now _
theorem FnTermWays : laws_FnTermWays.Pure := by
  intro l0 l1 hm0 _ hb0 hm1 _ hb1
  unfold maxLen at hm0 hm1
  refine E.use (r := true) ?_
  unfold laws_FnTermWays.f
  have hj : E (fun k => laws_FnTermWays.j0 k l0 l1 true) true := by
    refine E.up ?_
    simp only [laws_FnTermWays.j0]
    exact E.ifp trivial (E.now _)
  by_cases hlen : (l0.length : Int) > 1048576
  · exact E.ifp hlen hj
  refine E.ifn hlen ?_
  by_cases hlen1 : (l1.length : Int) > 1048576
  · rw [decide_eq_true hlen1]; exact hj
  rw [decide_eq_false hlen1]
  refine E.up ?_
  simp only [laws_FnTermWays.j0]
  refine E.ifn (by decide) ?_
  obtain ⟨⟨u, rule, l⟩, hr, g1, g2, g3, g4⟩ := tw_dr hb0
  have g1 : u.length ≤ 4 := g1
  have g2 : rule.length ≤ 3 := g2
  have g3 : ∀ row ∈ rule, row.length ≤ 3 := g3
  have g4 : l.length ≤ 14 := g4
  refine E.bind (a := (u, rule, l)) hr ?_
  have hrl : ∀ r ∈ rule, r.length ≤ 2000000 := fun r hr => by have := g3 r hr; omega
  cases h : startB u && (ruleB (u.length : Int) rule && termB (u.length : Int) l) with
  | false =>
    refine E.bind (impl_TermWays_no (by omega) (by omega) hrl (by omega) h) (E.bind (spec_TermWays_no (by omega) (by omega) hrl (by omega) h) (E.ifp rfl (E.ifp (by decide) (E.ifp rfl ?_))))
    exact E.bind alive_e (E.now _)
  | true =>
    simp only [Bool.and_eq_true] at h
    obtain ⟨h1, h2, h3⟩ := h
    rcases term_cases (u.length : Int) l with h | ⟨_, _, _, t, ho, rfl, h15⟩
    · rw [h3] at h; cases h
    refine E.bind (impl_TermWays_yes h1 h2 ho h3 h15) (E.bind (spec_TermWays_yes h1 h2 ho h3 h15) (E.ifp rfl (E.ifn (show ¬ tW u rule t < 0 by have := tW_nonneg (u := u) (rule := rule) (t := t); omega) ?_)))
    have hst := law_step h1 h2 ho h3 h15
    by_cases hp : (l1.length : Int) > 0
    · refine E.ifp hp (E.ifp hp ?_)
      have hb : 0 ≤ rd l1 0 ∧ rd l1 0 < 256 := by
        refine rd_byte (fun x hx => ?_) 0
        have := hb1 x hx
        simp [Lit.wf, Go.IntKind.min, Go.IntKind.max, Go.IntKind.bits, Go.IntKind.signed] at this
        omega
      have hm := tmod_lt (x := rd l1 0) (n := 5) hb.1 (by decide)
      rw [wr (n := rd l1 0) (by omega) (by omega), wr (n := Int.tmod (rd l1 0) 5 - 1) (by omega) (by omega)]
      exact hst _ (by omega)
    · exact E.ifn hp (hst 1 (by decide))
end Go.Proofs.Ytojaioejdfibhaa.Pure
