/- FnHatsOk: for all arguments that the statement lets in, the law answers true. No condition of ours. -/
import Derived.Test.YtmjlbkejlbckoaaOwnFnHatsOkx2
namespace Go.Proofs.Ytmjlbkejlbckoaa.Pure
open Go.RowKit Go.Proofs.Ytmjlbkejlbckoaa.PFnHatsOk Go.Proofs.YtmjlbkejlbckoaaW.PrintWords Go.Proofs.YtmjlbkejlbckoaaW.PrintLast

theorem wr {n : Int} (h0 : -9223372036854775808 ≤ n) (h1 : n < 9223372036854775808) : wrap64 n = n := by unfold wrap64; omega
theorem wrap_lo (x : Int) : -9223372036854775808 ≤ wrap64 x := by unfold wrap64; omega
theorem wrap_hi (x : Int) : wrap64 x < 9223372036854775808 := by unfold wrap64; omega


theorem rd_byte {b : List Int} (hb : ∀ x ∈ b, 0 ≤ x ∧ x < 256) (i : Int) : 0 ≤ rd b i ∧ rd b i < 256 := by
  unfold rd
  rw [List.getD_eq_getElem?_getD]
  cases h : b[i.toNat]? with
  | none => simp
  | some x => exact hb x (List.mem_of_getElem? h)

theorem xor_nonneg {a c : Int} (ha : 0 ≤ a) (ha' : a < 4611686018427387904) (hc : 0 ≤ c) (hc' : c < 4611686018427387904) : 0 ≤ Go.bits .xor .i64 a c := by
  obtain ⟨a, rfl⟩ := Int.eq_ofNat_of_zero_le ha
  obtain ⟨c, rfl⟩ := Int.eq_ofNat_of_zero_le hc
  have ha2 : a < 2 ^ 62 := by omega
  have hc2 : c < 2 ^ 62 := by omega
  have hx := Nat.xor_lt_two_pow ha2 hc2
  have h1 : a % 2 ^ 64 = a := Nat.mod_eq_of_lt (by omega)
  have h2 : c % 2 ^ 64 = c := Nat.mod_eq_of_lt (by omega)
  have e : Go.bits .xor .i64 (a : Int) (c : Int) = wrap64 ((a ^^^ c : Nat) : Int) := by
    simp only [Go.bits, BitVec.ofInt_natCast, BitVec.toNat_xor, BitVec.toNat_ofNat]
    rw [show Go.IntKind.i64.bits = 64 from rfl, h1, h2, Go.IntKind.wrap_i64]
    unfold wrap64
    with_reducible rfl
  rw [e, wr (by omega) (by omega)]
  omega

theorem tmod_lt {x n : Int} (hx : 0 ≤ x) (hn : 1 ≤ n) : 0 ≤ Int.tmod x n ∧ Int.tmod x n < n :=
  ⟨Int.tmod_nonneg n hx, Int.tmod_lt_of_pos x (by omega)⟩

theorem tdiv_le (x n : Int) (hx : 0 ≤ x) : Int.tdiv x n ≤ x := by
  by_cases hn : n = 0
  · subst hn; simp; omega
  by_cases h : 0 ≤ n
  · rw [Int.tdiv_eq_ediv_of_nonneg hx]; exact Int.ediv_le_self n hx
  · have : Int.tdiv x n ≤ 0 := Int.tdiv_nonpos_of_nonneg_of_nonpos hx (by omega)
    omega

theorem pick_ok {b : List Int} (hb : ∀ x ∈ b, 0 ≤ x ∧ x < 256) (hl : b.length ≤ 2000) {p : Int} (n : Int) (hp0 : 0 ≤ p) (hp1 : p < 1000000000) :
    ∃ v, (∀ k, 1 ≤ k → spec_l20Rd_pick.f k b p n = some (v, p + 1)) ∧ 0 ≤ v ∧ (v = 0 ∨ v < n) := by
  have e0 : wrap64 (p + 1) = p + 1 := wr (by omega) (by omega)
  have e1 : wrap64 (p + 1 - 1) = p := by rw [wr (by omega) (by omega)]; omega
  by_cases hn : n < 1
  · refine ⟨0, fun k hk => ?_, Int.le_refl _, .inl rfl⟩
    obtain ⟨k, rfl⟩ : ∃ m, k = m + 1 := ⟨k - 1, by omega⟩
    unfold spec_l20Rd_pick.f; rw [if_pos hn, e0]; simp only [spec_l20Rd_pick.j0, if_true]
  by_cases hz : (b.length : Int) = 0
  · refine ⟨0, fun k hk => ?_, Int.le_refl _, .inl rfl⟩
    obtain ⟨k, rfl⟩ : ∃ m, k = m + 1 := ⟨k - 1, by omega⟩
    unfold spec_l20Rd_pick.f; rw [if_neg hn, e0, hz]; simp only [spec_l20Rd_pick.j0, beq_self_eq_true, if_true]
  have hz' : ((b.length : Int) == 0) = false := by simpa using hz
  by_cases hp : p < (b.length : Int)
  · have hr := rd_byte hb p
    have ew : wrap64 (rd b p) = rd b p := wr (by omega) (by omega)
    have hm := tmod_lt (n := n) hr.1 (by omega)
    refine ⟨Int.tmod (rd b p) n, fun k hk => ?_, hm.1, .inr hm.2⟩
    obtain ⟨k, rfl⟩ : ∃ m, k = m + 1 := ⟨k - 1, by omega⟩
    unfold spec_l20Rd_pick.f; rw [if_neg hn, e0, hz']; simp only [spec_l20Rd_pick.j0]; rw [e1, if_neg (by decide), if_pos hp, if_pos hp0, if_neg (by omega), ew]
  · have hL : (1 : Int) ≤ b.length := by omega
    have m1 := tmod_lt (n := (b.length : Int)) hp0 hL
    have e7 : wrap64 (p * 7) = p * 7 := wr (by omega) (by omega)
    have e73 : wrap64 (p * 7 + 3) = p * 7 + 3 := wr (by omega) (by omega)
    have m2 := tmod_lt (x := p * 7 + 3) (n := (b.length : Int)) (by omega) hL
    have r1 := rd_byte hb (Int.tmod p (b.length : Int))
    have r2 := rd_byte hb (Int.tmod (p * 7 + 3) (b.length : Int))
    have d0 : 0 ≤ Int.tdiv p (b.length : Int) := Int.tdiv_nonneg hp0 (by omega)
    have d1 : Int.tdiv p (b.length : Int) ≤ p := tdiv_le p _ hp0
    have ex : ∃ v, (∀ k, spec_l20Rd_pick.j0 (k + 1) n false b (p + 1) = some (v, p + 1)) ∧ 0 ≤ v ∧ (v = 0 ∨ v < n) := by
      simp only [spec_l20Rd_pick.j0]
      rw [e1, if_neg (by decide), if_neg hp, if_neg hz, if_pos m1.1, if_pos m1.2, e7, e73, if_pos m2.1, if_pos m2.2, if_neg (show ¬ n = 0 by omega)]
      generalize rd b (Int.tmod p (b.length : Int)) = x1 at r1
      generalize rd b (Int.tmod (p * 7 + 3) (b.length : Int)) = x2 at r2
      generalize Int.tdiv p (b.length : Int) = q at d0 d1
      rw [wr (n := x1) (by omega) (by omega), wr (n := x2) (by omega) (by omega), wr (n := x1 * 131) (by omega) (by omega), wr (n := x2 * 1117) (by omega) (by omega),
        wr (n := x1 * 131 + x2 * 1117) (by omega) (by omega), wr (n := p * 29) (by omega) (by omega), wr (n := x1 * 131 + x2 * 1117 + p * 29) (by omega) (by omega),
        wr (n := q) (by omega) (by omega), wr (n := q * 53) (by omega) (by omega), wr (n := x1 * 131 + x2 * 1117 + p * 29 + q * 53) (by omega) (by omega)]
      have hX : 0 ≤ x1 * 131 + x2 * 1117 + p * 29 + q * 53 := by omega
      have hX' : x1 * 131 + x2 * 1117 + p * 29 + q * 53 < 4611686018427387904 := by omega
      generalize x1 * 131 + x2 * 1117 + p * 29 + q * 53 = X at hX hX'
      have q0 : 0 ≤ Int.tdiv X 64 := Int.tdiv_nonneg hX (by omega)
      have q1 : Int.tdiv X 64 ≤ X := tdiv_le X 64 hX
      rw [wr (n := Int.tdiv X 64) (by omega) (by omega)]
      have hm := tmod_lt (n := n) (xor_nonneg hX hX' q0 (by omega)) (by omega)
      exact ⟨_, fun _ => rfl, hm.1, .inr hm.2⟩
    obtain ⟨v, hv, h0, h1⟩ := ex
    refine ⟨v, fun k hk => ?_, h0, h1⟩
    obtain ⟨k, rfl⟩ : ∃ m, k = m + 1 := ⟨k - 1, by omega⟩
    unfold spec_l20Rd_pick.f; rw [if_neg hn, e0, hz', hv]

theorem open_ok {l : List Int} (hl : ∀ x ∈ l, (Lit.int .u8 x).wf = true) :
    ∃ b, spec_l20Open.f l = some (b, 0) ∧ (∀ x ∈ b, 0 ≤ x ∧ x < 256) ∧ b.length ≤ 2000 := by
  have hl' : ∀ x ∈ l, 0 ≤ x ∧ x < 256 := fun x hx => by
    have := hl x hx
    simp [Lit.wf, Go.IntKind.min, Go.IntKind.max, Go.IntKind.bits, Go.IntKind.signed] at this
    omega
  unfold spec_l20Open.f
  by_cases h : (l.length : Int) > 2000
  · rw [if_pos h, if_pos (by omega)]
    exact ⟨_, rfl, fun x hx => hl' x (List.mem_of_mem_take hx), by simp; omega⟩
  · rw [if_neg h]
    exact ⟨_, rfl, hl', by omega⟩

/-- one number drawn: what it is, and where the reader stands behind it -/
theorem pick_one {b : List Int} (hb : ∀ x ∈ b, 0 ≤ x ∧ x < 256) (hl : b.length ≤ 2000) {p : Int} (n : Int) (hp0 : 0 ≤ p) (hp1 : p < 1000000000) :
    ∃ v q, (∀ k, 1 ≤ k → spec_l20Rd_pick.f k b p n = some (v, q)) ∧ 0 ≤ v ∧ (v = 0 ∨ v < n) ∧ 0 ≤ q ∧ q ≤ p + 1 := by
  obtain ⟨v, h, h0, h1⟩ := pick_ok hb hl n hp0 hp1
  exact ⟨v, p + 1, h, h0, h1, by omega, by omega⟩

/-- from some number of rounds on it tells r, and Q r -/
def Dr {α : Type} (g : Nat → Option α) (Q : α → Prop) : Prop := ∃ r, (∃ K, ∀ k, K ≤ k → g k = some r) ∧ Q r

theorem Dr.now {α : Type} {Q : α → Prop} (r : α) (h : Q r) : Dr (fun _ => some r) Q := ⟨r, ⟨0, fun _ _ => rfl⟩, h⟩
theorem Dr.const {α : Type} {Q : α → Prop} {g : Option α} {r : α} (e : g = some r) (h : Q r) : Dr (fun _ => g) Q := ⟨r, ⟨0, fun _ _ => e⟩, h⟩
theorem Dr.bind {α β : Type} {g : Nat → Option α} {f : Nat → α → Option β} {P : α → Prop} {Q : β → Prop} (h : Dr g P) (k : ∀ a, P a → Dr (fun n => f n a) Q) : Dr (fun n => (g n).bind (f n)) Q := by
  obtain ⟨a, ⟨K, hK⟩, hP⟩ := h
  obtain ⟨r, ⟨L, hL⟩, hQ⟩ := k a hP
  exact ⟨r, ⟨K + L, fun n hn => by show (g n).bind (f n) = _; rw [hK n (by omega)]; exact hL n (by omega)⟩, hQ⟩
theorem Dr.step {α : Type} {g f : Nat → Option α} {Q : α → Prop} (h : ∀ k, g (k + 1) = f k) (d : Dr f Q) : Dr g Q := by
  obtain ⟨r, ⟨K, hK⟩, hQ⟩ := d
  refine ⟨r, ⟨K + 1, fun n hn => ?_⟩, hQ⟩
  obtain ⟨n, rfl⟩ : ∃ m, n = m + 1 := ⟨n - 1, by omega⟩
  rw [h]; exact hK n (by omega)
theorem Dr.congr {α : Type} {g f : Nat → Option α} {Q : α → Prop} (h : ∀ k, g k = f k) (d : Dr f Q) : Dr g Q := by
  obtain ⟨r, ⟨K, hK⟩, hQ⟩ := d
  exact ⟨r, ⟨K, fun n hn => by rw [h]; exact hK n hn⟩, hQ⟩
theorem Dr.ifp {α : Type} {c : Prop} [Decidable c] {g f : Nat → Option α} {Q : α → Prop} (h : c) (d : Dr g Q) : Dr (fun k => if c then g k else f k) Q := by
  simp only [if_pos h]; exact d
theorem Dr.ifn {α : Type} {c : Prop} [Decidable c] {g f : Nat → Option α} {Q : α → Prop} (h : ¬ c) (d : Dr f Q) : Dr (fun k => if c then g k else f k) Q := by
  simp only [if_neg h]; exact d
theorem Dr.mono {α : Type} {g : Nat → Option α} {P Q : α → Prop} (h : ∀ r, P r → Q r) (d : Dr g P) : Dr g Q := by
  obtain ⟨r, hr, hP⟩ := d
  exact ⟨r, hr, h r hP⟩

theorem pick_dr {b : List Int} (hb : ∀ x ∈ b, 0 ≤ x ∧ x < 256) (hl : b.length ≤ 2000) {p : Int} (n : Int) (hp0 : 0 ≤ p) (hp1 : p < 1000000000) :
    Dr (fun k => spec_l20Rd_pick.f k b p n) (fun r => 0 ≤ r.1 ∧ (r.1 = 0 ∨ r.1 < n) ∧ 0 ≤ r.2 ∧ r.2 ≤ p + 1) := by
  obtain ⟨v, q, h, h0, h1, h2, h3⟩ := pick_one hb hl n hp0 hp1
  exact ⟨(v, q), ⟨1, h⟩, h0, h1, h2, h3⟩

theorem open_dr {l : List Int} (hl : ∀ x ∈ l, (Lit.int .u8 x).wf = true) :
    Dr (fun _ => spec_l20Open.f l) (fun r => r.2 = 0 ∧ (∀ x ∈ r.1, 0 ≤ x ∧ x < 256) ∧ r.1.length ≤ 2000) := by
  obtain ⟨b, h, h1, h2⟩ := open_ok hl
  exact Dr.const h ⟨rfl, h1, h2⟩

theorem Dr.up {α : Type} {g : Nat → Option α} {Q : α → Prop} (d : Dr (fun k => g (k + 1)) Q) : Dr g Q := Dr.step (fun _ => rfl) d

theorem rd_nat (l : List Int) (i : Nat) (h : i < l.length) : rd l (i : Int) = l[i] := by
  unfold rd
  rw [Int.toNat_natCast, List.getD_eq_getElem?_getD, List.getElem?_eq_getElem h]; rfl

theorem rd_getD (l : List Int) (i : Nat) : rd l (i : Int) = l.getD i 0 := by
  unfold rd; rw [Int.toNat_natCast]

def hatOk (l : List Int) (i : Nat) : Bool := decide (0 ≤ l.getD i 0 ∧ l.getD i 0 < (l.length : Int)) && !(l.take i).contains (l.getD i 0)

/-- an order, from a place on -/
def hatB (l : List Int) : Nat → Nat → Bool
  | 0, _ => decide (l.length ≤ 6)
  | d + 1, i => hatOk l i && hatB l d (i + 1)

def hatsB (l : List Int) : Bool := hatB l l.length 0

theorem hatB_big (l : List Int) (h : ¬ l.length ≤ 6) : ∀ d i, hatB l d i = false := by
  intro d
  induction d with
  | zero => intro i; exact decide_eq_false h
  | succ d ih => intro i; simp only [hatB]; rw [ih, Bool.and_false]

theorem hatB_len {l : List Int} {d i : Nat} (h : hatB l d i = true) : l.length ≤ 6 := by
  by_cases c : l.length ≤ 6
  · exact c
  · rw [hatB_big l c] at h; cases h

theorem Index_l0 (l : List Int) (x : Int) (hl : l.length ≤ 17592186044416) : ∀ (d i f : Nat), i + d = l.length → d < f →
    ∃ r, slices_Index_int_int.l0 f l x (l.length : Int) (i : Int) = some r ∧ decide (r ≥ 0) = (l.drop i).contains x := by
  intro d
  induction d with
  | zero =>
    intro i f hi hf
    obtain ⟨f, rfl⟩ : ∃ g, f = g + 1 := ⟨f - 1, by omega⟩
    refine ⟨-1, ?_, ?_⟩
    · simp only [slices_Index_int_int.l0]; rw [if_neg (by omega)]
    · rw [List.drop_of_length_le (by omega)]; rfl
  | succ d ih =>
    intro i f hi hf
    obtain ⟨f, rfl⟩ : ∃ g, f = g + 1 := ⟨f - 1, by omega⟩
    simp only [slices_Index_int_int.l0]
    rw [if_pos (by omega), if_pos (by omega), if_pos (by omega), rd_nat l i (by omega), wr (n := (i : Int) + 1) (by omega) (by omega), List.drop_eq_getElem_cons (show i < l.length by omega), List.contains_cons]
    by_cases h : x = l[i]
    · refine ⟨(i : Int), by rw [if_pos h], ?_⟩
      rw [decide_eq_true (by omega), ← h]; simp
    · rw [if_neg h, show (i : Int) + 1 = ((i + 1 : Nat) : Int) by omega, show (x == l[i]) = false by simpa using h, Bool.false_or]
      exact ih (i + 1) f (by omega) (by omega)

theorem Contains_ok (l : List Int) (x : Int) (f : Nat) (hl : l.length ≤ 17592186044416) (hf : l.length + 2 ≤ f) : slices_Contains_int_int.f f l x = some (l.contains x) := by
  obtain ⟨r, h1, h2⟩ := Index_l0 l x hl l.length 0 f (by omega) (by omega)
  have h3 : slices_Index_int_int.l0 f l x (l.length : Int) 0 = some r := h1
  rw [List.drop_zero] at h2
  unfold slices_Contains_int_int.f slices_Index_int_int.f
  rw [h3]; simp only [Option.bind_some]
  rw [h2]

theorem impl_HatsOk_l0 (l : List Int) (hl : l.length ≤ 17592186044416) : ∀ (d i f : Nat), i + d = l.length → d + l.length + 3 ≤ f →
    impl_HatsOk.l0 f l l (l.length : Int) (i : Int) = some (hatB l d i) := by
  intro d
  induction d with
  | zero =>
    intro i f hi hf
    obtain ⟨f, rfl⟩ : ∃ g, f = g + 1 := ⟨f - 1, by omega⟩
    simp only [impl_HatsOk.l0, hatB]; rw [if_neg (by omega)]; congr 1; apply decide_eq_decide.2; omega
  | succ d ih =>
    intro i f hi hf
    obtain ⟨f, rfl⟩ : ∃ g, f = g + 1 := ⟨f - 1, by omega⟩
    simp only [impl_HatsOk.l0, hatB]
    unfold hatOk
    rw [if_pos (by omega), if_pos (by omega), if_pos (by omega), rd_getD, wr (by omega) (by omega)]
    by_cases h1 : l.getD i 0 < 0
    · rw [if_pos h1, decide_eq_false (by omega)]; rfl
    by_cases h2 : l.getD i 0 ≥ (l.length : Int)
    · rw [if_neg h1, if_pos h2, decide_eq_false (by omega)]; rfl
    rw [if_neg h1, if_neg h2, if_pos (by omega), Int.toNat_natCast, Contains_ok _ _ f (by simp; omega) (by simp; omega), decide_eq_true (by omega)]
    simp only [Option.bind_some, Bool.true_and]
    by_cases h3 : (l.take i).contains (l.getD i 0) = true
    · rw [if_pos h3, h3]; rfl
    · rw [if_neg h3, show (l.take i).contains (l.getD i 0) = false by simpa using h3]
      rw [show ((i : Int) + 1) = ((i + 1 : Nat) : Int) by omega, ih (i + 1) f (by omega) (by omega)]
      rfl

theorem impl_HatsOk_ok (l : List Int) (f : Nat) (hl : l.length ≤ 17592186044416) (hf : l.length + l.length + 3 ≤ f) : impl_HatsOk.f f l = some (hatsB l) := by
  unfold impl_HatsOk.f hatsB
  exact impl_HatsOk_l0 l hl l.length 0 f (by omega) (by omega)

theorem or_nat {a c : Nat} (ha : a < 2 ^ 62) (hc : c < 2 ^ 62) : Go.bits .or .i64 (a : Int) (c : Int) = ((a ||| c : Nat) : Int) := by
  have hx := Nat.or_lt_two_pow ha hc
  have h1 : a % 2 ^ 64 = a := Nat.mod_eq_of_lt (by omega)
  have h2 : c % 2 ^ 64 = c := Nat.mod_eq_of_lt (by omega)
  have e : Go.bits .or .i64 (a : Int) (c : Int) = wrap64 ((a ||| c : Nat) : Int) := by
    simp only [Go.bits, BitVec.ofInt_natCast, BitVec.toNat_or, BitVec.toNat_ofNat]
    rw [show Go.IntKind.i64.bits = 64 from rfl, h1, h2, Go.IntKind.wrap_i64]
    unfold wrap64
    with_reducible rfl
  rw [e, wr (by omega) (by omega)]

theorem shl_one {y : Nat} (hy : y < 6) : shl .i64 1 (y : Int) = ((2 ^ y : Nat) : Int) := by
  unfold shl
  rw [Int.toNat_natCast, show Go.IntKind.i64.bits = 64 from rfl, Nat.min_eq_left (by omega), Go.IntKind.wrap_i64]
  rcases (show y = 0 ∨ y = 1 ∨ y = 2 ∨ y = 3 ∨ y = 4 ∨ y = 5 by omega) with rfl | rfl | rfl | rfl | rfl | rfl <;> decide

theorem shr_bit {s y : Nat} (hy : y < 6) : (Int.tmod (shr .i64 (s : Int) (y : Int)) 2 = 1) ↔ s.testBit y = true := by
  unfold shr
  rw [Int.toNat_natCast, show Go.IntKind.i64.bits = 64 from rfl, Nat.min_eq_left (by omega)]
  rw [show ((2 : Int) ^ y) = ((2 ^ y : Nat) : Int) by simp, ← Int.natCast_ediv]
  rw [show (2 : Int) = ((2 : Nat) : Int) from rfl, ← Int.ofNat_tmod, Nat.testBit_eq_decide_div_mod_eq]
  simp only [decide_eq_true_eq]
  omega

theorem spec_HatsOk_l0 (l : List Int) (hl : l.length ≤ 17592186044416) : ∀ (d i f s : Nat), i + d = l.length → d < f → s < 64 →
    (∀ y : Nat, y < 6 → s.testBit y = (l.take i).contains (y : Int)) → spec_HatsOk.l0 f l (s : Int) (i : Int) = some (hatB l d i) := by
  intro d
  induction d with
  | zero =>
    intro i f s hi hf _ _
    obtain ⟨f, rfl⟩ : ∃ g, f = g + 1 := ⟨f - 1, by omega⟩
    simp only [spec_HatsOk.l0, hatB]; rw [if_neg (by omega)]; congr 1; apply decide_eq_decide.2; omega
  | succ d ih =>
    intro i f s hi hf hs hb
    obtain ⟨f, rfl⟩ : ∃ g, f = g + 1 := ⟨f - 1, by omega⟩
    simp only [spec_HatsOk.l0, hatB]
    unfold hatOk
    rw [if_pos (by omega), if_pos (by omega), rd_getD, wr (by omega) (by omega)]
    by_cases h1 : l.getD i 0 < 0
    · rw [if_pos h1, decide_eq_false (by omega)]; rfl
    by_cases h2 : l.getD i 0 ≥ (l.length : Int)
    · rw [if_neg h1, if_pos h2, decide_eq_false (by omega)]; rfl
    rw [if_neg h1, if_neg h2, decide_eq_true (by omega), Bool.true_and]
    by_cases h6 : l.getD i 0 ≥ 6
    · rw [if_pos h6, hatB_big l (by omega), Bool.and_false]
    rw [if_neg h6, if_pos (by omega)]
    obtain ⟨y, hy⟩ := Int.eq_ofNat_of_zero_le (show 0 ≤ l.getD i 0 by omega)
    rw [hy] at h1 h2 h6 ⊢
    have hy6 : y < 6 := by omega
    have hyb := hb y hy6
    by_cases h3 : s.testBit y = true
    · rw [if_pos ((shr_bit hy6).2 h3), ← hyb, h3]; rfl
    · rw [if_neg (fun c => h3 ((shr_bit hy6).1 c)), ← hyb, show s.testBit y = false by simpa using h3]
      have p6 : 2 ^ y < 64 := by
        have : 2 ^ y ≤ 2 ^ 5 := Nat.pow_le_pow_right (by omega) (by omega)
        omega
      have o6 : s ||| 2 ^ y < 2 ^ 6 := Nat.or_lt_two_pow (by omega) (by omega)
      rw [shl_one hy6, or_nat (by omega) (by omega), show ((i : Int) + 1) = ((i + 1 : Nat) : Int) by omega]
      rw [ih (i + 1) f (s ||| 2 ^ y) (by omega) (by omega) (by omega) ?_]
      · rfl
      intro z hz
      rw [Nat.testBit_or, hb z hz, Nat.testBit_two_pow, List.take_succ_eq_append_getElem (show i < l.length by omega)]
      have e : l[i]'(by omega) = (y : Int) := by rw [← hy, List.getD_eq_getElem?_getD, List.getElem?_eq_getElem (by omega)]; rfl
      rw [e, List.contains_append]
      congr 1
      rw [Bool.eq_iff_iff]
      simp
      omega

theorem spec_HatsOk_ok (l : List Int) (f : Nat) (hl : l.length ≤ 17592186044416) (hf : l.length + 3 ≤ f) : spec_HatsOk.f f l = some (hatsB l) := by
  unfold spec_HatsOk.f hatsB
  exact spec_HatsOk_l0 l hl l.length 0 f 0 (by omega) (by omega) (by omega) (fun y _ => by simp)

theorem rev_step (l : List Int) (i : Nat) (h : i < l.length) : [l[i]] ++ (l.take i).reverse = (l.take (i + 1)).reverse := by
  rw [List.take_succ_eq_append_getElem h, List.reverse_append]; rfl

theorem odd_dr {b : List Int} (hb : ∀ x ∈ b, 0 ≤ x ∧ x < 256) (hl : b.length ≤ 2000) {p : Int} (n : Int) (hp0 : 0 ≤ p) (hp1 : p < 1000000000) :
    Dr (fun k => spec_l20Rd_odd.f k b p n) (fun r => 0 ≤ r.2 ∧ r.2 ≤ p + 1) := by
  unfold spec_l20Rd_odd.f
  by_cases h : n > 0
  · refine Dr.ifp h ?_
    refine Dr.bind (pick_dr hb hl n hp0 hp1) fun r ⟨_, _, _, _⟩ => ?_
    exact Dr.now _ ⟨by omega, by omega⟩
  · refine Dr.ifn h ?_
    exact Dr.now _ ⟨hp0, by omega⟩

theorem drawhats_l0 {b : List Int} (hb : ∀ x ∈ b, 0 ≤ x ∧ x < 256) (hl : b.length ≤ 2000) : ∀ (d i : Nat) (y : List Int) (p : Int), i + d = 7 → y.length ≤ i → 0 ≤ p → p ≤ 10 * i →
    Dr (fun k => spec_DrawHatsOk.l0 k y (i : Int) b p) (fun r => r.length ≤ 10) := by
  intro d
  induction d with
  | zero =>
    intro i y p hi hy h0 h1
    refine Dr.up ?_
    simp only [spec_DrawHatsOk.l0]
    refine Dr.bind (pick_dr hb hl 7 h0 (by omega)) fun r1 ⟨_, _, _, _⟩ => ?_
    refine Dr.ifn (by omega) ?_
    refine Dr.bind (odd_dr hb hl 4 (by omega) (by omega)) fun r ⟨_, _⟩ => ?_
    by_cases h : r.1 = true
    · refine Dr.ifp h ?_
      refine Dr.bind (pick_dr hb hl 7 (by omega) (by omega)) fun r2 ⟨_, _, _, _⟩ => ?_
      refine Dr.ifp (by omega) ?_
      exact Dr.now _ (by simp; omega)
    · refine Dr.ifn h ?_
      exact Dr.now _ (by omega)
  | succ d ih =>
    intro i y p hi hy h0 h1
    refine Dr.up ?_
    simp only [spec_DrawHatsOk.l0, Option.bind_some]
    refine Dr.bind (pick_dr hb hl 7 h0 (by omega)) fun r1 ⟨_, _, _, _⟩ => ?_
    by_cases hlt : (i : Int) < r1.1
    · refine Dr.ifp hlt ?_
      rw [wr (n := (y.length : Int) + 1) (by omega) (by omega)]
      refine Dr.bind (pick_dr hb hl _ (by omega) (by omega)) fun r2 ⟨_, _, _, _⟩ => ?_
      refine Dr.ifp (by omega) ?_
      refine Dr.ifp (by omega) ?_
      refine Dr.ifp (by simp; omega) ?_
      refine Dr.ifp (by simp; omega) ?_
      refine Dr.ifp (by simp; omega) ?_
      rw [wr (n := (i : Int) + 1) (by omega) (by omega), show (i : Int) + 1 = ((i + 1 : Nat) : Int) by omega]
      exact ih (i + 1) _ r2.2 (by omega) (by simp; omega) (by omega) (by omega)
    · refine Dr.ifn hlt ?_
      refine Dr.bind (odd_dr hb hl 4 (by omega) (by omega)) fun r ⟨_, _⟩ => ?_
      by_cases h : r.1 = true
      · refine Dr.ifp h ?_
        refine Dr.bind (pick_dr hb hl 7 (by omega) (by omega)) fun r2 ⟨_, _, _, _⟩ => ?_
        refine Dr.ifp (by omega) ?_
        exact Dr.now _ (by simp; omega)
      · refine Dr.ifn h ?_
        exact Dr.now _ (by omega)

theorem draw_hats {l : List Int} (hl : ∀ x ∈ l, (Lit.int .u8 x).wf = true) :
    Dr (fun k => spec_DrawHatsOk.f k l) (fun r => r.length ≤ 10) := by
  unfold spec_DrawHatsOk.f
  refine Dr.bind (open_dr hl) fun b ⟨b0, b1, b2⟩ => ?_
  exact drawhats_l0 b1 b2 7 0 [] b.2 (by omega) (by simp) (by omega) (by omega)

/-- an order: in range, and no number twice -/
theorem hatB_iff (l : List Int) : ∀ d i, i + d = l.length → (hatB l d i = true ↔ l.length ≤ 6 ∧ (∀ j, i ≤ j → j < l.length → 0 ≤ l.getD j 0 ∧ l.getD j 0 < l.length) ∧ ∀ j k, k < j → i ≤ j → j < l.length → l.getD j 0 ≠ l.getD k 0) := by
  intro d
  induction d with
  | zero =>
    intro i hi
    simp only [hatB, decide_eq_true_eq]
    exact ⟨fun h => ⟨h, fun j h1 h2 => by omega, fun j k _ h1 h2 => by omega⟩, fun h => h.1⟩
  | succ d ih =>
    intro i hi
    simp only [hatB, Bool.and_eq_true]
    rw [ih (i + 1) (by omega)]
    have hc : hatOk l i = true ↔ (0 ≤ l.getD i 0 ∧ l.getD i 0 < l.length) ∧ ∀ k, k < i → l.getD i 0 ≠ l.getD k 0 := by
      unfold hatOk
      rw [Bool.and_eq_true, decide_eq_true_eq, Bool.not_eq_true', ← Bool.not_eq_true, List.contains_iff_mem]
      have : l.getD i 0 ∈ l.take i ↔ ∃ k, k < i ∧ l.getD i 0 = l.getD k 0 := by
        rw [List.mem_iff_getElem]
        constructor
        · rintro ⟨k, hk, e⟩
          have hk' : k < i := by simp at hk; omega
          refine ⟨k, hk', ?_⟩
          rw [← e, List.getElem_take, List.getD_eq_getElem?_getD, List.getElem?_eq_getElem (by omega)]; rfl
        · rintro ⟨k, hk, e⟩
          refine ⟨k, by simp; omega, ?_⟩
          rw [e, List.getElem_take, List.getD_eq_getElem?_getD, List.getElem?_eq_getElem (by omega)]; rfl
      rw [this]
      constructor
      · intro h; exact ⟨h.1, fun k hk c => h.2 ⟨k, hk, c⟩⟩
      · intro h; exact ⟨h.1, fun ⟨k, hk, c⟩ => h.2 k hk c⟩
    rw [hc]
    constructor
    · rintro ⟨⟨h1, h2⟩, h3, h4, h5⟩
      refine ⟨h3, fun j hj hjl => ?_, fun j k hk hj hjl => ?_⟩
      · by_cases e : j = i
        · rw [e]; exact h1
        · exact h4 j (by omega) hjl
      · by_cases e : j = i
        · subst e; exact h2 k hk
        · exact h5 j k hk (by omega) hjl
    · rintro ⟨h3, h4, h5⟩
      exact ⟨⟨h4 i (by omega) (by omega), fun k hk => h5 i k hk (by omega) (by omega)⟩, h3, fun j hj hjl => h4 j (by omega) hjl, fun j k hk hj hjl => h5 j k hk (by omega) hjl⟩

theorem getD_rev (l : List Int) (k : Nat) (h : k < l.length) : l.reverse.getD k 0 = l.getD (l.length - 1 - k) 0 := by
  rw [List.getD_eq_getElem?_getD, List.getD_eq_getElem?_getD, List.getElem?_reverse h]

theorem hats_rev1 (l : List Int) (h : hatsB l = true) : hatsB l.reverse = true := by
  unfold hatsB at h ⊢
  rw [hatB_iff l _ 0 (by omega)] at h
  rw [hatB_iff l.reverse _ 0 (by omega)]
  rw [List.length_reverse]
  obtain ⟨h1, h2, h3⟩ := h
  refine ⟨h1, fun j _ hj => ?_, fun j k hk _ hj => ?_⟩
  · rw [getD_rev l j hj]; exact h2 _ (by omega) (by omega)
  · rw [getD_rev l j hj, getD_rev l k (by omega)]
    exact fun c => h3 (l.length - 1 - k) (l.length - 1 - j) (by omega) (by omega) (by omega) c.symm

theorem hats_rev (l : List Int) : hatsB l.reverse = hatsB l := by
  rw [Bool.eq_iff_iff]
  exact ⟨fun h => by have := hats_rev1 _ h; rwa [List.reverse_reverse] at this, hats_rev1 l⟩

theorem hats_l0 (l : List Int) (hl : l.length ≤ 10) : ∀ (d i f : Nat), i + d = l.length → d + 200 ≤ f →
    laws_FnHatsOk.l0 f l (hatsB l) (l.take i).reverse (i : Int) = some true := by
  intro d
  induction d with
  | zero =>
    intro i f hi hf
    obtain ⟨f, rfl⟩ : ∃ g, f = g + 1 := ⟨f - 1, by omega⟩
    have e1 : hatsB [] = true := by decide
    have e2 : hatsB [1] = false := by decide
    simp only [laws_FnHatsOk.l0]
    rw [if_neg (by omega), impl_HatsOk_ok [] f (by simp) (by simp; omega), impl_HatsOk_ok [1] f (by simp) (by simp; omega), List.take_of_length_le (by omega),
      impl_HatsOk_ok l.reverse f (by simp; omega) (by simp; omega), e1, e2, hats_rev]
    simp
  | succ d ih =>
    intro i f hi hf
    obtain ⟨f, rfl⟩ : ∃ g, f = g + 1 := ⟨f - 1, by omega⟩
    simp only [laws_FnHatsOk.l0, Option.bind_some]
    rw [if_pos (by omega), if_pos (by omega), if_pos (by simp; omega), rd_nat l i (by omega), rev_step l i (by omega), wr (n := (i : Int) + 1) (by omega) (by omega)]
    exact ih (i + 1) f (by omega) (by omega)

theorem FnHatsOk : laws_FnHatsOk.Pure := by
  intro l _ _ hu
  obtain ⟨r, ⟨K, hK⟩, hr⟩ := draw_hats hu
  have hr' : r.length ≤ 10 := hr
  have hd : spec_DrawHatsOk.f (K + 500) l = some r := hK _ (by omega)
  refine ⟨K + 500, ?_⟩
  unfold laws_FnHatsOk.f
  by_cases hlen : (l.length : Int) > 1048576
  · rw [if_pos hlen]
  rw [if_neg hlen, hd]; simp only [Option.bind_some]
  rw [impl_HatsOk_ok r _ (by omega) (by omega)]; simp only [Option.bind_some]
  rw [spec_HatsOk_ok r _ (by omega) (by omega)]; simp only [Option.bind_some, bne_self_eq_false, Bool.false_eq_true, if_false]
  exact hats_l0 r hr' r.length 0 (K + 500) (by omega) (by omega)

end Go.Proofs.Ytmjlbkejlbckoaa.Pure
