/- FnMixedRow: for all arguments that the statement lets in, the law answers true. No condition of ours. -/
import Derived.Test.YtncjjgfiddgckaaPFnMixedRowx5
namespace Go.Proofs.Ytncjjgfiddgckaa.Pure
open Go.RowKit Go.Proofs.Ytncjjgfiddgckaa.PFnMixedRow Go.Proofs.YtncjjgfiddgckaaW.PrintWords Go.Proofs.YtncjjgfiddgckaaW.PrintLast

theorem wr {n : Int} (h0 : -9223372036854775808 ≤ n) (h1 : n < 9223372036854775808) : wrap64 n = n := by unfold wrap64; omega
theorem wrap_lo (x : Int) : -9223372036854775808 ≤ wrap64 x := by unfold wrap64; omega
theorem wrap_hi (x : Int) : wrap64 x < 9223372036854775808 := by unfold wrap64; omega


theorem rd_byte {b : List Int} (hb : ∀ x ∈ b, 0 ≤ x ∧ x < 256) (i : Int) : 0 ≤ rd b i ∧ rd b i < 256 := by
  unfold rd
  rw [List.getD_eq_getElem?_getD]
  cases h : b[i.toNat]? with
  | none => simp
  | some x => exact hb x (List.mem_of_getElem? h)

theorem xor_nonneg {a c : Int} (ha : 0 ≤ a) (ha' : a < 4611686018427387904) (hc : 0 ≤ c) (hc' : c < 4611686018427387904) : 0 ≤ Go.bits .xor .i64 a c := by
  obtain ⟨a, rfl⟩ := Int.eq_ofNat_of_zero_le ha
  obtain ⟨c, rfl⟩ := Int.eq_ofNat_of_zero_le hc
  have ha2 : a < 2 ^ 62 := by omega
  have hc2 : c < 2 ^ 62 := by omega
  have hx := Nat.xor_lt_two_pow ha2 hc2
  have h1 : a % 2 ^ 64 = a := Nat.mod_eq_of_lt (by omega)
  have h2 : c % 2 ^ 64 = c := Nat.mod_eq_of_lt (by omega)
  have e : Go.bits .xor .i64 (a : Int) (c : Int) = wrap64 ((a ^^^ c : Nat) : Int) := by
    simp only [Go.bits, BitVec.ofInt_natCast, BitVec.toNat_xor, BitVec.toNat_ofNat]
    rw [show Go.IntKind.i64.bits = 64 from rfl, h1, h2, Go.IntKind.wrap_i64]
    unfold wrap64
    with_reducible rfl
  rw [e, wr (by omega) (by omega)]
  omega

theorem tmod_lt {x n : Int} (hx : 0 ≤ x) (hn : 1 ≤ n) : 0 ≤ Int.tmod x n ∧ Int.tmod x n < n :=
  ⟨Int.tmod_nonneg n hx, Int.tmod_lt_of_pos x (by omega)⟩

theorem tdiv_le (x n : Int) (hx : 0 ≤ x) : Int.tdiv x n ≤ x := by
  by_cases hn : n = 0
  · subst hn; simp; omega
  by_cases h : 0 ≤ n
  · rw [Int.tdiv_eq_ediv_of_nonneg hx]; exact Int.ediv_le_self n hx
  · have : Int.tdiv x n ≤ 0 := Int.tdiv_nonpos_of_nonneg_of_nonpos hx (by omega)
    omega

theorem pick_ok {b : List Int} (hb : ∀ x ∈ b, 0 ≤ x ∧ x < 256) (hl : b.length ≤ 2000) {p : Int} (n : Int) (hp0 : 0 ≤ p) (hp1 : p < 1000000000) :
    ∃ v, (∀ k, 1 ≤ k → spec_l20Rd_pick.f k b p n = some (v, p + 1)) ∧ 0 ≤ v ∧ (v = 0 ∨ v < n) := by
  have e0 : wrap64 (p + 1) = p + 1 := wr (by omega) (by omega)
  have e1 : wrap64 (p + 1 - 1) = p := by rw [wr (by omega) (by omega)]; omega
  by_cases hn : n < 1
  · refine ⟨0, fun k hk => ?_, Int.le_refl _, .inl rfl⟩
    obtain ⟨k, rfl⟩ : ∃ m, k = m + 1 := ⟨k - 1, by omega⟩
    unfold spec_l20Rd_pick.f; rw [if_pos hn, e0]; simp only [spec_l20Rd_pick.j0, if_true]
  by_cases hz : (b.length : Int) = 0
  · refine ⟨0, fun k hk => ?_, Int.le_refl _, .inl rfl⟩
    obtain ⟨k, rfl⟩ : ∃ m, k = m + 1 := ⟨k - 1, by omega⟩
    unfold spec_l20Rd_pick.f; rw [if_neg hn, e0, hz]; simp only [spec_l20Rd_pick.j0, beq_self_eq_true, if_true]
  have hz' : ((b.length : Int) == 0) = false := by simpa using hz
  by_cases hp : p < (b.length : Int)
  · have hr := rd_byte hb p
    have ew : wrap64 (rd b p) = rd b p := wr (by omega) (by omega)
    have hm := tmod_lt (n := n) hr.1 (by omega)
    refine ⟨Int.tmod (rd b p) n, fun k hk => ?_, hm.1, .inr hm.2⟩
    obtain ⟨k, rfl⟩ : ∃ m, k = m + 1 := ⟨k - 1, by omega⟩
    unfold spec_l20Rd_pick.f; rw [if_neg hn, e0, hz']; simp only [spec_l20Rd_pick.j0]; rw [e1, if_neg (by decide), if_pos hp, if_pos hp0, if_neg (by omega), ew]
  · have hL : (1 : Int) ≤ b.length := by omega
    have m1 := tmod_lt (n := (b.length : Int)) hp0 hL
    have e7 : wrap64 (p * 7) = p * 7 := wr (by omega) (by omega)
    have e73 : wrap64 (p * 7 + 3) = p * 7 + 3 := wr (by omega) (by omega)
    have m2 := tmod_lt (x := p * 7 + 3) (n := (b.length : Int)) (by omega) hL
    have r1 := rd_byte hb (Int.tmod p (b.length : Int))
    have r2 := rd_byte hb (Int.tmod (p * 7 + 3) (b.length : Int))
    have d0 : 0 ≤ Int.tdiv p (b.length : Int) := Int.tdiv_nonneg hp0 (by omega)
    have d1 : Int.tdiv p (b.length : Int) ≤ p := tdiv_le p _ hp0
    have ex : ∃ v, (∀ k, spec_l20Rd_pick.j0 (k + 1) n false b (p + 1) = some (v, p + 1)) ∧ 0 ≤ v ∧ (v = 0 ∨ v < n) := by
      simp only [spec_l20Rd_pick.j0]
      rw [e1, if_neg (by decide), if_neg hp, if_neg hz, if_pos m1.1, if_pos m1.2, e7, e73, if_pos m2.1, if_pos m2.2, if_neg (show ¬ n = 0 by omega)]
      generalize rd b (Int.tmod p (b.length : Int)) = x1 at r1
      generalize rd b (Int.tmod (p * 7 + 3) (b.length : Int)) = x2 at r2
      generalize Int.tdiv p (b.length : Int) = q at d0 d1
      rw [wr (n := x1) (by omega) (by omega), wr (n := x2) (by omega) (by omega), wr (n := x1 * 131) (by omega) (by omega), wr (n := x2 * 1117) (by omega) (by omega),
        wr (n := x1 * 131 + x2 * 1117) (by omega) (by omega), wr (n := p * 29) (by omega) (by omega), wr (n := x1 * 131 + x2 * 1117 + p * 29) (by omega) (by omega),
        wr (n := q) (by omega) (by omega), wr (n := q * 53) (by omega) (by omega), wr (n := x1 * 131 + x2 * 1117 + p * 29 + q * 53) (by omega) (by omega)]
      have hX : 0 ≤ x1 * 131 + x2 * 1117 + p * 29 + q * 53 := by omega
      have hX' : x1 * 131 + x2 * 1117 + p * 29 + q * 53 < 4611686018427387904 := by omega
      generalize x1 * 131 + x2 * 1117 + p * 29 + q * 53 = X at hX hX'
      have q0 : 0 ≤ Int.tdiv X 64 := Int.tdiv_nonneg hX (by omega)
      have q1 : Int.tdiv X 64 ≤ X := tdiv_le X 64 hX
      rw [wr (n := Int.tdiv X 64) (by omega) (by omega)]
      have hm := tmod_lt (n := n) (xor_nonneg hX hX' q0 (by omega)) (by omega)
      exact ⟨_, fun _ => rfl, hm.1, .inr hm.2⟩
    obtain ⟨v, hv, h0, h1⟩ := ex
    refine ⟨v, fun k hk => ?_, h0, h1⟩
    obtain ⟨k, rfl⟩ : ∃ m, k = m + 1 := ⟨k - 1, by omega⟩
    unfold spec_l20Rd_pick.f; rw [if_neg hn, e0, hz', hv]

theorem open_ok {l : List Int} (hl : ∀ x ∈ l, (Lit.int .u8 x).wf = true) :
    ∃ b, spec_l20Open.f l = some (b, 0) ∧ (∀ x ∈ b, 0 ≤ x ∧ x < 256) ∧ b.length ≤ 2000 := by
  have hl' : ∀ x ∈ l, 0 ≤ x ∧ x < 256 := fun x hx => by
    have := hl x hx
    simp [Lit.wf, Go.IntKind.min, Go.IntKind.max, Go.IntKind.bits, Go.IntKind.signed] at this
    omega
  unfold spec_l20Open.f
  by_cases h : (l.length : Int) > 2000
  · rw [if_pos h, if_pos (by omega)]
    exact ⟨_, rfl, fun x hx => hl' x (List.mem_of_mem_take hx), by simp; omega⟩
  · rw [if_neg h]
    exact ⟨_, rfl, hl', by omega⟩

/-- one number drawn: what it is, and where the reader stands behind it -/
theorem pick_one {b : List Int} (hb : ∀ x ∈ b, 0 ≤ x ∧ x < 256) (hl : b.length ≤ 2000) {p : Int} (n : Int) (hp0 : 0 ≤ p) (hp1 : p < 1000000000) :
    ∃ v q, (∀ k, 1 ≤ k → spec_l20Rd_pick.f k b p n = some (v, q)) ∧ 0 ≤ v ∧ (v = 0 ∨ v < n) ∧ 0 ≤ q ∧ q ≤ p + 1 := by
  obtain ⟨v, h, h0, h1⟩ := pick_ok hb hl n hp0 hp1
  exact ⟨v, p + 1, h, h0, h1, by omega, by omega⟩

/-- from some number of rounds on it tells r, and Q r -/
def Dr {α : Type} (g : Nat → Option α) (Q : α → Prop) : Prop := ∃ r, (∃ K, ∀ k, K ≤ k → g k = some r) ∧ Q r

theorem Dr.now {α : Type} {Q : α → Prop} (r : α) (h : Q r) : Dr (fun _ => some r) Q := ⟨r, ⟨0, fun _ _ => rfl⟩, h⟩
theorem Dr.const {α : Type} {Q : α → Prop} {g : Option α} {r : α} (e : g = some r) (h : Q r) : Dr (fun _ => g) Q := ⟨r, ⟨0, fun _ _ => e⟩, h⟩
theorem Dr.bind {α β : Type} {g : Nat → Option α} {f : Nat → α → Option β} {P : α → Prop} {Q : β → Prop} (h : Dr g P) (k : ∀ a, P a → Dr (fun n => f n a) Q) : Dr (fun n => (g n).bind (f n)) Q := by
  obtain ⟨a, ⟨K, hK⟩, hP⟩ := h
  obtain ⟨r, ⟨L, hL⟩, hQ⟩ := k a hP
  exact ⟨r, ⟨K + L, fun n hn => by show (g n).bind (f n) = _; rw [hK n (by omega)]; exact hL n (by omega)⟩, hQ⟩
theorem Dr.step {α : Type} {g f : Nat → Option α} {Q : α → Prop} (h : ∀ k, g (k + 1) = f k) (d : Dr f Q) : Dr g Q := by
  obtain ⟨r, ⟨K, hK⟩, hQ⟩ := d
  refine ⟨r, ⟨K + 1, fun n hn => ?_⟩, hQ⟩
  obtain ⟨n, rfl⟩ : ∃ m, n = m + 1 := ⟨n - 1, by omega⟩
  rw [h]; exact hK n (by omega)
theorem Dr.congr {α : Type} {g f : Nat → Option α} {Q : α → Prop} (h : ∀ k, g k = f k) (d : Dr f Q) : Dr g Q := by
  obtain ⟨r, ⟨K, hK⟩, hQ⟩ := d
  exact ⟨r, ⟨K, fun n hn => by rw [h]; exact hK n hn⟩, hQ⟩
theorem Dr.ifp {α : Type} {c : Prop} [Decidable c] {g f : Nat → Option α} {Q : α → Prop} (h : c) (d : Dr g Q) : Dr (fun k => if c then g k else f k) Q := by
  simp only [if_pos h]; exact d
theorem Dr.ifn {α : Type} {c : Prop} [Decidable c] {g f : Nat → Option α} {Q : α → Prop} (h : ¬ c) (d : Dr f Q) : Dr (fun k => if c then g k else f k) Q := by
  simp only [if_neg h]; exact d
theorem Dr.mono {α : Type} {g : Nat → Option α} {P Q : α → Prop} (h : ∀ r, P r → Q r) (d : Dr g P) : Dr g Q := by
  obtain ⟨r, hr, hP⟩ := d
  exact ⟨r, hr, h r hP⟩

theorem pick_dr {b : List Int} (hb : ∀ x ∈ b, 0 ≤ x ∧ x < 256) (hl : b.length ≤ 2000) {p : Int} (n : Int) (hp0 : 0 ≤ p) (hp1 : p < 1000000000) :
    Dr (fun k => spec_l20Rd_pick.f k b p n) (fun r => 0 ≤ r.1 ∧ (r.1 = 0 ∨ r.1 < n) ∧ 0 ≤ r.2 ∧ r.2 ≤ p + 1) := by
  obtain ⟨v, q, h, h0, h1, h2, h3⟩ := pick_one hb hl n hp0 hp1
  exact ⟨(v, q), ⟨1, h⟩, h0, h1, h2, h3⟩

theorem open_dr {l : List Int} (hl : ∀ x ∈ l, (Lit.int .u8 x).wf = true) :
    Dr (fun _ => spec_l20Open.f l) (fun r => r.2 = 0 ∧ (∀ x ∈ r.1, 0 ≤ x ∧ x < 256) ∧ r.1.length ≤ 2000) := by
  obtain ⟨b, h, h1, h2⟩ := open_ok hl
  exact Dr.const h ⟨rfl, h1, h2⟩

theorem Dr.up {α : Type} {g : Nat → Option α} {Q : α → Prop} (d : Dr (fun k => g (k + 1)) Q) : Dr g Q := Dr.step (fun _ => rfl) d

theorem rd_nat (l : List Int) (i : Nat) (h : i < l.length) : rd l (i : Int) = l[i] := by
  unfold rd
  rw [Int.toNat_natCast, List.getD_eq_getElem?_getD, List.getElem?_eq_getElem h]; rfl

theorem rd_getD (l : List Int) (i : Nat) : rd l (i : Int) = l.getD i 0 := by
  unfold rd; rw [Int.toNat_natCast]

theorem sameInts_l0 (a b : List Int) (hab : a.length = b.length) (hl : a.length ≤ 17592186044416) : ∀ (d i f : Nat), i + d = a.length → d < f →
    laws_sameInts.l0 f a b (i : Int) = some (decide (a.drop i = b.drop i)) := by
  intro d
  induction d with
  | zero =>
    intro i f hi hf
    obtain ⟨f, rfl⟩ : ∃ g, f = g + 1 := ⟨f - 1, by omega⟩
    simp only [laws_sameInts.l0]; rw [if_neg (by omega), List.drop_of_length_le (by omega), List.drop_of_length_le (by omega)]; rfl
  | succ d ih =>
    intro i f hi hf
    obtain ⟨f, rfl⟩ : ∃ g, f = g + 1 := ⟨f - 1, by omega⟩
    simp only [laws_sameInts.l0]
    rw [if_pos (by omega), if_pos (by omega), if_pos (by omega), rd_nat a i (by omega), rd_nat b i (by omega), wr (by omega) (by omega)]
    rw [List.drop_eq_getElem_cons (show i < a.length by omega), List.drop_eq_getElem_cons (show i < b.length by omega)]
    by_cases h : a[i] = b[i]
    · rw [if_pos h]
      have := ih (i + 1) f (by omega) (by omega)
      rw [show ((i : Int) + 1) = ((i + 1 : Nat) : Int) by omega, this, h]
      congr 1; apply decide_eq_decide.2; exact ⟨fun c => by rw [c], fun c => (List.cons.inj c).2⟩
    · rw [if_neg h, decide_eq_false (fun c => h (List.cons.inj c).1)]

theorem sameInts_ok (a b : List Int) (f : Nat) (hl : a.length ≤ 17592186044416) (hf : a.length + 2 ≤ f) : laws_sameInts.f f a b = some (decide (a = b)) := by
  unfold laws_sameInts.f
  by_cases h : (a.length : Int) = (b.length : Int)
  · rw [if_pos h]
    have := sameInts_l0 a b (by omega) hl a.length 0 f (by omega) (by omega)
    rw [List.drop_zero, List.drop_zero] at this
    exact this
  · rw [if_neg h, decide_eq_false (fun c => h (by rw [c]))]

theorem l1In_ok (a b c : Int) : spec_l1In.f a b c = some (decide (b ≤ a ∧ a ≤ c)) := by
  unfold spec_l1In.f
  by_cases h : a ≥ b
  · rw [if_pos h]; simp [h]
  · rw [if_neg h]; simp; omega

def inB (x : Int) : Bool := decide (0 ≤ x ∧ x ≤ 100000)

/-- a row of weights -/
def mixB (l : List Int) : Bool := l.all inB && decide (1 ≤ l.length ∧ l.length ≤ 9)

theorem mixB_len {l : List Int} (h : mixB l = true) : 1 ≤ l.length ∧ l.length ≤ 9 := by
  unfold mixB at h; simp only [Bool.and_eq_true, decide_eq_true_eq] at h; exact h.2

theorem mixB_mem {l : List Int} (h : mixB l = true) : ∀ x ∈ l, 0 ≤ x ∧ x ≤ 100000 := by
  unfold mixB at h; simp only [Bool.and_eq_true, List.all_eq_true] at h
  intro x hx; have := h.1 x hx; unfold inB at this; simpa using this

theorem mixB_get {l : List Int} (h : mixB l = true) (i : Nat) : 0 ≤ l.getD i 0 ∧ l.getD i 0 ≤ 100000 := by
  rw [List.getD_eq_getElem?_getD]
  cases e : l[i]? with
  | none => simp
  | some x => exact mixB_mem h x (List.mem_of_getElem? e)

theorem impl_MixOk_l0 (l : List Int) (hl : l.length ≤ 17592186044416) : ∀ (d i f : Nat), i + d = l.length → d < f →
    impl_MixOk.l0 f l l (l.length : Int) (i : Int) = some ((l.drop i).all inB && decide (1 ≤ l.length ∧ l.length ≤ 9)) := by
  intro d
  induction d with
  | zero =>
    intro i f hi hf
    obtain ⟨f, rfl⟩ : ∃ g, f = g + 1 := ⟨f - 1, by omega⟩
    simp only [impl_MixOk.l0]; rw [if_neg (by omega), List.drop_of_length_le (by omega)]
    rw [List.all_nil, Bool.true_and]
    by_cases h : (l.length : Int) ≥ 1
    · rw [if_pos h]; congr 1; apply decide_eq_decide.2; omega
    · rw [if_neg h, decide_eq_false (by omega)]
  | succ d ih =>
    intro i f hi hf
    obtain ⟨f, rfl⟩ : ∃ g, f = g + 1 := ⟨f - 1, by omega⟩
    simp only [impl_MixOk.l0]
    rw [if_pos (by omega), if_pos (by omega), if_pos (by omega), rd_nat l i (by omega), wr (by omega) (by omega), List.drop_eq_getElem_cons (show i < l.length by omega), List.all_cons]
    by_cases h1 : l[i] < 0
    · rw [if_pos h1, show inB l[i] = false from decide_eq_false (by omega)]; rfl
    by_cases h2 : l[i] > 100000
    · rw [if_neg h1, if_pos h2, show inB l[i] = false from decide_eq_false (by omega)]; rfl
    · rw [if_neg h1, if_neg h2]
      have := ih (i + 1) f (by omega) (by omega)
      rw [show ((i : Int) + 1) = ((i + 1 : Nat) : Int) by omega, this, show inB l[i] = true from decide_eq_true (by omega), Bool.true_and]

theorem impl_MixOk_ok (l : List Int) (f : Nat) (hl : l.length ≤ 17592186044416) (hf : l.length + 2 ≤ f) : impl_MixOk.f f l = some (mixB l) := by
  unfold impl_MixOk.f mixB
  have := impl_MixOk_l0 l hl l.length 0 f (by omega) (by omega)
  rw [List.drop_zero] at this
  exact this

theorem spec_MixOk_l0 (l : List Int) (hl : l.length ≤ 17592186044416) : ∀ (d i f : Nat), i + d = l.length → d < f →
    spec_MixOk.l0 f l (i : Int) = some ((l.drop i).all inB && decide (1 ≤ l.length ∧ l.length ≤ 9)) := by
  intro d
  induction d with
  | zero =>
    intro i f hi hf
    obtain ⟨f, rfl⟩ : ∃ g, f = g + 1 := ⟨f - 1, by omega⟩
    simp only [spec_MixOk.l0]; rw [if_neg (by omega), List.drop_of_length_le (by omega), l1In_ok]
    simp only [Option.bind_some]
    rw [List.all_nil, Bool.true_and]
    congr 1; apply decide_eq_decide.2; omega
  | succ d ih =>
    intro i f hi hf
    obtain ⟨f, rfl⟩ : ∃ g, f = g + 1 := ⟨f - 1, by omega⟩
    simp only [spec_MixOk.l0]
    rw [if_pos (by omega), if_pos (by omega), rd_nat l i (by omega), l1In_ok, wr (by omega) (by omega), List.drop_eq_getElem_cons (show i < l.length by omega), List.all_cons]
    simp only [Option.bind_some]
    by_cases h : 0 ≤ l[i] ∧ l[i] ≤ 100000
    · rw [if_pos (decide_eq_true h)]
      have := ih (i + 1) f (by omega) (by omega)
      rw [show ((i : Int) + 1) = ((i + 1 : Nat) : Int) by omega, this, show inB l[i] = true from decide_eq_true h, Bool.true_and]
    · rw [if_neg (by simpa using h), show inB l[i] = false from decide_eq_false h]; rfl

theorem spec_MixOk_ok (l : List Int) (f : Nat) (hl : l.length ≤ 17592186044416) (hf : l.length + 2 ≤ f) : spec_MixOk.f f l = some (mixB l) := by
  unfold spec_MixOk.f mixB
  have := spec_MixOk_l0 l hl l.length 0 f (by omega) (by omega)
  rw [List.drop_zero] at this
  exact this

theorem mul_bd {a c A C : Int} (h0 : 0 ≤ a) (h1 : a ≤ A) (h2 : 0 ≤ c) (h3 : c ≤ C) : 0 ≤ a * c ∧ a * c ≤ A * C :=
  ⟨Int.mul_nonneg h0 h2, Int.mul_le_mul h1 h3 h2 (by omega)⟩

theorem elem_ok {a b c e : Int} (ha : 0 ≤ a ∧ a ≤ 100000) (hb : 0 ≤ b ∧ b ≤ 100000) (hc : 0 ≤ c ∧ c ≤ 9) (he : 0 ≤ e ∧ e ≤ 9) :
    wrap64 ((wrap64 (a * c)) + (wrap64 (b * e))) = a * c + b * e := by
  have h1 := mul_bd ha.1 ha.2 hc.1 hc.2
  have h2 := mul_bd hb.1 hb.2 he.1 he.2
  rw [wr (n := a * c) (by omega) (by omega), wr (n := b * e) (by omega) (by omega), wr (by omega) (by omega)]

theorem range_snoc (g : Nat → Int) (i : Nat) : (List.range i).map g ++ [g i] = (List.range (i + 1)).map g := by
  rw [List.range_succ, List.map_append]; rfl

/-- the row, if it is one -/
def fin (l : List Int) : List Int × Bool := if mixB l = true then (l, true) else ([], false)

theorem impl_mixed_ok (l : List Int) (f : Nat) (hl : l.length ≤ 17592186044416) (hf : l.length + 2 ≤ f) : impl_mixed.f f l = some (fin l) := by
  unfold impl_mixed.f fin
  rw [impl_MixOk_ok l f hl hf]; simp only [Option.bind_some]
  split <;> rfl

def mixE (a : List Int) (p : Int) (b : List Int) (q : Int) (k : Nat) : Int := a.getD k 0 * p + b.getD k 0 * q
def mixL (a : List Int) (p : Int) (b : List Int) (q : Int) : List Int := (List.range a.length).map (mixE a p b q)
def mixAsk (a : List Int) (p : Int) (b : List Int) (q : Int) : Prop := mixB a = true ∧ mixB b = true ∧ a.length = b.length ∧ 0 ≤ p ∧ p ≤ 9 ∧ 0 ≤ q ∧ q ≤ 9

instance (a : List Int) (p : Int) (b : List Int) (q : Int) : Decidable (mixAsk a p b q) := by unfold mixAsk; infer_instance

def mixedR (a : List Int) (p : Int) (b : List Int) (q : Int) : List Int × Bool := if mixAsk a p b q then fin (mixL a p b q) else ([], false)

theorem mixL_length (a : List Int) (p : Int) (b : List Int) (q : Int) : (mixL a p b q).length = a.length := by simp [mixL]

theorem impl_MixedRow_l0 (a b : List Int) (p q : Int) (h : mixAsk a p b q) : ∀ (d i f : Nat), i + d = a.length → d + 20 ≤ f →
    impl_MixedRow.l0 f a p b q ((List.range i).map (mixE a p b q)) (a.length : Int) (i : Int) = some (fin (mixL a p b q)) := by
  have hlen := mixB_len h.1
  have hab := h.2.2.1
  intro d
  induction d with
  | zero =>
    intro i f hi hf
    obtain ⟨f, rfl⟩ : ∃ g, f = g + 1 := ⟨f - 1, by omega⟩
    obtain rfl : i = a.length := by omega
    simp only [impl_MixedRow.l0]
    rw [if_neg (by omega), impl_mixed_ok _ f (by simp; omega) (by simp; omega)]
    rfl
  | succ d ih =>
    intro i f hi hf
    obtain ⟨f, rfl⟩ : ∃ g, f = g + 1 := ⟨f - 1, by omega⟩
    simp only [impl_MixedRow.l0]
    rw [if_pos (by omega), if_pos (by omega), if_pos (by omega), if_pos (by omega), if_pos (by simp; omega), rd_getD, rd_getD,
      elem_ok (mixB_get h.1 i) (mixB_get h.2.1 i) ⟨h.2.2.2.1, h.2.2.2.2.1⟩ ⟨h.2.2.2.2.2.1, h.2.2.2.2.2.2⟩, wr (n := (i : Int) + 1) (by omega) (by omega)]
    have e : a.getD i 0 * p + b.getD i 0 * q = mixE a p b q i := rfl
    rw [e, range_snoc]
    exact ih (i + 1) f (by omega) (by omega)

theorem impl_MixedRow_ok (a b : List Int) (p q : Int) (f : Nat) (hl : a.length ≤ 17592186044416) (hl2 : b.length ≤ 17592186044416) (hf : a.length + b.length + 40 ≤ f) : impl_MixedRow.f f a p b q = some (mixedR a p b q) := by
  obtain ⟨f, rfl⟩ : ∃ g, f = g + 1 := ⟨f - 1, by omega⟩
  unfold impl_MixedRow.f mixedR
  have e : impl_MixedRow.j0 (f + 1) a p b q true = some ([], false) := by simp only [impl_MixedRow.j0, if_true]
  rw [impl_MixOk_ok a _ hl (by omega)]; simp only [Option.bind_some]
  by_cases h1 : mixB a = true
  · rw [if_pos h1, impl_MixOk_ok b _ hl2 (by omega)]; simp only [Option.bind_some]
    by_cases h2 : mixB b = true
    · rw [if_pos h2]
      by_cases h3 : (a.length : Int) = (b.length : Int)
      · rw [if_pos h3]
        by_cases h4 : p < 0
        · rw [if_pos h4, e, if_neg (fun c => by have := c.2.2.2.1; omega)]
        by_cases h5 : p > 9
        · rw [if_neg h4, if_pos h5, e, if_neg (fun c => by have := c.2.2.2.2.1; omega)]
        by_cases h6 : q < 0
        · rw [if_neg h4, if_neg h5, if_pos h6, e, if_neg (fun c => by have := c.2.2.2.2.2.1; omega)]
        rw [if_neg h4, if_neg h5, if_neg h6]
        by_cases h7 : q > 9
        · rw [decide_eq_true h7, e, if_neg (fun c => by have := c.2.2.2.2.2.2; omega)]
        · have ha : mixAsk a p b q := ⟨h1, h2, by omega, by omega, by omega, by omega, by omega⟩
          have hlen := mixB_len h1
          rw [decide_eq_false h7, if_pos ha]
          simp only [impl_MixedRow.j0]
          rw [if_neg (by decide)]
          exact impl_MixedRow_l0 a b p q ha a.length 0 f (by omega) (by omega)
      · rw [if_neg h3, e, if_neg (fun c => h3 (by rw [c.2.2.1]))]
    · rw [if_neg h2, e, if_neg (fun c => h2 c.2.1)]
  · rw [if_neg h1, e, if_neg (fun c => h1 c.1)]

theorem spec_MixedRow_l0 (a b : List Int) (p q : Int) (h : mixAsk a p b q) : ∀ (d i f : Nat), i + d = a.length → d + 20 ≤ f →
    spec_MixedRow.l0 f a p b q ((List.range i).map (mixE a p b q)) (i : Int) = some (fin (mixL a p b q)) := by
  have hlen := mixB_len h.1
  have hab := h.2.2.1
  intro d
  induction d with
  | zero =>
    intro i f hi hf
    obtain ⟨f, rfl⟩ : ∃ g, f = g + 1 := ⟨f - 1, by omega⟩
    obtain rfl : i = a.length := by omega
    simp only [spec_MixedRow.l0]
    rw [if_neg (by omega), spec_MixOk_ok _ f (by simp; omega) (by simp; omega)]
    simp only [Option.bind_some]
    unfold fin
    change (if mixB (mixL a p b q) = true then _ else _) = _
    split <;> rfl
  | succ d ih =>
    intro i f hi hf
    obtain ⟨f, rfl⟩ : ∃ g, f = g + 1 := ⟨f - 1, by omega⟩
    simp only [spec_MixedRow.l0]
    rw [if_pos (by omega), if_pos (by omega), if_pos (by omega), if_pos (by simp; omega), rd_getD, rd_getD,
      elem_ok (mixB_get h.1 i) (mixB_get h.2.1 i) ⟨h.2.2.2.1, h.2.2.2.2.1⟩ ⟨h.2.2.2.2.2.1, h.2.2.2.2.2.2⟩, wr (n := (i : Int) + 1) (by omega) (by omega)]
    have e : a.getD i 0 * p + b.getD i 0 * q = mixE a p b q i := rfl
    rw [e, range_snoc]
    exact ih (i + 1) f (by omega) (by omega)

theorem spec_MixedRow_ok (a b : List Int) (p q : Int) (f : Nat) (hl : a.length ≤ 17592186044416) (hl2 : b.length ≤ 17592186044416) (hf : a.length + b.length + 40 ≤ f) : spec_MixedRow.f f a p b q = some (mixedR a p b q) := by
  obtain ⟨f, rfl⟩ : ∃ g, f = g + 1 := ⟨f - 1, by omega⟩
  unfold spec_MixedRow.f mixedR
  have e : spec_MixedRow.j0 (f + 1) a p b q true = some ([], false) := by simp only [spec_MixedRow.j0, if_true]
  rw [spec_MixOk_ok a _ hl (by omega)]; simp only [Option.bind_some, l1In_ok]
  by_cases h1 : mixB a = true
  · rw [if_pos h1, spec_MixOk_ok b _ hl2 (by omega)]; simp only [Option.bind_some]
    by_cases h2 : mixB b = true
    · rw [if_pos h2]
      by_cases h3 : (a.length : Int) = (b.length : Int)
      · rw [if_pos h3]
        by_cases h4 : 0 ≤ p ∧ p ≤ 9
        · rw [if_pos (decide_eq_true h4)]
          by_cases h5 : 0 ≤ q ∧ q ≤ 9
          · have ha : mixAsk a p b q := ⟨h1, h2, by omega, by omega, by omega, by omega, by omega⟩
            have hlen := mixB_len h1
            rw [decide_eq_true h5, if_pos ha]
            simp only [spec_MixedRow.j0, Bool.not_true]
            rw [if_neg (by decide)]
            exact spec_MixedRow_l0 a b p q ha a.length 0 f (by omega) (by omega)
          · rw [decide_eq_false h5, if_neg (fun c => h5 ⟨c.2.2.2.2.2.1, c.2.2.2.2.2.2⟩)]
            exact e
        · rw [decide_eq_false h4, if_neg (by decide), e, if_neg (fun c => h4 ⟨c.2.2.2.1, c.2.2.2.2.1⟩)]
      · rw [if_neg h3, e, if_neg (fun c => h3 (by rw [c.2.2.1]))]
    · rw [if_neg h2, e, if_neg (fun c => h2 c.2.1)]
  · rw [if_neg h1, e, if_neg (fun c => h1 c.1)]

def shortE (r : List Int) (k : Nat) : Int := r.getD k 0 * ((r.length : Int) - 1 - k) + r.getD (k + 1) 0 * ((k : Int) + 1)
def shortL (r : List Int) : List Int := (List.range (r.length - 1)).map (shortE r)
def shorterR (r : List Int) : List Int × Bool := if mixB r = true ∧ 2 ≤ r.length then fin (shortL r) else ([], false)

theorem shortL_length (r : List Int) : (shortL r).length = r.length - 1 := by simp [shortL]

theorem impl_Shorter_l0 (r : List Int) (hr : mixB r = true) : ∀ (d i f : Nat), i + d = r.length - 1 → d + 20 ≤ f →
    impl_ShorterRow.l0 f r (((r.length - 1 : Nat)) : Int) ((List.range i).map (shortE r)) ((r.length - 1 : Nat) : Int) (i : Int) = some (fin (shortL r)) := by
  have hlen := mixB_len hr
  intro d
  induction d with
  | zero =>
    intro i f hi hf
    obtain ⟨f, rfl⟩ : ∃ g, f = g + 1 := ⟨f - 1, by omega⟩
    obtain rfl : i = r.length - 1 := by omega
    simp only [impl_ShorterRow.l0]
    rw [if_neg (by omega), impl_mixed_ok _ f (by simp; omega) (by simp; omega)]
    rfl
  | succ d ih =>
    intro i f hi hf
    obtain ⟨f, rfl⟩ : ∃ g, f = g + 1 := ⟨f - 1, by omega⟩
    simp only [impl_ShorterRow.l0]
    rw [if_pos (by omega), if_pos (by omega), if_pos (by omega), wr (n := (i : Int) + 1) (by omega) (by omega), if_pos (by omega), if_pos (by omega), if_pos (by simp; omega),
      wr (n := ((r.length - 1 : Nat) : Int) - (i : Int)) (by omega) (by omega)]
    rw [show ((i : Int) + 1) = ((i + 1 : Nat) : Int) by omega, rd_getD, rd_getD, elem_ok (mixB_get hr i) (mixB_get hr (i + 1)) (by omega) (by omega)]
    have e : r.getD i 0 * (((r.length - 1 : Nat) : Int) - (i : Int)) + r.getD (i + 1) 0 * ((i + 1 : Nat) : Int) = shortE r i := by
      unfold shortE; rw [show ((r.length - 1 : Nat) : Int) - (i : Int) = (r.length : Int) - 1 - i by omega]; rfl
    rw [e, range_snoc]
    exact ih (i + 1) f (by omega) (by omega)

theorem impl_Shorter_ok (r : List Int) (f : Nat) (hl : r.length ≤ 17592186044416) (hf : r.length + 40 ≤ f) : impl_ShorterRow.f f r = some (shorterR r) := by
  obtain ⟨f, rfl⟩ : ∃ g, f = g + 1 := ⟨f - 1, by omega⟩
  unfold impl_ShorterRow.f shorterR
  rw [impl_MixOk_ok r _ hl (by omega)]; simp only [Option.bind_some]
  by_cases hr : mixB r = true
  · have hlen := mixB_len hr
    rw [if_pos hr, wr (n := (r.length : Int) - 1) (by omega) (by omega)]
    by_cases h2 : 2 ≤ r.length
    · rw [decide_eq_false (by omega), if_pos ⟨hr, h2⟩]
      simp only [impl_ShorterRow.j0]
      rw [if_neg (by decide), show (r.length : Int) - 1 = ((r.length - 1 : Nat) : Int) by omega]
      exact impl_Shorter_l0 r hr (r.length - 1) 0 f (by omega) (by omega)
    · rw [decide_eq_true (by omega), if_neg (fun c => h2 c.2)]
      simp only [impl_ShorterRow.j0, if_true]
  · rw [if_neg hr, if_neg (fun c => hr c.1)]
    simp only [impl_ShorterRow.j0, if_true]

theorem getD_map_range (g : Nat → Int) (n k : Nat) (h : k < n) : ((List.range n).map g).getD k 0 = g k := by
  rw [List.getD_eq_getElem?_getD, List.getElem?_map, List.getElem?_range h]; rfl

theorem fin_ok {l : List Int} (h : (fin l).2 = true) : mixB l = true ∧ fin l = (l, true) := by
  unfold fin at h ⊢
  split at h
  · rename_i c; exact ⟨c, by rw [if_pos c]⟩
  · simp at h

theorem fin_no {l : List Int} (h : ¬ (fin l).2 = true) : fin l = ([], false) := by
  unfold fin at h ⊢
  split at h
  · simp at h
  · rename_i c; rw [if_neg c]

theorem shorterR_ok {r : List Int} (h : (shorterR r).2 = true) : mixB r = true ∧ 2 ≤ r.length ∧ mixB (shortL r) = true ∧ shorterR r = (shortL r, true) := by
  unfold shorterR at h ⊢
  split at h
  · rename_i c
    have := fin_ok h
    exact ⟨c.1, c.2, this.1, by rw [if_pos c]; exact this.2⟩
  · simp at h

theorem shorterR_no {r : List Int} (h : ¬ (shorterR r).2 = true) : shorterR r = ([], false) := by
  unfold shorterR at h ⊢
  split at h
  · rename_i c; rw [if_pos c]; exact fin_no h
  · rename_i c; rw [if_neg c]

theorem alive_ok (f : Nat) (hf : 5 ≤ f) : laws_alive.f f = some true := by
  obtain ⟨f, rfl⟩ : ∃ g, f = g + 5 := ⟨f - 5, by omega⟩
  have h1 : impl_UrnOk.f (f + 5) [1] = some true := by
    simp [impl_UrnOk.f, impl_UrnOk.l0, impl_coloursOk.f, rd, wrap64]
  have h2 : impl_UrnOk.f (f + 5) [] = some false := by
    simp [impl_UrnOk.f, impl_UrnOk.l0, impl_coloursOk.f]
  unfold laws_alive.f
  rw [h1, h2]; rfl

theorem odd_dr {b : List Int} (hb : ∀ x ∈ b, 0 ≤ x ∧ x < 256) (hl : b.length ≤ 2000) {p : Int} (n : Int) (hp0 : 0 ≤ p) (hp1 : p < 1000000000) :
    Dr (fun k => spec_l20Rd_odd.f k b p n) (fun r => 0 ≤ r.2 ∧ r.2 ≤ p + 1) := by
  unfold spec_l20Rd_odd.f
  by_cases h : n > 0
  · refine Dr.ifp h ?_
    refine Dr.bind (pick_dr hb hl n hp0 hp1) fun r ⟨_, _, _, _⟩ => ?_
    exact Dr.now _ ⟨by omega, by omega⟩
  · refine Dr.ifn h ?_
    exact Dr.now _ ⟨hp0, by omega⟩

theorem mix_l0 {b : List Int} (hb : ∀ x ∈ b, 0 ≤ x ∧ x < 256) (hl : b.length ≤ 2000) (m : Nat) (hm : m ≤ 1000) (n : Int) : ∀ (d i : Nat) (y : List Int) (p : Int), i + d = m → y.length ≤ i → 0 ≤ p → p + 2 * d < 100000 →
    Dr (fun k => spec_l20Mix.l0 k (m : Int) n y (i : Int) b p) (fun r => r.1.length ≤ m + 1 ∧ 0 ≤ r.2 ∧ r.2 ≤ p + 2 * d + 2) := by
  intro d
  induction d with
  | zero =>
    intro i y p hi hy h0 h1
    refine Dr.up ?_
    simp only [spec_l20Mix.l0]
    refine Dr.ifn (by omega) ?_
    refine Dr.bind (odd_dr hb hl n h0 (by omega)) fun r ⟨_, _⟩ => ?_
    by_cases h : r.1 = true
    · refine Dr.ifp h ?_
      refine Dr.bind (pick_dr hb hl 2 (by omega) (by omega)) fun r2 ⟨_, _, _, _⟩ => ?_
      by_cases h2 : r2.1 = 0
      · refine Dr.ifp h2 ?_
        exact Dr.now _ ⟨by simp, by show 0 ≤ r2.2; omega, by show r2.2 ≤ _; omega⟩
      · refine Dr.ifn h2 ?_
        refine Dr.ifp (by omega) ?_
        exact Dr.now _ ⟨by simp; omega, by show 0 ≤ r2.2; omega, by show r2.2 ≤ _; omega⟩
    · refine Dr.ifn h ?_
      exact Dr.now _ ⟨by show y.length ≤ _; omega, by show 0 ≤ r.2; omega, by show r.2 ≤ _; omega⟩
  | succ d ih =>
    intro i y p hi hy h0 h1
    refine Dr.up ?_
    simp only [spec_l20Mix.l0]
    refine Dr.ifp (by omega) ?_
    refine Dr.bind (pick_dr hb hl 8 h0 (by omega)) fun r1 ⟨_, _, _, _⟩ => ?_
    refine Dr.bind (pick_dr hb hl 14 (by omega) (by omega)) fun r2 ⟨_, _, _, _⟩ => ?_
    refine Dr.ifp (by omega) ?_
    rw [wr (n := (i : Int) + 1) (by omega) (by omega), show (i : Int) + 1 = ((i + 1 : Nat) : Int) by omega]
    refine Dr.mono ?_ (ih (i + 1) _ r2.2 (by omega) (by simp; omega) (by omega) (by omega))
    intro r ⟨g1, g2, g3⟩
    exact ⟨g1, g2, by omega⟩

theorem mix_dr {b : List Int} (hb : ∀ x ∈ b, 0 ≤ x ∧ x < 256) (hl : b.length ≤ 2000) {p : Int} (m : Int) (n : Int) (hm0 : 0 ≤ m) (hm1 : m ≤ 100) (hp0 : 0 ≤ p) (hp1 : p < 10000) :
    Dr (fun k => spec_l20Mix.f k b p m n) (fun r => r.1.length ≤ 101 ∧ 0 ≤ r.2 ∧ r.2 ≤ p + 202) := by
  obtain ⟨m, rfl⟩ := Int.eq_ofNat_of_zero_le hm0
  unfold spec_l20Mix.f
  refine Dr.mono ?_ (mix_l0 hb hl m (by omega) n m 0 [] p (by omega) (by simp) hp0 (by omega))
  intro r ⟨g1, g2, g3⟩
  exact ⟨by omega, g2, by omega⟩

theorem draw_mixed {l : List Int} (hl : ∀ x ∈ l, (Lit.int .u8 x).wf = true) :
    Dr (fun k => spec_DrawMixedRow.f k l) (fun r => r.1.length ≤ 101 ∧ r.2.2.1.length ≤ 101) := by
  unfold spec_DrawMixedRow.f
  refine Dr.bind (open_dr hl) fun b ⟨b0, b1, b2⟩ => ?_
  refine Dr.bind (pick_dr b1 b2 7 (by omega) (by omega)) fun r1 ⟨_, _, _, _⟩ => ?_
  rw [wr (n := 1 + r1.1) (by omega) (by omega)]
  refine Dr.bind (mix_dr b1 b2 _ 14 (by omega) (by omega) (by omega) (by omega)) fun r2 ⟨_, _, _⟩ => ?_
  refine Dr.bind (pick_dr b1 b2 5 (by omega) (by omega)) fun r3 ⟨_, _, _, _⟩ => ?_
  refine Dr.bind (pick_dr b1 b2 40 (by omega) (by omega)) fun r4 ⟨_, _, _, _⟩ => ?_
  refine Dr.bind (pick_dr b1 b2 20 (by omega) (by omega)) fun r5 ⟨_, _, _, _⟩ => ?_
  have d0 : 0 ≤ Int.tdiv r5.1 19 := Int.tdiv_nonneg (by omega) (by omega)
  have d1 := tdiv_le r5.1 19 (by omega)
  rw [wr (n := Int.tdiv r5.1 19) (by omega) (by omega), wr (n := 1 + r1.1 + Int.tdiv r5.1 19) (by omega) (by omega)]
  refine Dr.bind (mix_dr b1 b2 _ 14 (by omega) (by omega) (by omega) (by omega)) fun r6 ⟨_, _, _⟩ => ?_
  refine Dr.bind (pick_dr b1 b2 5 (by omega) (by omega)) fun r7 ⟨_, _, _, _⟩ => ?_
  exact Dr.now _ ⟨‹r2.1.length ≤ 101›, ‹r6.1.length ≤ 101›⟩

theorem mixL_getD (a : List Int) (p : Int) (b : List Int) (q : Int) (k : Nat) (hk : k < a.length) : (mixL a p b q).getD k 0 = a.getD k 0 * p + b.getD k 0 * q := by
  unfold mixL; rw [getD_map_range _ _ _ hk]; rfl

theorem shortL_getD (r : List Int) (k : Nat) (hk : k < r.length - 1) : (shortL r).getD k 0 = shortE r k := by
  unfold shortL; rw [getD_map_range _ _ _ hk]

theorem mixed_short (a : List Int) (p : Int) (b : List Int) (q : Int) (h : a.length = b.length) : mixL (shortL a) p (shortL b) q = shortL (mixL a p b q) := by
  unfold mixL
  rw [shortL_length]
  show _ = shortL (mixL a p b q)
  conv => rhs; unfold shortL
  rw [mixL_length]
  apply List.map_congr_left
  intro k hk
  have hk' : k < a.length - 1 := List.mem_range.1 hk
  show (shortL a).getD k 0 * p + (shortL b).getD k 0 * q = shortE (mixL a p b q) k
  rw [shortL_getD a k hk', shortL_getD b k (by omega)]
  unfold shortE
  rw [mixL_length, mixL_getD a p b q k (by omega), mixL_getD a p b q (k + 1) (by omega), h]
  simp only [Int.add_mul]
  ac_rfl

theorem FnMixedRow : laws_FnMixedRow.Pure := by
  intro l _ _ hu
  obtain ⟨⟨a, p, b, q⟩, ⟨K, hK⟩, hr⟩ := draw_mixed hu
  have ha : a.length ≤ 101 := hr.1
  have hb : b.length ≤ 101 := hr.2
  have hd : spec_DrawMixedRow.f (K + 501) l = some (a, p, b, q) := hK _ (by omega)
  refine ⟨K + 501, ?_⟩
  unfold laws_FnMixedRow.f
  by_cases hlen : (l.length : Int) > 1048576
  · rw [if_pos hlen]
  rw [if_neg hlen, hd]; simp only [Option.bind_some]
  have hx : (mixedR a p b q).1.length ≤ 101 := by
    unfold mixedR fin
    split
    · split
      · show (mixL a p b q).length ≤ _; rw [mixL_length]; omega
      · simp
    · simp
  rw [impl_MixedRow_ok a b p q _ (by omega) (by omega) (by omega)]; simp only [Option.bind_some]
  rw [spec_MixedRow_ok a b p q _ (by omega) (by omega) (by omega)]; simp only [Option.bind_some]
  rw [sameInts_ok _ _ _ (by omega) (by omega)]; simp only [Option.bind_some, decide_true, if_true, bne_self_eq_false]
  rw [show K + 501 = (K + 500) + 1 by omega]
  simp only [laws_FnMixedRow.j0, Bool.false_eq_true, if_false]
  by_cases ho : (mixedR a p b q).2 = true
  · rw [if_pos ho]
    have hask : mixAsk a p b q := by
      unfold mixedR at ho; split at ho
      · assumption
      · simp at ho
    have hm : mixB (mixL a p b q) = true ∧ mixedR a p b q = (mixL a p b q, true) := by
      unfold mixedR at ho ⊢
      rw [if_pos hask] at ho ⊢
      exact fin_ok ho
    have hu1 : (shorterR a).1.length ≤ 101 := by
      by_cases c : (shorterR a).2 = true
      · rw [(shorterR_ok c).2.2.2]; show (shortL a).length ≤ _; rw [shortL_length]; omega
      · rw [shorterR_no c]; simp
    have hv1 : (shorterR b).1.length ≤ 101 := by
      by_cases c : (shorterR b).2 = true
      · rw [(shorterR_ok c).2.2.2]; show (shortL b).length ≤ _; rw [shortL_length]; omega
      · rw [shorterR_no c]; simp
    rw [impl_Shorter_ok a _ (by omega) (by omega), impl_Shorter_ok b _ (by omega) (by omega), hm.2]
    simp only [Option.bind_some]
    rw [impl_Shorter_ok (mixL a p b q) _ (by rw [mixL_length]; omega) (by rw [mixL_length]; omega)]
    simp only [Option.bind_some]
    rw [impl_MixedRow_ok _ _ p q _ (by omega) (by omega) (by omega)]
    simp only [Option.bind_some]
    by_cases c1 : (shorterR a).2 = true
    · rw [if_pos c1]
      by_cases c2 : (shorterR b).2 = true
      · rw [if_pos c2]
        by_cases c3 : (shorterR (mixL a p b q)).2 = true
        · rw [if_pos c3]
          have d1 := shorterR_ok c1
          have d2 := shorterR_ok c2
          have d3 := shorterR_ok c3
          have e : mixedR (shorterR a).1 p (shorterR b).1 q = (shortL (mixL a p b q), true) := by
            rw [d1.2.2.2, d2.2.2.2]
            unfold mixedR
            rw [if_pos ⟨d1.2.2.1, d2.2.2.1, by show (shortL a).length = (shortL b).length; rw [shortL_length, shortL_length, hask.2.2.1], hask.2.2.2⟩]
            show fin (mixL (shortL a) p (shortL b) q) = _
            rw [mixed_short a p b q hask.2.2.1]
            unfold fin; rw [if_pos d3.2.2.1]
          rw [e, d3.2.2.2, if_pos rfl, sameInts_ok _ _ _ (by show (shortL _).length ≤ _; rw [shortL_length, mixL_length]; omega) (by show (shortL _).length + 2 ≤ _; rw [shortL_length, mixL_length]; omega)]
          simp
        · rw [if_neg c3]
      · rw [if_neg c2]
    · rw [if_neg c1]
  · rw [if_neg ho]
    have e : (mixedR a p b q).1 = [] := by
      unfold mixedR at ho ⊢
      split
      · rename_i c; rw [if_pos c] at ho; rw [fin_no ho]
      · rfl
    rw [e, alive_ok _ (by omega)]; rfl

end Go.Proofs.Ytncjjgfiddgckaa.Pure
