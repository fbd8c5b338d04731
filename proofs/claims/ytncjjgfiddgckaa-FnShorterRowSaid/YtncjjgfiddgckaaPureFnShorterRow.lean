/- FnShorterRow: for all arguments that the statement lets in, the law answers true. No condition of ours. -/
import Derived.Test.YtncjjgfiddgckaaPFnShorterRowx5
namespace Go.Proofs.Ytncjjgfiddgckaa.Pure
open Go.RowKit Go.Proofs.Ytncjjgfiddgckaa.PFnShorterRow Go.Proofs.YtncjjgfiddgckaaW.PrintWords Go.Proofs.YtncjjgfiddgckaaW.PrintLast

theorem wr {n : Int} (h0 : -9223372036854775808 ≤ n) (h1 : n < 9223372036854775808) : wrap64 n = n := by unfold wrap64; omega
theorem wrap_lo (x : Int) : -9223372036854775808 ≤ wrap64 x := by unfold wrap64; omega
theorem wrap_hi (x : Int) : wrap64 x < 9223372036854775808 := by unfold wrap64; omega


theorem rd_byte {b : List Int} (hb : ∀ x ∈ b, 0 ≤ x ∧ x < 256) (i : Int) : 0 ≤ rd b i ∧ rd b i < 256 := by
  unfold rd
  rw [List.getD_eq_getElem?_getD]
  cases h : b[i.toNat]? with
  | none => simp
  | some x => exact hb x (List.mem_of_getElem? h)

theorem xor_nonneg {a c : Int} (ha : 0 ≤ a) (ha' : a < 4611686018427387904) (hc : 0 ≤ c) (hc' : c < 4611686018427387904) : 0 ≤ Go.bits .xor .i64 a c := by
  obtain ⟨a, rfl⟩ := Int.eq_ofNat_of_zero_le ha
  obtain ⟨c, rfl⟩ := Int.eq_ofNat_of_zero_le hc
  have ha2 : a < 2 ^ 62 := by omega
  have hc2 : c < 2 ^ 62 := by omega
  have hx := Nat.xor_lt_two_pow ha2 hc2
  have h1 : a % 2 ^ 64 = a := Nat.mod_eq_of_lt (by omega)
  have h2 : c % 2 ^ 64 = c := Nat.mod_eq_of_lt (by omega)
  have e : Go.bits .xor .i64 (a : Int) (c : Int) = wrap64 ((a ^^^ c : Nat) : Int) := by
    simp only [Go.bits, BitVec.ofInt_natCast, BitVec.toNat_xor, BitVec.toNat_ofNat]
    rw [show Go.IntKind.i64.bits = 64 from rfl, h1, h2, Go.IntKind.wrap_i64]
    unfold wrap64
    with_reducible rfl
  rw [e, wr (by omega) (by omega)]
  omega

theorem tmod_lt {x n : Int} (hx : 0 ≤ x) (hn : 1 ≤ n) : 0 ≤ Int.tmod x n ∧ Int.tmod x n < n :=
  ⟨Int.tmod_nonneg n hx, Int.tmod_lt_of_pos x (by omega)⟩

theorem tdiv_le (x n : Int) (hx : 0 ≤ x) : Int.tdiv x n ≤ x := by
  by_cases hn : n = 0
  · subst hn; simp; omega
  by_cases h : 0 ≤ n
  · rw [Int.tdiv_eq_ediv_of_nonneg hx]; exact Int.ediv_le_self n hx
  · have : Int.tdiv x n ≤ 0 := Int.tdiv_nonpos_of_nonneg_of_nonpos hx (by omega)
    omega

theorem pick_ok {b : List Int} (hb : ∀ x ∈ b, 0 ≤ x ∧ x < 256) (hl : b.length ≤ 2000) {p : Int} (n : Int) (hp0 : 0 ≤ p) (hp1 : p < 1000000000) :
    ∃ v, (∀ k, 1 ≤ k → spec_l20Rd_pick.f k b p n = some (v, p + 1)) ∧ 0 ≤ v ∧ (v = 0 ∨ v < n) := by
  have e0 : wrap64 (p + 1) = p + 1 := wr (by omega) (by omega)
  have e1 : wrap64 (p + 1 - 1) = p := by rw [wr (by omega) (by omega)]; omega
  by_cases hn : n < 1
  · refine ⟨0, fun k hk => ?_, Int.le_refl _, .inl rfl⟩
    obtain ⟨k, rfl⟩ : ∃ m, k = m + 1 := ⟨k - 1, by omega⟩
    unfold spec_l20Rd_pick.f; rw [if_pos hn, e0]; simp only [spec_l20Rd_pick.j0, if_true]
  by_cases hz : (b.length : Int) = 0
  · refine ⟨0, fun k hk => ?_, Int.le_refl _, .inl rfl⟩
    obtain ⟨k, rfl⟩ : ∃ m, k = m + 1 := ⟨k - 1, by omega⟩
    unfold spec_l20Rd_pick.f; rw [if_neg hn, e0, hz]; simp only [spec_l20Rd_pick.j0, beq_self_eq_true, if_true]
  have hz' : ((b.length : Int) == 0) = false := by simpa using hz
  by_cases hp : p < (b.length : Int)
  · have hr := rd_byte hb p
    have ew : wrap64 (rd b p) = rd b p := wr (by omega) (by omega)
    have hm := tmod_lt (n := n) hr.1 (by omega)
    refine ⟨Int.tmod (rd b p) n, fun k hk => ?_, hm.1, .inr hm.2⟩
    obtain ⟨k, rfl⟩ : ∃ m, k = m + 1 := ⟨k - 1, by omega⟩
    unfold spec_l20Rd_pick.f; rw [if_neg hn, e0, hz']; simp only [spec_l20Rd_pick.j0]; rw [e1, if_neg (by decide), if_pos hp, if_pos hp0, if_neg (by omega), ew]
  · have hL : (1 : Int) ≤ b.length := by omega
    have m1 := tmod_lt (n := (b.length : Int)) hp0 hL
    have e7 : wrap64 (p * 7) = p * 7 := wr (by omega) (by omega)
    have e73 : wrap64 (p * 7 + 3) = p * 7 + 3 := wr (by omega) (by omega)
    have m2 := tmod_lt (x := p * 7 + 3) (n := (b.length : Int)) (by omega) hL
    have r1 := rd_byte hb (Int.tmod p (b.length : Int))
    have r2 := rd_byte hb (Int.tmod (p * 7 + 3) (b.length : Int))
    have d0 : 0 ≤ Int.tdiv p (b.length : Int) := Int.tdiv_nonneg hp0 (by omega)
    have d1 : Int.tdiv p (b.length : Int) ≤ p := tdiv_le p _ hp0
    have ex : ∃ v, (∀ k, spec_l20Rd_pick.j0 (k + 1) n false b (p + 1) = some (v, p + 1)) ∧ 0 ≤ v ∧ (v = 0 ∨ v < n) := by
      simp only [spec_l20Rd_pick.j0]
      rw [e1, if_neg (by decide), if_neg hp, if_neg hz, if_pos m1.1, if_pos m1.2, e7, e73, if_pos m2.1, if_pos m2.2, if_neg (show ¬ n = 0 by omega)]
      generalize rd b (Int.tmod p (b.length : Int)) = x1 at r1
      generalize rd b (Int.tmod (p * 7 + 3) (b.length : Int)) = x2 at r2
      generalize Int.tdiv p (b.length : Int) = q at d0 d1
      rw [wr (n := x1) (by omega) (by omega), wr (n := x2) (by omega) (by omega), wr (n := x1 * 131) (by omega) (by omega), wr (n := x2 * 1117) (by omega) (by omega),
        wr (n := x1 * 131 + x2 * 1117) (by omega) (by omega), wr (n := p * 29) (by omega) (by omega), wr (n := x1 * 131 + x2 * 1117 + p * 29) (by omega) (by omega),
        wr (n := q) (by omega) (by omega), wr (n := q * 53) (by omega) (by omega), wr (n := x1 * 131 + x2 * 1117 + p * 29 + q * 53) (by omega) (by omega)]
      have hX : 0 ≤ x1 * 131 + x2 * 1117 + p * 29 + q * 53 := by omega
      have hX' : x1 * 131 + x2 * 1117 + p * 29 + q * 53 < 4611686018427387904 := by omega
      generalize x1 * 131 + x2 * 1117 + p * 29 + q * 53 = X at hX hX'
      have q0 : 0 ≤ Int.tdiv X 64 := Int.tdiv_nonneg hX (by omega)
      have q1 : Int.tdiv X 64 ≤ X := tdiv_le X 64 hX
      rw [wr (n := Int.tdiv X 64) (by omega) (by omega)]
      have hm := tmod_lt (n := n) (xor_nonneg hX hX' q0 (by omega)) (by omega)
      exact ⟨_, fun _ => rfl, hm.1, .inr hm.2⟩
    obtain ⟨v, hv, h0, h1⟩ := ex
    refine ⟨v, fun k hk => ?_, h0, h1⟩
    obtain ⟨k, rfl⟩ : ∃ m, k = m + 1 := ⟨k - 1, by omega⟩
    unfold spec_l20Rd_pick.f; rw [if_neg hn, e0, hz', hv]

theorem open_ok {l : List Int} (hl : ∀ x ∈ l, (Lit.int .u8 x).wf = true) :
    ∃ b, spec_l20Open.f l = some (b, 0) ∧ (∀ x ∈ b, 0 ≤ x ∧ x < 256) ∧ b.length ≤ 2000 := by
  have hl' : ∀ x ∈ l, 0 ≤ x ∧ x < 256 := fun x hx => by
    have := hl x hx
    simp [Lit.wf, Go.IntKind.min, Go.IntKind.max, Go.IntKind.bits, Go.IntKind.signed] at this
    omega
  unfold spec_l20Open.f
  by_cases h : (l.length : Int) > 2000
  · rw [if_pos h, if_pos (by omega)]
    exact ⟨_, rfl, fun x hx => hl' x (List.mem_of_mem_take hx), by simp; omega⟩
  · rw [if_neg h]
    exact ⟨_, rfl, hl', by omega⟩

/-- one number drawn: what it is, and where the reader stands behind it -/
theorem pick_one {b : List Int} (hb : ∀ x ∈ b, 0 ≤ x ∧ x < 256) (hl : b.length ≤ 2000) {p : Int} (n : Int) (hp0 : 0 ≤ p) (hp1 : p < 1000000000) :
    ∃ v q, (∀ k, 1 ≤ k → spec_l20Rd_pick.f k b p n = some (v, q)) ∧ 0 ≤ v ∧ (v = 0 ∨ v < n) ∧ 0 ≤ q ∧ q ≤ p + 1 := by
  obtain ⟨v, h, h0, h1⟩ := pick_ok hb hl n hp0 hp1
  exact ⟨v, p + 1, h, h0, h1, by omega, by omega⟩

/-- from some number of rounds on it tells r, and Q r -/
def Dr {α : Type} (g : Nat → Option α) (Q : α → Prop) : Prop := ∃ r, (∃ K, ∀ k, K ≤ k → g k = some r) ∧ Q r

theorem Dr.now {α : Type} {Q : α → Prop} (r : α) (h : Q r) : Dr (fun _ => some r) Q := ⟨r, ⟨0, fun _ _ => rfl⟩, h⟩
theorem Dr.const {α : Type} {Q : α → Prop} {g : Option α} {r : α} (e : g = some r) (h : Q r) : Dr (fun _ => g) Q := ⟨r, ⟨0, fun _ _ => e⟩, h⟩
theorem Dr.bind {α β : Type} {g : Nat → Option α} {f : Nat → α → Option β} {P : α → Prop} {Q : β → Prop} (h : Dr g P) (k : ∀ a, P a → Dr (fun n => f n a) Q) : Dr (fun n => (g n).bind (f n)) Q := by
  obtain ⟨a, ⟨K, hK⟩, hP⟩ := h
  obtain ⟨r, ⟨L, hL⟩, hQ⟩ := k a hP
  exact ⟨r, ⟨K + L, fun n hn => by show (g n).bind (f n) = _; rw [hK n (by omega)]; exact hL n (by omega)⟩, hQ⟩
theorem Dr.step {α : Type} {g f : Nat → Option α} {Q : α → Prop} (h : ∀ k, g (k + 1) = f k) (d : Dr f Q) : Dr g Q := by
  obtain ⟨r, ⟨K, hK⟩, hQ⟩ := d
  refine ⟨r, ⟨K + 1, fun n hn => ?_⟩, hQ⟩
  obtain ⟨n, rfl⟩ : ∃ m, n = m + 1 := ⟨n - 1, by omega⟩
  rw [h]; exact hK n (by omega)
theorem Dr.congr {α : Type} {g f : Nat → Option α} {Q : α → Prop} (h : ∀ k, g k = f k) (d : Dr f Q) : Dr g Q := by
  obtain ⟨r, ⟨K, hK⟩, hQ⟩ := d
  exact ⟨r, ⟨K, fun n hn => by rw [h]; exact hK n hn⟩, hQ⟩
theorem Dr.ifp {α : Type} {c : Prop} [Decidable c] {g f : Nat → Option α} {Q : α → Prop} (h : c) (d : Dr g Q) : Dr (fun k => if c then g k else f k) Q := by
  simp only [if_pos h]; exact d
theorem Dr.ifn {α : Type} {c : Prop} [Decidable c] {g f : Nat → Option α} {Q : α → Prop} (h : ¬ c) (d : Dr f Q) : Dr (fun k => if c then g k else f k) Q := by
  simp only [if_neg h]; exact d
theorem Dr.mono {α : Type} {g : Nat → Option α} {P Q : α → Prop} (h : ∀ r, P r → Q r) (d : Dr g P) : Dr g Q := by
  obtain ⟨r, hr, hP⟩ := d
  exact ⟨r, hr, h r hP⟩

theorem pick_dr {b : List Int} (hb : ∀ x ∈ b, 0 ≤ x ∧ x < 256) (hl : b.length ≤ 2000) {p : Int} (n : Int) (hp0 : 0 ≤ p) (hp1 : p < 1000000000) :
    Dr (fun k => spec_l20Rd_pick.f k b p n) (fun r => 0 ≤ r.1 ∧ (r.1 = 0 ∨ r.1 < n) ∧ 0 ≤ r.2 ∧ r.2 ≤ p + 1) := by
  obtain ⟨v, q, h, h0, h1, h2, h3⟩ := pick_one hb hl n hp0 hp1
  exact ⟨(v, q), ⟨1, h⟩, h0, h1, h2, h3⟩

theorem open_dr {l : List Int} (hl : ∀ x ∈ l, (Lit.int .u8 x).wf = true) :
    Dr (fun _ => spec_l20Open.f l) (fun r => r.2 = 0 ∧ (∀ x ∈ r.1, 0 ≤ x ∧ x < 256) ∧ r.1.length ≤ 2000) := by
  obtain ⟨b, h, h1, h2⟩ := open_ok hl
  exact Dr.const h ⟨rfl, h1, h2⟩

theorem Dr.up {α : Type} {g : Nat → Option α} {Q : α → Prop} (d : Dr (fun k => g (k + 1)) Q) : Dr g Q := Dr.step (fun _ => rfl) d

theorem rd_nat (l : List Int) (i : Nat) (h : i < l.length) : rd l (i : Int) = l[i] := by
  unfold rd
  rw [Int.toNat_natCast, List.getD_eq_getElem?_getD, List.getElem?_eq_getElem h]; rfl

theorem rd_getD (l : List Int) (i : Nat) : rd l (i : Int) = l.getD i 0 := by
  unfold rd; rw [Int.toNat_natCast]

theorem sameInts_l0 (a b : List Int) (hab : a.length = b.length) (hl : a.length ≤ 17592186044416) : ∀ (d i f : Nat), i + d = a.length → d < f →
    laws_sameInts.l0 f a b (i : Int) = some (decide (a.drop i = b.drop i)) := by
  intro d
  induction d with
  | zero =>
    intro i f hi hf
    obtain ⟨f, rfl⟩ : ∃ g, f = g + 1 := ⟨f - 1, by omega⟩
    simp only [laws_sameInts.l0]; rw [if_neg (by omega), List.drop_of_length_le (by omega), List.drop_of_length_le (by omega)]; rfl
  | succ d ih =>
    intro i f hi hf
    obtain ⟨f, rfl⟩ : ∃ g, f = g + 1 := ⟨f - 1, by omega⟩
    simp only [laws_sameInts.l0]
    rw [if_pos (by omega), if_pos (by omega), if_pos (by omega), rd_nat a i (by omega), rd_nat b i (by omega), wr (by omega) (by omega)]
    rw [List.drop_eq_getElem_cons (show i < a.length by omega), List.drop_eq_getElem_cons (show i < b.length by omega)]
    by_cases h : a[i] = b[i]
    · rw [if_pos h]
      have := ih (i + 1) f (by omega) (by omega)
      rw [show ((i : Int) + 1) = ((i + 1 : Nat) : Int) by omega, this, h]
      congr 1; apply decide_eq_decide.2; exact ⟨fun c => by rw [c], fun c => (List.cons.inj c).2⟩
    · rw [if_neg h, decide_eq_false (fun c => h (List.cons.inj c).1)]

theorem sameInts_ok (a b : List Int) (f : Nat) (hl : a.length ≤ 17592186044416) (hf : a.length + 2 ≤ f) : laws_sameInts.f f a b = some (decide (a = b)) := by
  unfold laws_sameInts.f
  by_cases h : (a.length : Int) = (b.length : Int)
  · rw [if_pos h]
    have := sameInts_l0 a b (by omega) hl a.length 0 f (by omega) (by omega)
    rw [List.drop_zero, List.drop_zero] at this
    exact this
  · rw [if_neg h, decide_eq_false (fun c => h (by rw [c]))]

theorem l1In_ok (a b c : Int) : spec_l1In.f a b c = some (decide (b ≤ a ∧ a ≤ c)) := by
  unfold spec_l1In.f
  by_cases h : a ≥ b
  · rw [if_pos h]; simp [h]
  · rw [if_neg h]; simp; omega

def inB (x : Int) : Bool := decide (0 ≤ x ∧ x ≤ 100000)

/-- a row of weights -/
def mixB (l : List Int) : Bool := l.all inB && decide (1 ≤ l.length ∧ l.length ≤ 9)

theorem mixB_len {l : List Int} (h : mixB l = true) : 1 ≤ l.length ∧ l.length ≤ 9 := by
  unfold mixB at h; simp only [Bool.and_eq_true, decide_eq_true_eq] at h; exact h.2

theorem mixB_mem {l : List Int} (h : mixB l = true) : ∀ x ∈ l, 0 ≤ x ∧ x ≤ 100000 := by
  unfold mixB at h; simp only [Bool.and_eq_true, List.all_eq_true] at h
  intro x hx; have := h.1 x hx; unfold inB at this; simpa using this

theorem mixB_get {l : List Int} (h : mixB l = true) (i : Nat) : 0 ≤ l.getD i 0 ∧ l.getD i 0 ≤ 100000 := by
  rw [List.getD_eq_getElem?_getD]
  cases e : l[i]? with
  | none => simp
  | some x => exact mixB_mem h x (List.mem_of_getElem? e)

theorem impl_MixOk_l0 (l : List Int) (hl : l.length ≤ 17592186044416) : ∀ (d i f : Nat), i + d = l.length → d < f →
    impl_MixOk.l0 f l l (l.length : Int) (i : Int) = some ((l.drop i).all inB && decide (1 ≤ l.length ∧ l.length ≤ 9)) := by
  intro d
  induction d with
  | zero =>
    intro i f hi hf
    obtain ⟨f, rfl⟩ : ∃ g, f = g + 1 := ⟨f - 1, by omega⟩
    simp only [impl_MixOk.l0]; rw [if_neg (by omega), List.drop_of_length_le (by omega)]
    rw [List.all_nil, Bool.true_and]
    by_cases h : (l.length : Int) ≥ 1
    · rw [if_pos h]; congr 1; apply decide_eq_decide.2; omega
    · rw [if_neg h, decide_eq_false (by omega)]
  | succ d ih =>
    intro i f hi hf
    obtain ⟨f, rfl⟩ : ∃ g, f = g + 1 := ⟨f - 1, by omega⟩
    simp only [impl_MixOk.l0]
    rw [if_pos (by omega), if_pos (by omega), if_pos (by omega), rd_nat l i (by omega), wr (by omega) (by omega), List.drop_eq_getElem_cons (show i < l.length by omega), List.all_cons]
    by_cases h1 : l[i] < 0
    · rw [if_pos h1, show inB l[i] = false from decide_eq_false (by omega)]; rfl
    by_cases h2 : l[i] > 100000
    · rw [if_neg h1, if_pos h2, show inB l[i] = false from decide_eq_false (by omega)]; rfl
    · rw [if_neg h1, if_neg h2]
      have := ih (i + 1) f (by omega) (by omega)
      rw [show ((i : Int) + 1) = ((i + 1 : Nat) : Int) by omega, this, show inB l[i] = true from decide_eq_true (by omega), Bool.true_and]

theorem impl_MixOk_ok (l : List Int) (f : Nat) (hl : l.length ≤ 17592186044416) (hf : l.length + 2 ≤ f) : impl_MixOk.f f l = some (mixB l) := by
  unfold impl_MixOk.f mixB
  have := impl_MixOk_l0 l hl l.length 0 f (by omega) (by omega)
  rw [List.drop_zero] at this
  exact this

theorem spec_MixOk_l0 (l : List Int) (hl : l.length ≤ 17592186044416) : ∀ (d i f : Nat), i + d = l.length → d < f →
    spec_MixOk.l0 f l (i : Int) = some ((l.drop i).all inB && decide (1 ≤ l.length ∧ l.length ≤ 9)) := by
  intro d
  induction d with
  | zero =>
    intro i f hi hf
    obtain ⟨f, rfl⟩ : ∃ g, f = g + 1 := ⟨f - 1, by omega⟩
    simp only [spec_MixOk.l0]; rw [if_neg (by omega), List.drop_of_length_le (by omega), l1In_ok]
    simp only [Option.bind_some]
    rw [List.all_nil, Bool.true_and]
    congr 1; apply decide_eq_decide.2; omega
  | succ d ih =>
    intro i f hi hf
    obtain ⟨f, rfl⟩ : ∃ g, f = g + 1 := ⟨f - 1, by omega⟩
    simp only [spec_MixOk.l0]
    rw [if_pos (by omega), if_pos (by omega), rd_nat l i (by omega), l1In_ok, wr (by omega) (by omega), List.drop_eq_getElem_cons (show i < l.length by omega), List.all_cons]
    simp only [Option.bind_some]
    by_cases h : 0 ≤ l[i] ∧ l[i] ≤ 100000
    · rw [if_pos (decide_eq_true h)]
      have := ih (i + 1) f (by omega) (by omega)
      rw [show ((i : Int) + 1) = ((i + 1 : Nat) : Int) by omega, this, show inB l[i] = true from decide_eq_true h, Bool.true_and]
    · rw [if_neg (by simpa using h), show inB l[i] = false from decide_eq_false h]; rfl

theorem spec_MixOk_ok (l : List Int) (f : Nat) (hl : l.length ≤ 17592186044416) (hf : l.length + 2 ≤ f) : spec_MixOk.f f l = some (mixB l) := by
  unfold spec_MixOk.f mixB
  have := spec_MixOk_l0 l hl l.length 0 f (by omega) (by omega)
  rw [List.drop_zero] at this
  exact this

theorem mul_bd {a c A C : Int} (h0 : 0 ≤ a) (h1 : a ≤ A) (h2 : 0 ≤ c) (h3 : c ≤ C) : 0 ≤ a * c ∧ a * c ≤ A * C :=
  ⟨Int.mul_nonneg h0 h2, Int.mul_le_mul h1 h3 h2 (by omega)⟩

theorem elem_ok {a b c e : Int} (ha : 0 ≤ a ∧ a ≤ 100000) (hb : 0 ≤ b ∧ b ≤ 100000) (hc : 0 ≤ c ∧ c ≤ 9) (he : 0 ≤ e ∧ e ≤ 9) :
    wrap64 ((wrap64 (a * c)) + (wrap64 (b * e))) = a * c + b * e := by
  have h1 := mul_bd ha.1 ha.2 hc.1 hc.2
  have h2 := mul_bd hb.1 hb.2 he.1 he.2
  rw [wr (n := a * c) (by omega) (by omega), wr (n := b * e) (by omega) (by omega), wr (by omega) (by omega)]

theorem range_snoc (g : Nat → Int) (i : Nat) : (List.range i).map g ++ [g i] = (List.range (i + 1)).map g := by
  rw [List.range_succ, List.map_append]; rfl

/-- the row, if it is one -/
def fin (l : List Int) : List Int × Bool := if mixB l = true then (l, true) else ([], false)

theorem impl_mixed_ok (l : List Int) (f : Nat) (hl : l.length ≤ 17592186044416) (hf : l.length + 2 ≤ f) : impl_mixed.f f l = some (fin l) := by
  unfold impl_mixed.f fin
  rw [impl_MixOk_ok l f hl hf]; simp only [Option.bind_some]
  split <;> rfl

def shortE (r : List Int) (k : Nat) : Int := r.getD k 0 * ((r.length : Int) - 1 - k) + r.getD (k + 1) 0 * ((k : Int) + 1)
def shortL (r : List Int) : List Int := (List.range (r.length - 1)).map (shortE r)
def shorterR (r : List Int) : List Int × Bool := if mixB r = true ∧ 2 ≤ r.length then fin (shortL r) else ([], false)

theorem shortL_length (r : List Int) : (shortL r).length = r.length - 1 := by simp [shortL]

theorem impl_Shorter_l0 (r : List Int) (hr : mixB r = true) : ∀ (d i f : Nat), i + d = r.length - 1 → d + 20 ≤ f →
    impl_ShorterRow.l0 f r (((r.length - 1 : Nat)) : Int) ((List.range i).map (shortE r)) ((r.length - 1 : Nat) : Int) (i : Int) = some (fin (shortL r)) := by
  have hlen := mixB_len hr
  intro d
  induction d with
  | zero =>
    intro i f hi hf
    obtain ⟨f, rfl⟩ : ∃ g, f = g + 1 := ⟨f - 1, by omega⟩
    obtain rfl : i = r.length - 1 := by omega
    simp only [impl_ShorterRow.l0]
    rw [if_neg (by omega), impl_mixed_ok _ f (by simp; omega) (by simp; omega)]
    rfl
  | succ d ih =>
    intro i f hi hf
    obtain ⟨f, rfl⟩ : ∃ g, f = g + 1 := ⟨f - 1, by omega⟩
    simp only [impl_ShorterRow.l0]
    rw [if_pos (by omega), if_pos (by omega), if_pos (by omega), wr (n := (i : Int) + 1) (by omega) (by omega), if_pos (by omega), if_pos (by omega), if_pos (by simp; omega),
      wr (n := ((r.length - 1 : Nat) : Int) - (i : Int)) (by omega) (by omega)]
    rw [show ((i : Int) + 1) = ((i + 1 : Nat) : Int) by omega, rd_getD, rd_getD, elem_ok (mixB_get hr i) (mixB_get hr (i + 1)) (by omega) (by omega)]
    have e : r.getD i 0 * (((r.length - 1 : Nat) : Int) - (i : Int)) + r.getD (i + 1) 0 * ((i + 1 : Nat) : Int) = shortE r i := by
      unfold shortE; rw [show ((r.length - 1 : Nat) : Int) - (i : Int) = (r.length : Int) - 1 - i by omega]; rfl
    rw [e, range_snoc]
    exact ih (i + 1) f (by omega) (by omega)

theorem impl_Shorter_ok (r : List Int) (f : Nat) (hl : r.length ≤ 17592186044416) (hf : r.length + 40 ≤ f) : impl_ShorterRow.f f r = some (shorterR r) := by
  obtain ⟨f, rfl⟩ : ∃ g, f = g + 1 := ⟨f - 1, by omega⟩
  unfold impl_ShorterRow.f shorterR
  rw [impl_MixOk_ok r _ hl (by omega)]; simp only [Option.bind_some]
  by_cases hr : mixB r = true
  · have hlen := mixB_len hr
    rw [if_pos hr, wr (n := (r.length : Int) - 1) (by omega) (by omega)]
    by_cases h2 : 2 ≤ r.length
    · rw [decide_eq_false (by omega), if_pos ⟨hr, h2⟩]
      simp only [impl_ShorterRow.j0]
      rw [if_neg (by decide), show (r.length : Int) - 1 = ((r.length - 1 : Nat) : Int) by omega]
      exact impl_Shorter_l0 r hr (r.length - 1) 0 f (by omega) (by omega)
    · rw [decide_eq_true (by omega), if_neg (fun c => h2 c.2)]
      simp only [impl_ShorterRow.j0, if_true]
  · rw [if_neg hr, if_neg (fun c => hr c.1)]
    simp only [impl_ShorterRow.j0, if_true]

theorem spec_Shorter_l0 (r : List Int) (hr : mixB r = true) : ∀ (d i f : Nat), i + d = r.length - 1 → d + 20 ≤ f →
    spec_ShorterRow.l0 f r ((List.range i).map (shortE r)) (i : Int) = some (fin (shortL r)) := by
  have hlen := mixB_len hr
  intro d
  induction d with
  | zero =>
    intro i f hi hf
    obtain ⟨f, rfl⟩ : ∃ g, f = g + 1 := ⟨f - 1, by omega⟩
    obtain rfl : i = r.length - 1 := by omega
    simp only [spec_ShorterRow.l0]
    rw [wr (n := ((r.length - 1 : Nat) : Int) + 1) (by omega) (by omega), if_neg (by omega), spec_MixOk_ok _ f (by simp; omega) (by simp; omega)]
    simp only [Option.bind_some]
    show _ = some (fin (shortL r))
    unfold fin
    change (if mixB (shortL r) = true then _ else _) = _
    split <;> rfl
  | succ d ih =>
    intro i f hi hf
    obtain ⟨f, rfl⟩ : ∃ g, f = g + 1 := ⟨f - 1, by omega⟩
    simp only [spec_ShorterRow.l0]
    rw [wr (n := (i : Int) + 1) (by omega) (by omega), if_pos (by omega), if_pos (by omega), if_pos (by omega), if_pos (by omega), if_pos (by simp; omega),
      wr (n := (r.length : Int) - 1) (by omega) (by omega), wr (n := (r.length : Int) - 1 - (i : Int)) (by omega) (by omega)]
    rw [show ((i : Int) + 1) = ((i + 1 : Nat) : Int) by omega, rd_getD, rd_getD, elem_ok (mixB_get hr i) (mixB_get hr (i + 1)) (by omega) (by omega)]
    have e : r.getD i 0 * ((r.length : Int) - 1 - (i : Int)) + r.getD (i + 1) 0 * ((i + 1 : Nat) : Int) = shortE r i := rfl
    rw [e, range_snoc]
    exact ih (i + 1) f (by omega) (by omega)

theorem spec_Shorter_ok (r : List Int) (f : Nat) (hl : r.length ≤ 17592186044416) (hf : r.length + 40 ≤ f) : spec_ShorterRow.f f r = some (shorterR r) := by
  obtain ⟨f, rfl⟩ : ∃ g, f = g + 1 := ⟨f - 1, by omega⟩
  unfold spec_ShorterRow.f shorterR
  rw [spec_MixOk_ok r _ hl (by omega)]; simp only [Option.bind_some]
  by_cases hr : mixB r = true
  · have hlen := mixB_len hr
    rw [if_pos hr]
    by_cases h2 : 2 ≤ r.length
    · rw [decide_eq_false (by omega), if_pos ⟨hr, h2⟩]
      simp only [spec_ShorterRow.j0]
      rw [if_neg (by decide)]
      exact spec_Shorter_l0 r hr (r.length - 1) 0 f (by omega) (by omega)
    · rw [decide_eq_true (by omega), if_neg (fun c => h2 c.2)]
      simp only [spec_ShorterRow.j0, if_true]
  · rw [if_neg hr, if_neg (fun c => hr c.1)]
    simp only [spec_ShorterRow.j0, if_true]

/-- sum of f 0 .. f (n-1) -/
def SZ (f : Nat → Int) : Nat → Int
  | 0 => 0
  | n + 1 => SZ f n + f n

theorem SZ_succ (f : Nat → Int) (n : Nat) : SZ f (n + 1) = SZ f n + f n := rfl

theorem SZ_congr {f g : Nat → Int} {n : Nat} (h : ∀ k, k < n → f k = g k) : SZ f n = SZ g n := by
  induction n with
  | zero => rfl
  | succ n ih => rw [SZ_succ, SZ_succ, ih (fun k hk => h k (by omega)), h n (by omega)]

theorem SZ_add (f g : Nat → Int) (n : Nat) : SZ (fun k => f k + g k) n = SZ f n + SZ g n := by
  induction n with
  | zero => rfl
  | succ n ih => rw [SZ_succ, SZ_succ, SZ_succ, ih]; omega

theorem SZ_mul (c : Int) (f : Nat → Int) (n : Nat) : SZ (fun k => f k * c) n = SZ f n * c := by
  induction n with
  | zero => simp [SZ]
  | succ n ih => rw [SZ_succ, SZ_succ, ih, Int.add_mul]

theorem SZ_front (f : Nat → Int) (n : Nat) : SZ f (n + 1) = f 0 + SZ (fun k => f (k + 1)) n := by
  induction n with
  | zero => simp [SZ]
  | succ n ih => rw [SZ_succ, ih, SZ_succ]; omega

theorem SZ_bd {f : Nat → Int} {B : Int} {n : Nat} (h : ∀ k, k < n → 0 ≤ f k ∧ f k ≤ B) : 0 ≤ SZ f n ∧ SZ f n ≤ n * B := by
  induction n with
  | zero => simp [SZ]
  | succ n ih =>
    have h1 := ih (fun k hk => h k (by omega))
    have h2 := h n (by omega)
    rw [SZ_succ]
    refine ⟨by omega, ?_⟩
    rw [show ((n + 1 : Nat) : Int) * B = n * B + B by rw [show ((n + 1 : Nat) : Int) = (n : Int) + 1 by omega, Int.add_mul, Int.one_mul]]
    omega

def sumL (l : List Int) : Int := SZ (fun k => l.getD k 0) l.length
def wsumL (l : List Int) : Int := SZ (fun k => (k : Int) * l.getD k 0) l.length
def sumsR (l : List Int) : Int × Int × Bool := if mixB l = true then (sumL l, wsumL l, true) else (0, 0, false)

theorem sum_bd {l : List Int} (h : mixB l = true) (i : Nat) (hi : i ≤ 9) : 0 ≤ SZ (fun k => l.getD k 0) i ∧ SZ (fun k => l.getD k 0) i ≤ 900000 := by
  have := SZ_bd (f := fun k => l.getD k 0) (B := 100000) (n := i) (fun k _ => mixB_get h k)
  omega

theorem wsum_bd {l : List Int} (h : mixB l = true) (i : Nat) (hi : i ≤ 9) : 0 ≤ SZ (fun k => (k : Int) * l.getD k 0) i ∧ SZ (fun k => (k : Int) * l.getD k 0) i ≤ 8100000 := by
  have := SZ_bd (f := fun k => (k : Int) * l.getD k 0) (B := 900000) (n := i) (fun k hk => by
    have h1 := mixB_get h k
    have := mul_bd (a := (k : Int)) (A := 9) (by omega) (by omega) h1.1 h1.2
    omega)
  omega

theorem impl_sum_l0 (l : List Int) (h : mixB l = true) : ∀ (d i f : Nat), i + d = l.length → d < f →
    impl_sum.l0 f (SZ (fun k => l.getD k 0) i) l (l.length : Int) (i : Int) = some (sumL l) := by
  have hlen := mixB_len h
  intro d
  induction d with
  | zero =>
    intro i f hi hf
    obtain ⟨f, rfl⟩ : ∃ g, f = g + 1 := ⟨f - 1, by omega⟩
    obtain rfl : i = l.length := by omega
    simp only [impl_sum.l0]; rw [if_neg (by omega)]; rfl
  | succ d ih =>
    intro i f hi hf
    obtain ⟨f, rfl⟩ : ∃ g, f = g + 1 := ⟨f - 1, by omega⟩
    have h1 := sum_bd h i (by omega)
    have h2 := mixB_get h i
    simp only [impl_sum.l0]
    rw [if_pos (by omega), if_pos (by omega), if_pos (by omega), rd_getD, wr (n := SZ (fun k => l.getD k 0) i + l.getD i 0) (by omega) (by omega), wr (n := (i : Int) + 1) (by omega) (by omega)]
    exact ih (i + 1) f (by omega) (by omega)

theorem impl_sum_ok (l : List Int) (h : mixB l = true) (f : Nat) (hf : 12 ≤ f) : impl_sum.f f l = some (sumL l) := by
  have hlen := mixB_len h
  unfold impl_sum.f
  exact impl_sum_l0 l h l.length 0 f (by omega) (by omega)

theorem impl_RowSums_l0 (l : List Int) (h : mixB l = true) : ∀ (d i f : Nat), i + d = l.length → d + 20 ≤ f →
    impl_RowSums.l0 f l (SZ (fun k => (k : Int) * l.getD k 0) i) l (l.length : Int) (i : Int) = some (sumL l, wsumL l, true) := by
  have hlen := mixB_len h
  intro d
  induction d with
  | zero =>
    intro i f hi hf
    obtain ⟨f, rfl⟩ : ∃ g, f = g + 1 := ⟨f - 1, by omega⟩
    obtain rfl : i = l.length := by omega
    simp only [impl_RowSums.l0]; rw [if_neg (by omega), impl_sum_ok l h f (by omega)]; rfl
  | succ d ih =>
    intro i f hi hf
    obtain ⟨f, rfl⟩ : ∃ g, f = g + 1 := ⟨f - 1, by omega⟩
    have h1 := wsum_bd h i (by omega)
    have h2 := mixB_get h i
    have h3 := mul_bd (a := (i : Int)) (A := 9) (by omega) (by omega) h2.1 h2.2
    simp only [impl_RowSums.l0]
    rw [if_pos (by omega), if_pos (by omega), if_pos (by omega), rd_getD, wr (n := (i : Int) * l.getD i 0) (by omega) (by omega),
      wr (n := SZ (fun k => (k : Int) * l.getD k 0) i + (i : Int) * l.getD i 0) (by omega) (by omega), wr (n := (i : Int) + 1) (by omega) (by omega)]
    exact ih (i + 1) f (by omega) (by omega)

theorem impl_RowSums_ok (l : List Int) (f : Nat) (hl : l.length ≤ 17592186044416) (hf : l.length + 40 ≤ f) : impl_RowSums.f f l = some (sumsR l) := by
  unfold impl_RowSums.f sumsR
  rw [impl_MixOk_ok l f hl (by omega)]; simp only [Option.bind_some]
  by_cases h : mixB l = true
  · rw [if_pos h, if_pos h]
    have hlen := mixB_len h
    exact impl_RowSums_l0 l h l.length 0 f (by omega) (by omega)
  · rw [if_neg h, if_neg h]

theorem getD_map_range (g : Nat → Int) (n k : Nat) (h : k < n) : ((List.range n).map g).getD k 0 = g k := by
  rw [List.getD_eq_getElem?_getD, List.getElem?_map, List.getElem?_range h]; rfl

theorem short_sum (r : List Int) (n : Nat) (hn : r.length = n + 1) : sumL (shortL r) = sumL r * n := by
  unfold sumL
  rw [shortL_length, hn, show n + 1 - 1 = n by omega]
  have h1 : SZ (fun k => (shortL r).getD k 0) n = SZ (fun k => r.getD k 0 * ((n : Int) - k) + r.getD (k + 1) 0 * ((k : Int) + 1)) n := by
    apply SZ_congr
    intro k hk
    show (shortL r).getD k 0 = _
    unfold shortL
    rw [getD_map_range _ _ _ (by omega)]
    unfold shortE
    rw [hn, show ((n + 1 : Nat) : Int) - 1 = n by omega]
  rw [h1, SZ_add (fun k => r.getD k 0 * ((n : Int) - k)) (fun k => r.getD (k + 1) 0 * ((k : Int) + 1))]
  have h2 : SZ (fun k => r.getD k 0 * ((n : Int) - k)) (n + 1) = SZ (fun k => r.getD k 0 * ((n : Int) - k)) n := by
    rw [SZ_succ]; simp
  have h3 : SZ (fun k => r.getD k 0 * (k : Int)) (n + 1) = SZ (fun k => r.getD (k + 1) 0 * ((k : Int) + 1)) n := by
    rw [SZ_front]; simp
  rw [← h2, ← h3, ← SZ_add, ← SZ_mul]
  apply SZ_congr
  intro k _
  rw [← Int.mul_add]; congr 1; omega

theorem short_wsum (r : List Int) (n : Nat) (hn : r.length = n + 1) : wsumL (shortL r) = wsumL r * ((n : Int) - 1) := by
  unfold wsumL
  rw [shortL_length, hn, show n + 1 - 1 = n by omega]
  have h1 : SZ (fun k => (k : Int) * (shortL r).getD k 0) n = SZ (fun k => r.getD k 0 * ((k : Int) * ((n : Int) - k)) + r.getD (k + 1) 0 * (((k : Int) + 1) * k)) n := by
    apply SZ_congr
    intro k hk
    show (k : Int) * (shortL r).getD k 0 = _
    unfold shortL
    rw [getD_map_range _ _ _ (by omega)]
    unfold shortE
    rw [hn, show ((n + 1 : Nat) : Int) - 1 = n by omega, Int.mul_add]
    congr 1 <;> ac_rfl
  rw [h1, SZ_add (fun k => r.getD k 0 * ((k : Int) * ((n : Int) - k))) (fun k => r.getD (k + 1) 0 * (((k : Int) + 1) * k))]
  have h2 : SZ (fun k => r.getD k 0 * ((k : Int) * ((n : Int) - k))) (n + 1) = SZ (fun k => r.getD k 0 * ((k : Int) * ((n : Int) - k))) n := by
    rw [SZ_succ]; simp
  have h3 : SZ (fun k => r.getD k 0 * ((k : Int) * ((k : Int) - 1))) (n + 1) = SZ (fun k => r.getD (k + 1) 0 * (((k : Int) + 1) * k)) n := by
    rw [SZ_front]
    simp
  rw [← h2, ← h3, ← SZ_add, ← SZ_mul]
  apply SZ_congr
  intro k _
  rw [← Int.mul_add, ← Int.mul_add, show (n : Int) - k + ((k : Int) - 1) = n - 1 by omega]
  ac_rfl

theorem alive_ok (f : Nat) (hf : 5 ≤ f) : laws_alive.f f = some true := by
  obtain ⟨f, rfl⟩ : ∃ g, f = g + 5 := ⟨f - 5, by omega⟩
  have h1 : impl_UrnOk.f (f + 5) [1] = some true := by
    simp [impl_UrnOk.f, impl_UrnOk.l0, impl_coloursOk.f, rd, wrap64]
  have h2 : impl_UrnOk.f (f + 5) [] = some false := by
    simp [impl_UrnOk.f, impl_UrnOk.l0, impl_coloursOk.f]
  unfold laws_alive.f
  rw [h1, h2]; rfl

theorem odd_dr {b : List Int} (hb : ∀ x ∈ b, 0 ≤ x ∧ x < 256) (hl : b.length ≤ 2000) {p : Int} (n : Int) (hp0 : 0 ≤ p) (hp1 : p < 1000000000) :
    Dr (fun k => spec_l20Rd_odd.f k b p n) (fun r => 0 ≤ r.2 ∧ r.2 ≤ p + 1) := by
  unfold spec_l20Rd_odd.f
  by_cases h : n > 0
  · refine Dr.ifp h ?_
    refine Dr.bind (pick_dr hb hl n hp0 hp1) fun r ⟨_, _, _, _⟩ => ?_
    exact Dr.now _ ⟨by omega, by omega⟩
  · refine Dr.ifn h ?_
    exact Dr.now _ ⟨hp0, by omega⟩

theorem mix_l0 {b : List Int} (hb : ∀ x ∈ b, 0 ≤ x ∧ x < 256) (hl : b.length ≤ 2000) (m : Nat) (hm : m ≤ 1000) (n : Int) : ∀ (d i : Nat) (y : List Int) (p : Int), i + d = m → y.length ≤ i → 0 ≤ p → p + 2 * d < 100000 →
    Dr (fun k => spec_l20Mix.l0 k (m : Int) n y (i : Int) b p) (fun r => r.1.length ≤ m + 1 ∧ 0 ≤ r.2 ∧ r.2 ≤ p + 2 * d + 2) := by
  intro d
  induction d with
  | zero =>
    intro i y p hi hy h0 h1
    refine Dr.up ?_
    simp only [spec_l20Mix.l0]
    refine Dr.ifn (by omega) ?_
    refine Dr.bind (odd_dr hb hl n h0 (by omega)) fun r ⟨_, _⟩ => ?_
    by_cases h : r.1 = true
    · refine Dr.ifp h ?_
      refine Dr.bind (pick_dr hb hl 2 (by omega) (by omega)) fun r2 ⟨_, _, _, _⟩ => ?_
      by_cases h2 : r2.1 = 0
      · refine Dr.ifp h2 ?_
        exact Dr.now _ ⟨by simp, by show 0 ≤ r2.2; omega, by show r2.2 ≤ _; omega⟩
      · refine Dr.ifn h2 ?_
        refine Dr.ifp (by omega) ?_
        exact Dr.now _ ⟨by simp; omega, by show 0 ≤ r2.2; omega, by show r2.2 ≤ _; omega⟩
    · refine Dr.ifn h ?_
      exact Dr.now _ ⟨by show y.length ≤ _; omega, by show 0 ≤ r.2; omega, by show r.2 ≤ _; omega⟩
  | succ d ih =>
    intro i y p hi hy h0 h1
    refine Dr.up ?_
    simp only [spec_l20Mix.l0]
    refine Dr.ifp (by omega) ?_
    refine Dr.bind (pick_dr hb hl 8 h0 (by omega)) fun r1 ⟨_, _, _, _⟩ => ?_
    refine Dr.bind (pick_dr hb hl 14 (by omega) (by omega)) fun r2 ⟨_, _, _, _⟩ => ?_
    refine Dr.ifp (by omega) ?_
    rw [wr (n := (i : Int) + 1) (by omega) (by omega), show (i : Int) + 1 = ((i + 1 : Nat) : Int) by omega]
    refine Dr.mono ?_ (ih (i + 1) _ r2.2 (by omega) (by simp; omega) (by omega) (by omega))
    intro r ⟨g1, g2, g3⟩
    exact ⟨g1, g2, by omega⟩

theorem mix_dr {b : List Int} (hb : ∀ x ∈ b, 0 ≤ x ∧ x < 256) (hl : b.length ≤ 2000) {p : Int} (m : Int) (n : Int) (hm0 : 0 ≤ m) (hm1 : m ≤ 100) (hp0 : 0 ≤ p) (hp1 : p < 10000) :
    Dr (fun k => spec_l20Mix.f k b p m n) (fun r => r.1.length ≤ 101 ∧ 0 ≤ r.2 ∧ r.2 ≤ p + 202) := by
  obtain ⟨m, rfl⟩ := Int.eq_ofNat_of_zero_le hm0
  unfold spec_l20Mix.f
  refine Dr.mono ?_ (mix_l0 hb hl m (by omega) n m 0 [] p (by omega) (by simp) hp0 (by omega))
  intro r ⟨g1, g2, g3⟩
  exact ⟨by omega, g2, by omega⟩

theorem draw_short {l : List Int} (hl : ∀ x ∈ l, (Lit.int .u8 x).wf = true) :
    Dr (fun k => spec_DrawShorterRow.f k l) (fun r => r.length ≤ 101) := by
  unfold spec_DrawShorterRow.f
  refine Dr.bind (open_dr hl) fun b ⟨b0, b1, b2⟩ => ?_
  refine Dr.bind (pick_dr b1 b2 9 (by omega) (by omega)) fun r1 ⟨_, _, _, _⟩ => ?_
  rw [wr (n := 1 + r1.1) (by omega) (by omega)]
  refine Dr.bind (mix_dr b1 b2 _ 9 (by omega) (by omega) (by omega) (by omega)) fun r2 ⟨_, _, _⟩ => ?_
  refine Dr.bind (odd_dr b1 b2 14 (by omega) (by omega)) fun r3 ⟨_, _⟩ => ?_
  by_cases h : r3.1 = true
  · refine Dr.ifp h ?_
    by_cases h2 : (r2.1.length : Int) > 0
    · refine Dr.ifp h2 ?_
      refine Dr.ifp h2 ?_
      exact Dr.now _ (by simpa using ‹r2.1.length ≤ 101›)
    · refine Dr.ifn h2 ?_
      exact Dr.now _ ‹r2.1.length ≤ 101›
  · refine Dr.ifn h ?_
    exact Dr.now _ ‹r2.1.length ≤ 101›

theorem FnShorterRow : laws_FnShorterRow.Pure := by
  intro l _ _ hu
  obtain ⟨r, ⟨K, hK⟩, hr⟩ := draw_short hu
  have hr' : r.length ≤ 101 := hr
  have hd : spec_DrawShorterRow.f (K + 501) l = some r := hK _ (by omega)
  refine ⟨K + 501, ?_⟩
  unfold laws_FnShorterRow.f
  by_cases hlen : (l.length : Int) > 1048576
  · rw [if_pos hlen]
  have hs : (shorterR r).1.length ≤ 101 := by
    unfold shorterR fin
    split
    · split
      · show (shortL r).length ≤ _; rw [shortL_length]; omega
      · simp
    · simp
  rw [if_neg hlen, hd]; simp only [Option.bind_some]
  rw [impl_Shorter_ok r _ (by omega) (by omega)]; simp only [Option.bind_some]
  rw [spec_Shorter_ok r _ (by omega) (by omega)]; simp only [Option.bind_some]
  rw [sameInts_ok _ _ _ (by omega) (by omega)]; simp only [Option.bind_some, decide_true, if_true, bne_self_eq_false]
  rw [show K + 501 = (K + 500) + 1 by omega]
  simp only [laws_FnShorterRow.j0, Bool.false_eq_true, if_false]
  by_cases ho : (shorterR r).2 = true
  · rw [if_pos ho]
    have hc : mixB r = true ∧ 2 ≤ r.length ∧ mixB (shortL r) = true := by
      unfold shorterR fin at ho
      split at ho
      · split at ho
        · rename_i a b; exact ⟨a.1, a.2, b⟩
        · simp at ho
      · simp at ho
    have e : (shorterR r).1 = shortL r := by
      unfold shorterR fin; rw [if_pos ⟨hc.1, hc.2.1⟩, if_pos hc.2.2]
    obtain ⟨n, hn⟩ : ∃ n, r.length = n + 1 := ⟨r.length - 1, by omega⟩
    have l1 := mixB_len hc.1
    have l2 := shortL_length r
    rw [impl_RowSums_ok r _ (by omega) (by omega), e, impl_RowSums_ok _ _ (by omega) (by omega)]; simp only [Option.bind_some]
    have s1 : sumsR r = (sumL r, wsumL r, true) := by unfold sumsR; rw [if_pos hc.1]
    have s2 : sumsR (shortL r) = (sumL (shortL r), wsumL (shortL r), true) := by unfold sumsR; rw [if_pos hc.2.2]
    have b1 : 0 ≤ sumL r ∧ sumL r ≤ 900000 := sum_bd hc.1 r.length (by omega)
    have b2 : 0 ≤ wsumL r ∧ wsumL r ≤ 8100000 := wsum_bd hc.1 r.length (by omega)
    have b3 := mul_bd (c := (n : Int)) (C := 8) b1.1 b1.2 (by omega) (by omega)
    have b4 := mul_bd (c := (n : Int) - 1) (C := 8) b2.1 b2.2 (by omega) (by omega)
    rw [s1, s2, short_sum r n hn, short_wsum r n hn]
    rw [wr (n := (r.length : Int) - 1) (by omega) (by omega), show (r.length : Int) - 1 = n by omega, wr (n := (n : Int) - 1) (by omega) (by omega)]
    simp only [if_true]
    rw [if_pos (by omega), wr (n := sumL r * (n : Int)) (by omega) (by omega), wr (n := wsumL r * ((n : Int) - 1)) (by omega) (by omega), if_pos rfl]
    simp
  · rw [if_neg ho]
    have e : (shorterR r).1 = [] := by
      unfold shorterR fin at ho ⊢
      split
      · rename_i a
        rw [if_pos a] at ho
        split
        · rename_i b; rw [if_pos b] at ho; simp at ho
        · rfl
      · rfl
    rw [e, alive_ok _ (by omega)]; rfl

end Go.Proofs.Ytncjjgfiddgckaa.Pure
