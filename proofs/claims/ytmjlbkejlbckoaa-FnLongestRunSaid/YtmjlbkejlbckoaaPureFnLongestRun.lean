/- FnLongestRun: for all arguments that the statement lets in, the law answers true. No condition of ours. -/
import Derived.Test.YtmjlbkejlbckoaaOwnFnLongestRunx3
namespace Go.Proofs.Ytmjlbkejlbckoaa.Pure
open Go.RowKit Go.Proofs.Ytmjlbkejlbckoaa.PFnLongestRun Go.Proofs.YtmjlbkejlbckoaaW.PrintWords Go.Proofs.YtmjlbkejlbckoaaW.PrintLast

theorem wr {n : Int} (h0 : -9223372036854775808 ≤ n) (h1 : n < 9223372036854775808) : wrap64 n = n := by unfold wrap64; omega
theorem wrap_lo (x : Int) : -9223372036854775808 ≤ wrap64 x := by unfold wrap64; omega
theorem wrap_hi (x : Int) : wrap64 x < 9223372036854775808 := by unfold wrap64; omega


theorem rd_byte {b : List Int} (hb : ∀ x ∈ b, 0 ≤ x ∧ x < 256) (i : Int) : 0 ≤ rd b i ∧ rd b i < 256 := by
  unfold rd
  rw [List.getD_eq_getElem?_getD]
  cases h : b[i.toNat]? with
  | none => simp
  | some x => exact hb x (List.mem_of_getElem? h)

theorem xor_nonneg {a c : Int} (ha : 0 ≤ a) (ha' : a < 4611686018427387904) (hc : 0 ≤ c) (hc' : c < 4611686018427387904) : 0 ≤ Go.bits .xor .i64 a c := by
  obtain ⟨a, rfl⟩ := Int.eq_ofNat_of_zero_le ha
  obtain ⟨c, rfl⟩ := Int.eq_ofNat_of_zero_le hc
  have ha2 : a < 2 ^ 62 := by omega
  have hc2 : c < 2 ^ 62 := by omega
  have hx := Nat.xor_lt_two_pow ha2 hc2
  have h1 : a % 2 ^ 64 = a := Nat.mod_eq_of_lt (by omega)
  have h2 : c % 2 ^ 64 = c := Nat.mod_eq_of_lt (by omega)
  have e : Go.bits .xor .i64 (a : Int) (c : Int) = wrap64 ((a ^^^ c : Nat) : Int) := by
    simp only [Go.bits, BitVec.ofInt_natCast, BitVec.toNat_xor, BitVec.toNat_ofNat]
    rw [show Go.IntKind.i64.bits = 64 from rfl, h1, h2, Go.IntKind.wrap_i64]
    unfold wrap64
    with_reducible rfl
  rw [e, wr (by omega) (by omega)]
  omega

theorem tmod_lt {x n : Int} (hx : 0 ≤ x) (hn : 1 ≤ n) : 0 ≤ Int.tmod x n ∧ Int.tmod x n < n :=
  ⟨Int.tmod_nonneg n hx, Int.tmod_lt_of_pos x (by omega)⟩

theorem tdiv_le (x n : Int) (hx : 0 ≤ x) : Int.tdiv x n ≤ x := by
  by_cases hn : n = 0
  · subst hn; simp; omega
  by_cases h : 0 ≤ n
  · rw [Int.tdiv_eq_ediv_of_nonneg hx]; exact Int.ediv_le_self n hx
  · have : Int.tdiv x n ≤ 0 := Int.tdiv_nonpos_of_nonneg_of_nonpos hx (by omega)
    omega

theorem pick_ok {b : List Int} (hb : ∀ x ∈ b, 0 ≤ x ∧ x < 256) (hl : b.length ≤ 2000) {p : Int} (n : Int) (hp0 : 0 ≤ p) (hp1 : p < 1000000000) :
    ∃ v, (∀ k, 1 ≤ k → spec_l20Rd_pick.f k b p n = some (v, p + 1)) ∧ 0 ≤ v ∧ (v = 0 ∨ v < n) := by
  have e0 : wrap64 (p + 1) = p + 1 := wr (by omega) (by omega)
  have e1 : wrap64 (p + 1 - 1) = p := by rw [wr (by omega) (by omega)]; omega
  by_cases hn : n < 1
  · refine ⟨0, fun k hk => ?_, Int.le_refl _, .inl rfl⟩
    obtain ⟨k, rfl⟩ : ∃ m, k = m + 1 := ⟨k - 1, by omega⟩
    unfold spec_l20Rd_pick.f; rw [if_pos hn, e0]; simp only [spec_l20Rd_pick.j0, if_true]
  by_cases hz : (b.length : Int) = 0
  · refine ⟨0, fun k hk => ?_, Int.le_refl _, .inl rfl⟩
    obtain ⟨k, rfl⟩ : ∃ m, k = m + 1 := ⟨k - 1, by omega⟩
    unfold spec_l20Rd_pick.f; rw [if_neg hn, e0, hz]; simp only [spec_l20Rd_pick.j0, beq_self_eq_true, if_true]
  have hz' : ((b.length : Int) == 0) = false := by simpa using hz
  by_cases hp : p < (b.length : Int)
  · have hr := rd_byte hb p
    have ew : wrap64 (rd b p) = rd b p := wr (by omega) (by omega)
    have hm := tmod_lt (n := n) hr.1 (by omega)
    refine ⟨Int.tmod (rd b p) n, fun k hk => ?_, hm.1, .inr hm.2⟩
    obtain ⟨k, rfl⟩ : ∃ m, k = m + 1 := ⟨k - 1, by omega⟩
    unfold spec_l20Rd_pick.f; rw [if_neg hn, e0, hz']; simp only [spec_l20Rd_pick.j0]; rw [e1, if_neg (by decide), if_pos hp, if_pos hp0, if_neg (by omega), ew]
  · have hL : (1 : Int) ≤ b.length := by omega
    have m1 := tmod_lt (n := (b.length : Int)) hp0 hL
    have e7 : wrap64 (p * 7) = p * 7 := wr (by omega) (by omega)
    have e73 : wrap64 (p * 7 + 3) = p * 7 + 3 := wr (by omega) (by omega)
    have m2 := tmod_lt (x := p * 7 + 3) (n := (b.length : Int)) (by omega) hL
    have r1 := rd_byte hb (Int.tmod p (b.length : Int))
    have r2 := rd_byte hb (Int.tmod (p * 7 + 3) (b.length : Int))
    have d0 : 0 ≤ Int.tdiv p (b.length : Int) := Int.tdiv_nonneg hp0 (by omega)
    have d1 : Int.tdiv p (b.length : Int) ≤ p := tdiv_le p _ hp0
    have ex : ∃ v, (∀ k, spec_l20Rd_pick.j0 (k + 1) n false b (p + 1) = some (v, p + 1)) ∧ 0 ≤ v ∧ (v = 0 ∨ v < n) := by
      simp only [spec_l20Rd_pick.j0]
      rw [e1, if_neg (by decide), if_neg hp, if_neg hz, if_pos m1.1, if_pos m1.2, e7, e73, if_pos m2.1, if_pos m2.2, if_neg (show ¬ n = 0 by omega)]
      generalize rd b (Int.tmod p (b.length : Int)) = x1 at r1
      generalize rd b (Int.tmod (p * 7 + 3) (b.length : Int)) = x2 at r2
      generalize Int.tdiv p (b.length : Int) = q at d0 d1
      rw [wr (n := x1) (by omega) (by omega), wr (n := x2) (by omega) (by omega), wr (n := x1 * 131) (by omega) (by omega), wr (n := x2 * 1117) (by omega) (by omega),
        wr (n := x1 * 131 + x2 * 1117) (by omega) (by omega), wr (n := p * 29) (by omega) (by omega), wr (n := x1 * 131 + x2 * 1117 + p * 29) (by omega) (by omega),
        wr (n := q) (by omega) (by omega), wr (n := q * 53) (by omega) (by omega), wr (n := x1 * 131 + x2 * 1117 + p * 29 + q * 53) (by omega) (by omega)]
      have hX : 0 ≤ x1 * 131 + x2 * 1117 + p * 29 + q * 53 := by omega
      have hX' : x1 * 131 + x2 * 1117 + p * 29 + q * 53 < 4611686018427387904 := by omega
      generalize x1 * 131 + x2 * 1117 + p * 29 + q * 53 = X at hX hX'
      have q0 : 0 ≤ Int.tdiv X 64 := Int.tdiv_nonneg hX (by omega)
      have q1 : Int.tdiv X 64 ≤ X := tdiv_le X 64 hX
      rw [wr (n := Int.tdiv X 64) (by omega) (by omega)]
      have hm := tmod_lt (n := n) (xor_nonneg hX hX' q0 (by omega)) (by omega)
      exact ⟨_, fun _ => rfl, hm.1, .inr hm.2⟩
    obtain ⟨v, hv, h0, h1⟩ := ex
    refine ⟨v, fun k hk => ?_, h0, h1⟩
    obtain ⟨k, rfl⟩ : ∃ m, k = m + 1 := ⟨k - 1, by omega⟩
    unfold spec_l20Rd_pick.f; rw [if_neg hn, e0, hz', hv]

theorem open_ok {l : List Int} (hl : ∀ x ∈ l, (Lit.int .u8 x).wf = true) :
    ∃ b, spec_l20Open.f l = some (b, 0) ∧ (∀ x ∈ b, 0 ≤ x ∧ x < 256) ∧ b.length ≤ 2000 := by
  have hl' : ∀ x ∈ l, 0 ≤ x ∧ x < 256 := fun x hx => by
    have := hl x hx
    simp [Lit.wf, Go.IntKind.min, Go.IntKind.max, Go.IntKind.bits, Go.IntKind.signed] at this
    omega
  unfold spec_l20Open.f
  by_cases h : (l.length : Int) > 2000
  · rw [if_pos h, if_pos (by omega)]
    exact ⟨_, rfl, fun x hx => hl' x (List.mem_of_mem_take hx), by simp; omega⟩
  · rw [if_neg h]
    exact ⟨_, rfl, hl', by omega⟩

/-- one number drawn: what it is, and where the reader stands behind it -/
theorem pick_one {b : List Int} (hb : ∀ x ∈ b, 0 ≤ x ∧ x < 256) (hl : b.length ≤ 2000) {p : Int} (n : Int) (hp0 : 0 ≤ p) (hp1 : p < 1000000000) :
    ∃ v q, (∀ k, 1 ≤ k → spec_l20Rd_pick.f k b p n = some (v, q)) ∧ 0 ≤ v ∧ (v = 0 ∨ v < n) ∧ 0 ≤ q ∧ q ≤ p + 1 := by
  obtain ⟨v, h, h0, h1⟩ := pick_ok hb hl n hp0 hp1
  exact ⟨v, p + 1, h, h0, h1, by omega, by omega⟩

/-- from some number of rounds on it tells r, and Q r -/
def Dr {α : Type} (g : Nat → Option α) (Q : α → Prop) : Prop := ∃ r, (∃ K, ∀ k, K ≤ k → g k = some r) ∧ Q r

theorem Dr.now {α : Type} {Q : α → Prop} (r : α) (h : Q r) : Dr (fun _ => some r) Q := ⟨r, ⟨0, fun _ _ => rfl⟩, h⟩
theorem Dr.const {α : Type} {Q : α → Prop} {g : Option α} {r : α} (e : g = some r) (h : Q r) : Dr (fun _ => g) Q := ⟨r, ⟨0, fun _ _ => e⟩, h⟩
theorem Dr.bind {α β : Type} {g : Nat → Option α} {f : Nat → α → Option β} {P : α → Prop} {Q : β → Prop} (h : Dr g P) (k : ∀ a, P a → Dr (fun n => f n a) Q) : Dr (fun n => (g n).bind (f n)) Q := by
  obtain ⟨a, ⟨K, hK⟩, hP⟩ := h
  obtain ⟨r, ⟨L, hL⟩, hQ⟩ := k a hP
  exact ⟨r, ⟨K + L, fun n hn => by show (g n).bind (f n) = _; rw [hK n (by omega)]; exact hL n (by omega)⟩, hQ⟩
theorem Dr.step {α : Type} {g f : Nat → Option α} {Q : α → Prop} (h : ∀ k, g (k + 1) = f k) (d : Dr f Q) : Dr g Q := by
  obtain ⟨r, ⟨K, hK⟩, hQ⟩ := d
  refine ⟨r, ⟨K + 1, fun n hn => ?_⟩, hQ⟩
  obtain ⟨n, rfl⟩ : ∃ m, n = m + 1 := ⟨n - 1, by omega⟩
  rw [h]; exact hK n (by omega)
theorem Dr.congr {α : Type} {g f : Nat → Option α} {Q : α → Prop} (h : ∀ k, g k = f k) (d : Dr f Q) : Dr g Q := by
  obtain ⟨r, ⟨K, hK⟩, hQ⟩ := d
  exact ⟨r, ⟨K, fun n hn => by rw [h]; exact hK n hn⟩, hQ⟩
theorem Dr.ifp {α : Type} {c : Prop} [Decidable c] {g f : Nat → Option α} {Q : α → Prop} (h : c) (d : Dr g Q) : Dr (fun k => if c then g k else f k) Q := by
  simp only [if_pos h]; exact d
theorem Dr.ifn {α : Type} {c : Prop} [Decidable c] {g f : Nat → Option α} {Q : α → Prop} (h : ¬ c) (d : Dr f Q) : Dr (fun k => if c then g k else f k) Q := by
  simp only [if_neg h]; exact d
theorem Dr.mono {α : Type} {g : Nat → Option α} {P Q : α → Prop} (h : ∀ r, P r → Q r) (d : Dr g P) : Dr g Q := by
  obtain ⟨r, hr, hP⟩ := d
  exact ⟨r, hr, h r hP⟩

theorem pick_dr {b : List Int} (hb : ∀ x ∈ b, 0 ≤ x ∧ x < 256) (hl : b.length ≤ 2000) {p : Int} (n : Int) (hp0 : 0 ≤ p) (hp1 : p < 1000000000) :
    Dr (fun k => spec_l20Rd_pick.f k b p n) (fun r => 0 ≤ r.1 ∧ (r.1 = 0 ∨ r.1 < n) ∧ 0 ≤ r.2 ∧ r.2 ≤ p + 1) := by
  obtain ⟨v, q, h, h0, h1, h2, h3⟩ := pick_one hb hl n hp0 hp1
  exact ⟨(v, q), ⟨1, h⟩, h0, h1, h2, h3⟩

theorem open_dr {l : List Int} (hl : ∀ x ∈ l, (Lit.int .u8 x).wf = true) :
    Dr (fun _ => spec_l20Open.f l) (fun r => r.2 = 0 ∧ (∀ x ∈ r.1, 0 ≤ x ∧ x < 256) ∧ r.1.length ≤ 2000) := by
  obtain ⟨b, h, h1, h2⟩ := open_ok hl
  exact Dr.const h ⟨rfl, h1, h2⟩

theorem Dr.up {α : Type} {g : Nat → Option α} {Q : α → Prop} (d : Dr (fun k => g (k + 1)) Q) : Dr g Q := Dr.step (fun _ => rfl) d

theorem rd_nat (l : List Int) (i : Nat) (h : i < l.length) : rd l (i : Int) = l[i] := by
  unfold rd
  rw [Int.toNat_natCast, List.getD_eq_getElem?_getD, List.getElem?_eq_getElem h]; rfl

theorem rd_getD (l : List Int) (i : Nat) : rd l (i : Int) = l.getD i 0 := by
  unfold rd; rw [Int.toNat_natCast]

theorem l1In_ok (a b c : Int) : spec_l1In.f a b c = some (decide (b ≤ a ∧ a ≤ c)) := by
  unfold spec_l1In.f
  by_cases h : a ≥ b
  · rw [if_pos h]; simp [h]
  · rw [if_neg h]; simp; omega

def inC (c x : Int) : Bool := decide (0 ≤ x ∧ x < c)

/-- a word of so many colours -/
def wordB (c : Int) (l : List Int) : Bool := l.all (inC c) && decide (1 ≤ c ∧ c ≤ 3 ∧ l.length ≤ 6)

theorem wordB_some {c : Int} {l : List Int} (h : wordB c l = true) : (∀ x ∈ l, 0 ≤ x ∧ x < c) ∧ 1 ≤ c ∧ c ≤ 3 ∧ l.length ≤ 6 := by
  unfold wordB at h
  simp only [Bool.and_eq_true, List.all_eq_true, decide_eq_true_eq] at h
  exact ⟨fun x hx => by have := h.1 x hx; unfold inC at this; simpa using this, h.2⟩

theorem wordB_mk {c : Int} {l : List Int} (h : ∀ x ∈ l, 0 ≤ x ∧ x < c) (h2 : 1 ≤ c ∧ c ≤ 3 ∧ l.length ≤ 6) : wordB c l = true := by
  unfold wordB
  simp only [Bool.and_eq_true, List.all_eq_true, decide_eq_true_eq]
  exact ⟨fun x hx => by unfold inC; exact decide_eq_true (h x hx), h2⟩

theorem impl_WordOk_l0 (c : Int) (l : List Int) (hl : l.length ≤ 17592186044416) : ∀ (d i f : Nat), i + d = l.length → d < f →
    impl_WordOk.l0 f c l l (l.length : Int) (i : Int) = some ((l.drop i).all (inC c) && decide (1 ≤ c ∧ c ≤ 3 ∧ l.length ≤ 6)) := by
  intro d
  induction d with
  | zero =>
    intro i f hi hf
    obtain ⟨f, rfl⟩ : ∃ g, f = g + 1 := ⟨f - 1, by omega⟩
    simp only [impl_WordOk.l0]; rw [if_neg (by omega), List.drop_of_length_le (by omega), List.all_nil, Bool.true_and]
    unfold impl_coloursOk.f
    by_cases h : c ≥ 1
    · rw [if_pos h]; simp only [Option.bind_some]
      by_cases h2 : c ≤ 3
      · rw [if_pos (decide_eq_true h2)]; congr 1; apply decide_eq_decide.2; omega
      · rw [decide_eq_false h2, if_neg (by decide), decide_eq_false (by omega)]
    · rw [if_neg h]; simp only [Option.bind_some]; rw [if_neg (by decide), decide_eq_false (by omega)]
  | succ d ih =>
    intro i f hi hf
    obtain ⟨f, rfl⟩ : ∃ g, f = g + 1 := ⟨f - 1, by omega⟩
    simp only [impl_WordOk.l0]
    rw [if_pos (by omega), if_pos (by omega), if_pos (by omega), rd_nat l i (by omega), wr (by omega) (by omega), List.drop_eq_getElem_cons (show i < l.length by omega), List.all_cons]
    by_cases h1 : l[i] < 0
    · rw [if_pos h1, show inC c l[i] = false from decide_eq_false (by omega)]; rfl
    by_cases h2 : l[i] ≥ c
    · rw [if_neg h1, if_pos h2, show inC c l[i] = false from decide_eq_false (by omega)]; rfl
    · rw [if_neg h1, if_neg h2]
      have := ih (i + 1) f (by omega) (by omega)
      rw [show ((i : Int) + 1) = ((i + 1 : Nat) : Int) by omega, this, show inC c l[i] = true from decide_eq_true (by omega), Bool.true_and]

theorem impl_WordOk_ok (c : Int) (l : List Int) (f : Nat) (hl : l.length ≤ 17592186044416) (hf : l.length + 2 ≤ f) : impl_WordOk.f f c l = some (wordB c l) := by
  unfold impl_WordOk.f wordB
  have := impl_WordOk_l0 c l hl l.length 0 f (by omega) (by omega)
  rw [List.drop_zero] at this
  exact this

theorem spec_WordOk_l0 (c : Int) (l : List Int) (hl : l.length ≤ 17592186044416) : ∀ (d i f : Nat), i + d = l.length → d < f →
    spec_WordOk.l0 f c l (i : Int) = some ((l.drop i).all (inC c) && decide (1 ≤ c ∧ c ≤ 3 ∧ l.length ≤ 6)) := by
  intro d
  induction d with
  | zero =>
    intro i f hi hf
    obtain ⟨f, rfl⟩ : ∃ g, f = g + 1 := ⟨f - 1, by omega⟩
    simp only [spec_WordOk.l0]; rw [if_neg (by omega), List.drop_of_length_le (by omega), List.all_nil, Bool.true_and, l1In_ok]
    simp only [Option.bind_some]
    by_cases h : 1 ≤ c ∧ c ≤ 3
    · rw [if_pos (decide_eq_true h)]; congr 1; apply decide_eq_decide.2; omega
    · rw [decide_eq_false h, if_neg (by decide), decide_eq_false (by omega)]
  | succ d ih =>
    intro i f hi hf
    obtain ⟨f, rfl⟩ : ∃ g, f = g + 1 := ⟨f - 1, by omega⟩
    simp only [spec_WordOk.l0]
    rw [if_pos (by omega), if_pos (by omega), rd_nat l i (by omega), wr (by omega) (by omega), List.drop_eq_getElem_cons (show i < l.length by omega), List.all_cons]
    by_cases h1 : l[i] < 0
    · rw [if_pos h1, show inC c l[i] = false from decide_eq_false (by omega)]; rfl
    by_cases h2 : l[i] ≥ c
    · rw [if_neg h1, if_pos h2, show inC c l[i] = false from decide_eq_false (by omega)]; rfl
    · rw [if_neg h1, if_neg h2]
      have := ih (i + 1) f (by omega) (by omega)
      rw [show ((i : Int) + 1) = ((i + 1 : Nat) : Int) by omega, this, show inC c l[i] = true from decide_eq_true (by omega), Bool.true_and]

theorem spec_WordOk_ok (c : Int) (l : List Int) (f : Nat) (hl : l.length ≤ 17592186044416) (hf : l.length + 2 ≤ f) : spec_WordOk.f f c l = some (wordB c l) := by
  unfold spec_WordOk.f wordB
  have := spec_WordOk_l0 c l hl l.length 0 f (by omega) (by omega)
  rw [List.drop_zero] at this
  exact this

/-- runs, longest run and the run at hand, after so many draws -/
def st (l : List Int) : Nat → Nat × Nat × Nat
  | 0 => (0, 0, 0)
  | i + 1 =>
    if i = 0 ∨ l.getD (i - 1) 0 ≠ l.getD i 0 then ((st l i).1 + 1, max (st l i).2.1 1, 1)
    else ((st l i).1, max (st l i).2.1 ((st l i).2.2 + 1), (st l i).2.2 + 1)

def runsN (l : List Int) : Nat := (st l l.length).1
def longN (l : List Int) : Nat := (st l l.length).2.1

theorem st_le (l : List Int) (i : Nat) : (st l i).1 ≤ i ∧ (st l i).2.1 ≤ i ∧ (st l i).2.2 ≤ i := by
  induction i with
  | zero => simp [st]
  | succ i ih =>
    unfold st
    split
    · refine ⟨by show (st l i).1 + 1 ≤ _; omega, ?_, by show 1 ≤ _; omega⟩
      show max (st l i).2.1 1 ≤ _
      omega
    · refine ⟨by show (st l i).1 ≤ _; omega, ?_, by show (st l i).2.2 + 1 ≤ _; omega⟩
      show max (st l i).2.1 ((st l i).2.2 + 1) ≤ _
      omega

theorem st_new (l : List Int) (i : Nat) (h : i = 0 ∨ l.getD (i - 1) 0 ≠ l.getD i 0) : st l (i + 1) = ((st l i).1 + 1, max (st l i).2.1 1, 1) := by
  conv => lhs; unfold st
  rw [if_pos h]

theorem st_old (l : List Int) (i : Nat) (h : ¬ (i = 0 ∨ l.getD (i - 1) 0 ≠ l.getD i 0)) : st l (i + 1) = ((st l i).1, max (st l i).2.1 ((st l i).2.2 + 1), (st l i).2.2 + 1) := by
  conv => lhs; unfold st
  rw [if_neg h]

theorem mx_nat (a b : Nat) : mx (a : Int) (b : Int) = ((max a b : Nat) : Int) := by
  unfold mx; split <;> omega

theorem impl_runsOf_l0 (l : List Int) (hl : l.length ≤ 17592186044416) : ∀ (d i f : Nat), i + d = l.length → d < f →
    impl_runsOf.l0 f l ((st l i).1 : Int) ((st l i).2.1 : Int) ((st l i).2.2 : Int) l (l.length : Int) (i : Int) = some ((runsN l : Int), (longN l : Int)) := by
  intro d
  induction d with
  | zero =>
    intro i f hi hf
    obtain ⟨f, rfl⟩ : ∃ g, f = g + 1 := ⟨f - 1, by omega⟩
    obtain rfl : i = l.length := by omega
    simp only [impl_runsOf.l0]; rw [if_neg (by omega)]; rfl
  | succ d ih =>
    intro i f hi hf
    obtain ⟨f, rfl⟩ : ∃ g, f = g + 1 := ⟨f - 1, by omega⟩
    have hs := st_le l i
    have := ih (i + 1) f (by omega) (by omega)
    have m1 : mx ((st l i).2.1 : Int) (0 + 1) = ((max (st l i).2.1 1 : Nat) : Int) := mx_nat _ 1
    have m2 : mx ((st l i).2.1 : Int) (((st l i).2.2 : Int) + 1) = ((max (st l i).2.1 ((st l i).2.2 + 1) : Nat) : Int) := mx_nat _ ((st l i).2.2 + 1)
    simp only [impl_runsOf.l0]
    rw [if_pos (by omega), if_pos (by omega), if_pos (by omega), wr (n := ((st l i).1 : Int) + 1) (by omega) (by omega), wr (n := ((st l i).2.2 : Int) + 1) (by omega) (by omega), wr (n := (i : Int) + 1) (by omega) (by omega), m1, m2]
    by_cases h0 : i = 0
    · rw [st_new l i (.inl h0)] at this
      rw [if_pos (by omega)]
      exact this
    · rw [if_neg (by omega), wr (n := (i : Int) - 1) (by omega) (by omega), if_pos (by omega), if_pos (by omega), show (i : Int) - 1 = ((i - 1 : Nat) : Int) by omega, rd_getD, rd_getD]
      by_cases h1 : l.getD (i - 1) 0 = l.getD i 0
      · rw [st_old l i (fun c => c.elim h0 (fun c => c h1))] at this
        rw [if_pos h1]
        exact this
      · rw [st_new l i (.inr h1)] at this
        rw [if_neg h1]
        exact this

theorem impl_runsOf_ok (l : List Int) (f : Nat) (hl : l.length ≤ 17592186044416) (hf : l.length + 2 ≤ f) : impl_runsOf.f f l = some ((runsN l : Int), (longN l : Int)) := by
  unfold impl_runsOf.f
  exact impl_runsOf_l0 l hl l.length 0 f (by omega) (by omega)

def runsW (c : Int) (l : List Int) : Int := if wordB c l = true then (runsN l : Int) else -1

theorem impl_RunsOf_ok (c : Int) (l : List Int) (f : Nat) (hl : l.length ≤ 17592186044416) (hf : l.length + 2 ≤ f) : impl_RunsOf.f f c l = some (runsW c l) := by
  unfold impl_RunsOf.f runsW
  rw [impl_WordOk_ok c l f hl hf]; simp only [Option.bind_some]
  split
  · rw [impl_runsOf_ok l f hl hf]; rfl
  · rfl

def longW (c : Int) (l : List Int) : Int := if wordB c l = true then (longN l : Int) else -1

theorem impl_LongestRun_ok (c : Int) (l : List Int) (f : Nat) (hl : l.length ≤ 17592186044416) (hf : l.length + 2 ≤ f) : impl_LongestRun.f f c l = some (longW c l) := by
  unfold impl_LongestRun.f longW
  rw [impl_WordOk_ok c l f hl hf]; simp only [Option.bind_some]
  split
  · rw [impl_runsOf_ok l f hl hf]; rfl
  · rfl

theorem spec_LongestRun_l0 (l : List Int) (hl : l.length ≤ 17592186044416) : ∀ (d i f : Nat), i + d = l.length → d < f →
    spec_LongestRun.l0 f l ((st l i).2.1 : Int) ((st l i).2.2 : Int) (i : Int) = some (longN l : Int) := by
  intro d
  induction d with
  | zero =>
    intro i f hi hf
    obtain ⟨f, rfl⟩ : ∃ g, f = g + 1 := ⟨f - 1, by omega⟩
    obtain rfl : i = l.length := by omega
    simp only [spec_LongestRun.l0]; rw [if_neg (by omega)]; rfl
  | succ d ih =>
    intro i f hi hf
    obtain ⟨f, rfl⟩ : ∃ g, f = g + 1 := ⟨f - 1, by omega⟩
    have hs := st_le l i
    have := ih (i + 1) f (by omega) (by omega)
    have m1 : mx ((st l i).2.1 : Int) (0 + 1) = ((max (st l i).2.1 1 : Nat) : Int) := mx_nat _ 1
    have m2 : mx ((st l i).2.1 : Int) (((st l i).2.2 : Int) + 1) = ((max (st l i).2.1 ((st l i).2.2 + 1) : Nat) : Int) := mx_nat _ ((st l i).2.2 + 1)
    simp only [spec_LongestRun.l0]
    rw [if_pos (by omega), wr (n := ((st l i).2.2 : Int) + 1) (by omega) (by omega), wr (n := (i : Int) + 1) (by omega) (by omega), m1, m2]
    by_cases h0 : i = 0
    · subst h0
      rw [st_new l 0 (.inl rfl)] at this
      rw [if_neg (by omega)]
      exact this
    · rw [if_pos (by omega), if_pos (by omega), wr (n := (i : Int) - 1) (by omega) (by omega), if_pos (by omega), if_pos (by omega), show (i : Int) - 1 = ((i - 1 : Nat) : Int) by omega, rd_getD, rd_getD]
      by_cases h1 : l.getD (i - 1) 0 = l.getD i 0
      · rw [st_old l i (fun c => c.elim h0 (fun c => c h1))] at this
        rw [if_pos h1.symm]
        exact this
      · rw [st_new l i (.inr h1)] at this
        rw [if_neg (fun c => h1 c.symm)]
        exact this

theorem spec_LongestRun_ok (c : Int) (l : List Int) (f : Nat) (hl : l.length ≤ 17592186044416) (hf : l.length + 2 ≤ f) : spec_LongestRun.f f c l = some (longW c l) := by
  unfold spec_LongestRun.f longW
  rw [spec_WordOk_ok c l f hl hf]; simp only [Option.bind_some]
  split
  · exact spec_LongestRun_l0 l hl l.length 0 f (by omega) (by omega)
  · rfl

/-- a check holds at p and at all words that go on from it by at most so many draws of three colours -/
def goesOn (t : List Int → Bool) : Nat → List Int → Bool
  | 0, p => t p
  | d + 1, p => t p && goesOn t d (p ++ [0]) && goesOn t d (p ++ [1]) && goesOn t d (p ++ [2])

theorem goesOn_all (t : List Int → Bool) : ∀ (s : List Int) (d : Nat) (p : List Int), s.length ≤ d → (∀ x ∈ s, 0 ≤ x ∧ x < 3) → goesOn t d p = true → t (p ++ s) = true := by
  intro s
  induction s with
  | nil =>
    intro d p _ _ h
    rw [List.append_nil]
    cases d with
    | zero => exact h
    | succ d => simp only [goesOn, Bool.and_eq_true] at h; exact h.1.1.1
  | cons x s ih =>
    intro d p hd hx h
    cases d with
    | zero => simp at hd
    | succ d =>
      simp only [goesOn, Bool.and_eq_true] at h
      have hx0 := hx x (by simp)
      have hs : ∀ y ∈ s, 0 ≤ y ∧ y < 3 := fun y hy => hx y (by simp [hy])
      have hl : s.length ≤ d := by simp at hd; omega
      rw [show p ++ x :: s = (p ++ [x]) ++ s by simp]
      rcases (show x = 0 ∨ x = 1 ∨ x = 2 by omega) with rfl | rfl | rfl
      · exact ih d _ hl hs h.1.1.2
      · exact ih d _ hl hs h.1.2
      · exact ih d _ hl hs h.2

theorem rev_step (l : List Int) (i : Nat) (h : i < l.length) : [l[i]] ++ (l.take i).reverse = (l.take (i + 1)).reverse := by
  rw [List.take_succ_eq_append_getElem h, List.reverse_append]; rfl

theorem alive_ok (f : Nat) (hf : 5 ≤ f) : laws_alive.f f = some true := by
  obtain ⟨f, rfl⟩ : ∃ g, f = g + 5 := ⟨f - 5, by omega⟩
  have h1 : impl_UrnOk.f (f + 5) [1] = some true := by
    simp [impl_UrnOk.f, impl_UrnOk.l0, impl_coloursOk.f, rd, wrap64]
  have h2 : impl_UrnOk.f (f + 5) [] = some false := by
    simp [impl_UrnOk.f, impl_UrnOk.l0, impl_coloursOk.f]
  unfold laws_alive.f
  rw [h1, h2]; rfl

theorem odd_dr {b : List Int} (hb : ∀ x ∈ b, 0 ≤ x ∧ x < 256) (hl : b.length ≤ 2000) {p : Int} (n : Int) (hp0 : 0 ≤ p) (hp1 : p < 1000000000) :
    Dr (fun k => spec_l20Rd_odd.f k b p n) (fun r => 0 ≤ r.2 ∧ r.2 ≤ p + 1) := by
  unfold spec_l20Rd_odd.f
  by_cases h : n > 0
  · refine Dr.ifp h ?_
    refine Dr.bind (pick_dr hb hl n hp0 hp1) fun r ⟨_, _, _, _⟩ => ?_
    exact Dr.now _ ⟨by omega, by omega⟩
  · refine Dr.ifn h ?_
    exact Dr.now _ ⟨hp0, by omega⟩

theorem word_l0 {b : List Int} (hb : ∀ x ∈ b, 0 ≤ x ∧ x < 256) (hl : b.length ≤ 2000) (m n : Int) : ∀ (d : Nat) (y : List Int) (p : Int), y.length + d ≤ 50 → 0 ≤ p → p + d < 100000 →
    Dr (fun k => spec_l20Word.l0 k m n y (d : Int) b p) (fun r => r.1.length ≤ 60 ∧ 0 ≤ r.2 ∧ r.2 ≤ p + d + 2) := by
  intro d
  induction d with
  | zero =>
    intro y p hy h0 h1
    refine Dr.up ?_
    simp only [spec_l20Word.l0]
    refine Dr.ifn (by omega) ?_
    refine Dr.bind (odd_dr hb hl n h0 (by omega)) fun r ⟨_, _⟩ => ?_
    by_cases h : r.1 = true
    · refine Dr.ifp h ?_
      refine Dr.bind (pick_dr hb hl 2 (by omega) (by omega)) fun r2 ⟨_, _, _, _⟩ => ?_
      by_cases h2 : r2.1 = 0
      · refine Dr.ifp h2 ?_
        refine Dr.ifp (by omega) ?_
        exact Dr.now _ ⟨by simp; omega, by show 0 ≤ r2.2; omega, by show r2.2 ≤ _; omega⟩
      · refine Dr.ifn h2 ?_
        exact Dr.now _ ⟨by simp, by show 0 ≤ r2.2; omega, by show r2.2 ≤ _; omega⟩
    · refine Dr.ifn h ?_
      exact Dr.now _ ⟨by show y.length ≤ _; omega, by show 0 ≤ r.2; omega, by show r.2 ≤ _; omega⟩
  | succ d ih =>
    intro y p hy h0 h1
    refine Dr.up ?_
    simp only [spec_l20Word.l0]
    refine Dr.ifp (by omega) ?_
    refine Dr.bind (pick_dr hb hl _ h0 (by omega)) fun r1 ⟨_, _, _, _⟩ => ?_
    refine Dr.ifp (by omega) ?_
    rw [wr (n := ((d + 1 : Nat) : Int) - 1) (by omega) (by omega), show ((d + 1 : Nat) : Int) - 1 = (d : Int) by omega]
    refine Dr.mono ?_ (ih _ r1.2 (by simp; omega) (by omega) (by omega))
    intro r ⟨g1, g2, g3⟩
    exact ⟨g1, g2, by omega⟩

theorem word_dr {b : List Int} (hb : ∀ x ∈ b, 0 ≤ x ∧ x < 256) (hl : b.length ≤ 2000) {p : Int} (m n : Int) (hp0 : 0 ≤ p) (hp1 : p < 10000) :
    Dr (fun k => spec_l20Word.f k b p m n) (fun r => r.1.length ≤ 60 ∧ 0 ≤ r.2 ∧ r.2 ≤ p + 10) := by
  unfold spec_l20Word.f
  refine Dr.bind (pick_dr hb hl 5 hp0 (by omega)) fun r1 ⟨_, _, _, _⟩ => ?_
  obtain ⟨d, hd⟩ := Int.eq_ofNat_of_zero_le (show 0 ≤ r1.1 by omega)
  rw [hd]
  refine Dr.mono ?_ (word_l0 hb hl m n d [] r1.2 (by simp; omega) (by omega) (by omega))
  intro r ⟨g1, g2, g3⟩
  exact ⟨g1, g2, by omega⟩

theorem draw_counts {l : List Int} (hl : ∀ x ∈ l, (Lit.int .u8 x).wf = true) :
    Dr (fun k => spec_DrawCountsOf.f k l) (fun r => r.2.length ≤ 60) := by
  unfold spec_DrawCountsOf.f
  refine Dr.bind (open_dr hl) fun b ⟨b0, b1, b2⟩ => ?_
  refine Dr.bind (pick_dr b1 b2 3 (by omega) (by omega)) fun r1 ⟨_, _, _, _⟩ => ?_
  refine Dr.bind (word_dr b1 b2 _ 9 (by omega) (by omega)) fun r2 ⟨_, _, _⟩ => ?_
  exact Dr.now _ ‹r2.1.length ≤ 60›


/-- from behind as long; with the runs it bounds the draws -/
def longTest (l : List Int) : Bool :=
  longN l.reverse == longN l && decide (l.length ≤ longN l * runsN l) && decide (l.length = 0 ∨ longN l + runsN l - 1 ≤ l.length) && decide (l.length > 0 ∨ longN l = 0)

set_option maxRecDepth 100000 in
theorem longTest_all : goesOn longTest 6 [] = true := by decide +kernel

theorem long_facts {c : Int} {l : List Int} (h : wordB c l = true) :
    longN l.reverse = longN l ∧ l.length ≤ longN l * runsN l ∧ (l.length = 0 ∨ longN l + runsN l - 1 ≤ l.length) ∧ (l.length > 0 ∨ longN l = 0) := by
  obtain ⟨h1, h2, h3, h4⟩ := wordB_some h
  have := goesOn_all longTest l 6 [] h4 (fun x hx => by have := h1 x hx; omega) longTest_all
  rw [List.nil_append] at this
  unfold longTest at this
  simp only [Bool.and_eq_true, beq_iff_eq, decide_eq_true_eq] at this
  exact ⟨this.1.1.1, this.1.1.2, this.1.2, this.2⟩

theorem longest_l0 (c : Int) (l : List Int) (hw : wordB c l = true) : ∀ (d i f : Nat), i + d = l.length → d + 200 ≤ f →
    laws_FnLongestRun.l0 f c l (longN l : Int) (l.take i).reverse (i : Int) = some true := by
  obtain ⟨h1, h2, h3, h4⟩ := wordB_some hw
  intro d
  induction d with
  | zero =>
    intro i f hi hf
    obtain ⟨f, rfl⟩ : ∃ g, f = g + 1 := ⟨f - 1, by omega⟩
    have hb : wordB c l.reverse = true := wordB_mk (fun x hx => h1 x (List.mem_reverse.1 hx)) ⟨h2, h3, by simpa using h4⟩
    obtain ⟨g1, g2, g3, g4⟩ := long_facts hw
    have b1 := st_le l l.length
    have b1' : runsN l ≤ 6 := by unfold runsN; omega
    have b2' : longN l ≤ 6 := by unfold longN; omega
    have b3 : longN l * runsN l ≤ 6 * 6 := Nat.mul_le_mul b2' b1'
    simp only [laws_FnLongestRun.l0]
    rw [if_neg (by omega), List.take_of_length_le (show l.length ≤ i by omega)]
    rw [impl_RunsOf_ok c _ f (by omega) (by omega), impl_LongestRun_ok c _ f (by simp; omega) (by simp; omega)]
    simp only [Option.bind_some, alive_ok f (show 5 ≤ f by omega)]
    unfold runsW longW
    rw [if_pos hb, if_pos hw, g1, if_pos rfl, ← Int.natCast_mul, wr (n := ((longN l * runsN l : Nat) : Int)) (by omega) (by omega), if_pos (by omega),
      wr (n := (longN l : Int) + (runsN l : Int)) (by omega) (by omega), wr (n := (longN l : Int) + (runsN l : Int) - 1) (by omega) (by omega)]
    by_cases h0 : (l.length : Int) = 0
    · rw [if_pos h0, if_neg (by omega), if_pos (by omega)]
    · rw [if_neg h0, if_pos (by omega), if_pos (by omega)]
  | succ d ih =>
    intro i f hi hf
    obtain ⟨f, rfl⟩ : ∃ g, f = g + 1 := ⟨f - 1, by omega⟩
    simp only [laws_FnLongestRun.l0, Option.bind_some]
    rw [if_pos (by omega), if_pos (by omega), if_pos (by simp; omega), rd_nat l i (by omega), rev_step l i (by omega), wr (n := (i : Int) + 1) (by omega) (by omega)]
    exact ih (i + 1) f (by omega) (by omega)

theorem FnLongestRun : laws_FnLongestRun.Pure := by
  intro l _ _ hu
  obtain ⟨⟨c, r⟩, ⟨K, hK⟩, hr⟩ := draw_counts hu
  have hr' : r.length ≤ 60 := hr
  have hd : spec_DrawLongestRun.f (K + 500) l = some (c, r) := by
    have : spec_DrawCountsOf.f (K + 500) l = some (c, r) := hK _ (by omega)
    unfold spec_DrawLongestRun.f; rw [this]; rfl
  refine ⟨K + 500, ?_⟩
  unfold laws_FnLongestRun.f
  by_cases hlen : (l.length : Int) > 1048576
  · rw [if_pos hlen]
  rw [if_neg hlen, hd]; simp only [Option.bind_some]
  rw [impl_LongestRun_ok c r _ (by omega) (by omega)]; simp only [Option.bind_some]
  rw [spec_LongestRun_ok c r _ (by omega) (by omega)]; simp only [Option.bind_some, if_true]
  by_cases hw : wordB c r = true
  · have e : longW c r = (longN r : Int) := by unfold longW; rw [if_pos hw]
    rw [e, if_neg (by omega)]
    exact longest_l0 c r hw r.length 0 (K + 500) (by omega) (by omega)
  · have e : longW c r = -1 := by unfold longW; rw [if_neg hw]
    rw [e, impl_WordOk_ok c r _ (by omega) (by omega), show wordB c r = false by simpa using hw, alive_ok _ (by omega)]
    simp

end Go.Proofs.Ytmjlbkejlbckoaa.Pure
