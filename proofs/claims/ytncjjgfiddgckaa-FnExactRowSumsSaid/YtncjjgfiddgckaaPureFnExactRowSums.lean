/- FnExactRowSums: for all arguments that the statement lets in, the law answers true. No condition of ours. -/
import Derived.Test.YtncjjgfiddgckaaPFnExactRowSumsx2
namespace Go.Proofs.Ytncjjgfiddgckaa.Pure
open Go.RowKit Go.Proofs.Ytncjjgfiddgckaa.PFnExactRowSums Go.Proofs.YtncjjgfiddgckaaW.PrintWords Go.Proofs.YtncjjgfiddgckaaW.PrintLast

theorem wr {n : Int} (h0 : -9223372036854775808 ≤ n) (h1 : n < 9223372036854775808) : wrap64 n = n := by unfold wrap64; omega
theorem wrap_lo (x : Int) : -9223372036854775808 ≤ wrap64 x := by unfold wrap64; omega
theorem wrap_hi (x : Int) : wrap64 x < 9223372036854775808 := by unfold wrap64; omega

theorem rd_nat (l : List Int) (i : Nat) (h : i < l.length) : rd l (i : Int) = l[i] := by
  unfold rd
  rw [Int.toNat_natCast, List.getD_eq_getElem?_getD, List.getElem?_eq_getElem h]; rfl

theorem rd_getD (l : List Int) (i : Nat) : rd l (i : Int) = l.getD i 0 := by
  unfold rd; rw [Int.toNat_natCast]

theorem toIntS_l0 (l : List Int) (hl : l.length ≤ 17592186044416) : ∀ (d i f : Nat) (y : List Int), i + d = l.length → d < f → y.length = l.length → y.take i = l.take i →
    laws_toIntS.l0 f l y (i : Int) = some l := by
  intro d
  induction d with
  | zero =>
    intro i f y hi hf hy ht
    obtain ⟨f, rfl⟩ : ∃ g, f = g + 1 := ⟨f - 1, by omega⟩
    simp only [laws_toIntS.l0]; rw [if_neg (by omega)]
    rw [List.take_of_length_le (by omega), List.take_of_length_le (by omega)] at ht
    rw [ht]
  | succ d ih =>
    intro i f y hi hf hy ht
    obtain ⟨f, rfl⟩ : ∃ g, f = g + 1 := ⟨f - 1, by omega⟩
    simp only [laws_toIntS.l0]
    rw [if_pos (by omega), if_pos (by omega), if_pos (by omega), Int.toNat_natCast, rd_nat l i (by omega), wr (by omega) (by omega)]
    refine ih (i + 1) f (y.set i l[i]) (by omega) (by omega) (by simpa using hy) ?_
    rw [List.take_succ_eq_append_getElem (by simp; omega), List.take_succ_eq_append_getElem (by omega)]
    rw [List.take_set_of_le (by omega), ht]
    congr 1; simp

theorem toIntS_ok (l : List Int) (f : Nat) (hl : l.length ≤ 17592186044416) (hf : l.length + 2 ≤ f) : laws_toIntS.f f l = some l := by
  unfold laws_toIntS.f
  rw [if_pos (by omega), Int.toNat_natCast, if_pos (by omega)]
  exact toIntS_l0 l hl l.length 0 f _ (by omega) (by omega) (by simp) rfl

theorem eqIntS_l0 (a b : List Int) (hab : a.length = b.length) (hl : a.length ≤ 17592186044416) : ∀ (d i f : Nat), i + d = a.length → d < f →
    laws_eqIntS.l0 f a b (i : Int) = some (decide (a.drop i = b.drop i)) := by
  intro d
  induction d with
  | zero =>
    intro i f hi hf
    obtain ⟨f, rfl⟩ : ∃ g, f = g + 1 := ⟨f - 1, by omega⟩
    simp only [laws_eqIntS.l0]; rw [if_neg (by omega), List.drop_of_length_le (by omega), List.drop_of_length_le (by omega)]; rfl
  | succ d ih =>
    intro i f hi hf
    obtain ⟨f, rfl⟩ : ∃ g, f = g + 1 := ⟨f - 1, by omega⟩
    simp only [laws_eqIntS.l0]
    rw [if_pos (by omega), if_pos (by omega), if_pos (by omega), rd_nat a i (by omega), rd_nat b i (by omega), wr (by omega) (by omega)]
    rw [List.drop_eq_getElem_cons (show i < a.length by omega), List.drop_eq_getElem_cons (show i < b.length by omega)]
    by_cases h : a[i] = b[i]
    · rw [if_pos h]
      have := ih (i + 1) f (by omega) (by omega)
      rw [show ((i : Int) + 1) = ((i + 1 : Nat) : Int) by omega, this, h]
      congr 1; apply decide_eq_decide.2; exact ⟨fun c => by rw [c], fun c => (List.cons.inj c).2⟩
    · rw [if_neg h, decide_eq_false (fun c => h (List.cons.inj c).1)]

theorem eqIntS_ok (a b : List Int) (f : Nat) (hl : a.length ≤ 17592186044416) (hf : a.length + 2 ≤ f) : laws_eqIntS.f f a b = some (decide (a = b)) := by
  unfold laws_eqIntS.f
  by_cases h : (a.length : Int) = (b.length : Int)
  · rw [if_pos h]
    have := eqIntS_l0 a b (by omega) hl a.length 0 f (by omega) (by omega)
    rw [List.drop_zero, List.drop_zero] at this
    exact this
  · rw [if_neg h, decide_eq_false (fun c => h (by rw [c]))]

theorem l1In_ok (a b c : Int) : spec_l1In.f a b c = some (decide (b ≤ a ∧ a ≤ c)) := by
  unfold spec_l1In.f
  by_cases h : a ≥ b
  · rw [if_pos h]; simp [h]
  · rw [if_neg h]; simp; omega

def inB (x : Int) : Bool := decide (0 ≤ x ∧ x ≤ 100000)

/-- a row of weights -/
def mixB (l : List Int) : Bool := l.all inB && decide (1 ≤ l.length ∧ l.length ≤ 9)

theorem mixB_len {l : List Int} (h : mixB l = true) : 1 ≤ l.length ∧ l.length ≤ 9 := by
  unfold mixB at h; simp only [Bool.and_eq_true, decide_eq_true_eq] at h; exact h.2

theorem mixB_mem {l : List Int} (h : mixB l = true) : ∀ x ∈ l, 0 ≤ x ∧ x ≤ 100000 := by
  unfold mixB at h; simp only [Bool.and_eq_true, List.all_eq_true] at h
  intro x hx; have := h.1 x hx; unfold inB at this; simpa using this

theorem mixB_get {l : List Int} (h : mixB l = true) (i : Nat) : 0 ≤ l.getD i 0 ∧ l.getD i 0 ≤ 100000 := by
  rw [List.getD_eq_getElem?_getD]
  cases e : l[i]? with
  | none => simp
  | some x => exact mixB_mem h x (List.mem_of_getElem? e)

theorem impl_MixOk_l0 (l : List Int) (hl : l.length ≤ 17592186044416) : ∀ (d i f : Nat), i + d = l.length → d < f →
    impl_MixOk.l0 f l l (l.length : Int) (i : Int) = some ((l.drop i).all inB && decide (1 ≤ l.length ∧ l.length ≤ 9)) := by
  intro d
  induction d with
  | zero =>
    intro i f hi hf
    obtain ⟨f, rfl⟩ : ∃ g, f = g + 1 := ⟨f - 1, by omega⟩
    simp only [impl_MixOk.l0]; rw [if_neg (by omega), List.drop_of_length_le (by omega)]
    rw [List.all_nil, Bool.true_and]
    by_cases h : (l.length : Int) ≥ 1
    · rw [if_pos h]; congr 1; apply decide_eq_decide.2; omega
    · rw [if_neg h, decide_eq_false (by omega)]
  | succ d ih =>
    intro i f hi hf
    obtain ⟨f, rfl⟩ : ∃ g, f = g + 1 := ⟨f - 1, by omega⟩
    simp only [impl_MixOk.l0]
    rw [if_pos (by omega), if_pos (by omega), if_pos (by omega), rd_nat l i (by omega), wr (by omega) (by omega), List.drop_eq_getElem_cons (show i < l.length by omega), List.all_cons]
    by_cases h1 : l[i] < 0
    · rw [if_pos h1, show inB l[i] = false from decide_eq_false (by omega)]; rfl
    by_cases h2 : l[i] > 100000
    · rw [if_neg h1, if_pos h2, show inB l[i] = false from decide_eq_false (by omega)]; rfl
    · rw [if_neg h1, if_neg h2]
      have := ih (i + 1) f (by omega) (by omega)
      rw [show ((i : Int) + 1) = ((i + 1 : Nat) : Int) by omega, this, show inB l[i] = true from decide_eq_true (by omega), Bool.true_and]

theorem impl_MixOk_ok (l : List Int) (f : Nat) (hl : l.length ≤ 17592186044416) (hf : l.length + 2 ≤ f) : impl_MixOk.f f l = some (mixB l) := by
  unfold impl_MixOk.f mixB
  have := impl_MixOk_l0 l hl l.length 0 f (by omega) (by omega)
  rw [List.drop_zero] at this
  exact this

theorem spec_MixOk_l0 (l : List Int) (hl : l.length ≤ 17592186044416) : ∀ (d i f : Nat), i + d = l.length → d < f →
    spec_MixOk.l0 f l (i : Int) = some ((l.drop i).all inB && decide (1 ≤ l.length ∧ l.length ≤ 9)) := by
  intro d
  induction d with
  | zero =>
    intro i f hi hf
    obtain ⟨f, rfl⟩ : ∃ g, f = g + 1 := ⟨f - 1, by omega⟩
    simp only [spec_MixOk.l0]; rw [if_neg (by omega), List.drop_of_length_le (by omega), l1In_ok]
    simp only [Option.bind_some]
    rw [List.all_nil, Bool.true_and]
    congr 1; apply decide_eq_decide.2; omega
  | succ d ih =>
    intro i f hi hf
    obtain ⟨f, rfl⟩ : ∃ g, f = g + 1 := ⟨f - 1, by omega⟩
    simp only [spec_MixOk.l0]
    rw [if_pos (by omega), if_pos (by omega), rd_nat l i (by omega), l1In_ok, wr (by omega) (by omega), List.drop_eq_getElem_cons (show i < l.length by omega), List.all_cons]
    simp only [Option.bind_some]
    by_cases h : 0 ≤ l[i] ∧ l[i] ≤ 100000
    · rw [if_pos (decide_eq_true h)]
      have := ih (i + 1) f (by omega) (by omega)
      rw [show ((i : Int) + 1) = ((i + 1 : Nat) : Int) by omega, this, show inB l[i] = true from decide_eq_true h, Bool.true_and]
    · rw [if_neg (by simpa using h), show inB l[i] = false from decide_eq_false h]; rfl

theorem spec_MixOk_ok (l : List Int) (f : Nat) (hl : l.length ≤ 17592186044416) (hf : l.length + 2 ≤ f) : spec_MixOk.f f l = some (mixB l) := by
  unfold spec_MixOk.f mixB
  have := spec_MixOk_l0 l hl l.length 0 f (by omega) (by omega)
  rw [List.drop_zero] at this
  exact this

theorem mul_bd {a c A C : Int} (h0 : 0 ≤ a) (h1 : a ≤ A) (h2 : 0 ≤ c) (h3 : c ≤ C) : 0 ≤ a * c ∧ a * c ≤ A * C :=
  ⟨Int.mul_nonneg h0 h2, Int.mul_le_mul h1 h3 h2 (by omega)⟩

theorem elem_ok {a b c e : Int} (ha : 0 ≤ a ∧ a ≤ 100000) (hb : 0 ≤ b ∧ b ≤ 100000) (hc : 0 ≤ c ∧ c ≤ 9) (he : 0 ≤ e ∧ e ≤ 9) :
    wrap64 ((wrap64 (a * c)) + (wrap64 (b * e))) = a * c + b * e := by
  have h1 := mul_bd ha.1 ha.2 hc.1 hc.2
  have h2 := mul_bd hb.1 hb.2 he.1 he.2
  rw [wr (n := a * c) (by omega) (by omega), wr (n := b * e) (by omega) (by omega), wr (by omega) (by omega)]

theorem range_snoc (g : Nat → Int) (i : Nat) : (List.range i).map g ++ [g i] = (List.range (i + 1)).map g := by
  rw [List.range_succ, List.map_append]; rfl

/-- the row, if it is one -/
def fin (l : List Int) : List Int × Bool := if mixB l = true then (l, true) else ([], false)

/-- sum of f 0 .. f (n-1) -/
def SZ (f : Nat → Int) : Nat → Int
  | 0 => 0
  | n + 1 => SZ f n + f n

theorem SZ_succ (f : Nat → Int) (n : Nat) : SZ f (n + 1) = SZ f n + f n := rfl

theorem SZ_congr {f g : Nat → Int} {n : Nat} (h : ∀ k, k < n → f k = g k) : SZ f n = SZ g n := by
  induction n with
  | zero => rfl
  | succ n ih => rw [SZ_succ, SZ_succ, ih (fun k hk => h k (by omega)), h n (by omega)]

theorem SZ_add (f g : Nat → Int) (n : Nat) : SZ (fun k => f k + g k) n = SZ f n + SZ g n := by
  induction n with
  | zero => rfl
  | succ n ih => rw [SZ_succ, SZ_succ, SZ_succ, ih]; omega

theorem SZ_mul (c : Int) (f : Nat → Int) (n : Nat) : SZ (fun k => f k * c) n = SZ f n * c := by
  induction n with
  | zero => simp [SZ]
  | succ n ih => rw [SZ_succ, SZ_succ, ih, Int.add_mul]

theorem SZ_front (f : Nat → Int) (n : Nat) : SZ f (n + 1) = f 0 + SZ (fun k => f (k + 1)) n := by
  induction n with
  | zero => simp [SZ]
  | succ n ih => rw [SZ_succ, ih, SZ_succ]; omega

theorem SZ_bd {f : Nat → Int} {B : Int} {n : Nat} (h : ∀ k, k < n → 0 ≤ f k ∧ f k ≤ B) : 0 ≤ SZ f n ∧ SZ f n ≤ n * B := by
  induction n with
  | zero => simp [SZ]
  | succ n ih =>
    have h1 := ih (fun k hk => h k (by omega))
    have h2 := h n (by omega)
    rw [SZ_succ]
    refine ⟨by omega, ?_⟩
    rw [show ((n + 1 : Nat) : Int) * B = n * B + B by rw [show ((n + 1 : Nat) : Int) = (n : Int) + 1 by omega, Int.add_mul, Int.one_mul]]
    omega

def sumL (l : List Int) : Int := SZ (fun k => l.getD k 0) l.length
def wsumL (l : List Int) : Int := SZ (fun k => (k : Int) * l.getD k 0) l.length
def sumsR (l : List Int) : Int × Int × Bool := if mixB l = true then (sumL l, wsumL l, true) else (0, 0, false)

theorem sum_bd {l : List Int} (h : mixB l = true) (i : Nat) (hi : i ≤ 9) : 0 ≤ SZ (fun k => l.getD k 0) i ∧ SZ (fun k => l.getD k 0) i ≤ 900000 := by
  have := SZ_bd (f := fun k => l.getD k 0) (B := 100000) (n := i) (fun k _ => mixB_get h k)
  omega

theorem wsum_bd {l : List Int} (h : mixB l = true) (i : Nat) (hi : i ≤ 9) : 0 ≤ SZ (fun k => (k : Int) * l.getD k 0) i ∧ SZ (fun k => (k : Int) * l.getD k 0) i ≤ 8100000 := by
  have := SZ_bd (f := fun k => (k : Int) * l.getD k 0) (B := 900000) (n := i) (fun k hk => by
    have h1 := mixB_get h k
    have := mul_bd (a := (k : Int)) (A := 9) (by omega) (by omega) h1.1 h1.2
    omega)
  omega

theorem impl_sum_l0 (l : List Int) (h : mixB l = true) : ∀ (d i f : Nat), i + d = l.length → d < f →
    impl_sum.l0 f (SZ (fun k => l.getD k 0) i) l (l.length : Int) (i : Int) = some (sumL l) := by
  have hlen := mixB_len h
  intro d
  induction d with
  | zero =>
    intro i f hi hf
    obtain ⟨f, rfl⟩ : ∃ g, f = g + 1 := ⟨f - 1, by omega⟩
    obtain rfl : i = l.length := by omega
    simp only [impl_sum.l0]; rw [if_neg (by omega)]; rfl
  | succ d ih =>
    intro i f hi hf
    obtain ⟨f, rfl⟩ : ∃ g, f = g + 1 := ⟨f - 1, by omega⟩
    have h1 := sum_bd h i (by omega)
    have h2 := mixB_get h i
    simp only [impl_sum.l0]
    rw [if_pos (by omega), if_pos (by omega), if_pos (by omega), rd_getD, wr (n := SZ (fun k => l.getD k 0) i + l.getD i 0) (by omega) (by omega), wr (n := (i : Int) + 1) (by omega) (by omega)]
    exact ih (i + 1) f (by omega) (by omega)

theorem impl_sum_ok (l : List Int) (h : mixB l = true) (f : Nat) (hf : 12 ≤ f) : impl_sum.f f l = some (sumL l) := by
  have hlen := mixB_len h
  unfold impl_sum.f
  exact impl_sum_l0 l h l.length 0 f (by omega) (by omega)

theorem impl_RowSums_l0 (l : List Int) (h : mixB l = true) : ∀ (d i f : Nat), i + d = l.length → d + 20 ≤ f →
    impl_RowSums.l0 f l (SZ (fun k => (k : Int) * l.getD k 0) i) l (l.length : Int) (i : Int) = some (sumL l, wsumL l, true) := by
  have hlen := mixB_len h
  intro d
  induction d with
  | zero =>
    intro i f hi hf
    obtain ⟨f, rfl⟩ : ∃ g, f = g + 1 := ⟨f - 1, by omega⟩
    obtain rfl : i = l.length := by omega
    simp only [impl_RowSums.l0]; rw [if_neg (by omega), impl_sum_ok l h f (by omega)]; rfl
  | succ d ih =>
    intro i f hi hf
    obtain ⟨f, rfl⟩ : ∃ g, f = g + 1 := ⟨f - 1, by omega⟩
    have h1 := wsum_bd h i (by omega)
    have h2 := mixB_get h i
    have h3 := mul_bd (a := (i : Int)) (A := 9) (by omega) (by omega) h2.1 h2.2
    simp only [impl_RowSums.l0]
    rw [if_pos (by omega), if_pos (by omega), if_pos (by omega), rd_getD, wr (n := (i : Int) * l.getD i 0) (by omega) (by omega),
      wr (n := SZ (fun k => (k : Int) * l.getD k 0) i + (i : Int) * l.getD i 0) (by omega) (by omega), wr (n := (i : Int) + 1) (by omega) (by omega)]
    exact ih (i + 1) f (by omega) (by omega)

theorem impl_RowSums_ok (l : List Int) (f : Nat) (hl : l.length ≤ 17592186044416) (hf : l.length + 40 ≤ f) : impl_RowSums.f f l = some (sumsR l) := by
  unfold impl_RowSums.f sumsR
  rw [impl_MixOk_ok l f hl (by omega)]; simp only [Option.bind_some]
  by_cases h : mixB l = true
  · rw [if_pos h, if_pos h]
    have hlen := mixB_len h
    exact impl_RowSums_l0 l h l.length 0 f (by omega) (by omega)
  · rw [if_neg h, if_neg h]

theorem spec_RowSums_l0 (l : List Int) (h : mixB l = true) : ∀ (d i f : Nat), i + d = l.length → d + 20 ≤ f →
    spec_RowSums.l0 f l (SZ (fun k => l.getD k 0) i) (SZ (fun k => (k : Int) * l.getD k 0) i) (i : Int) = some (sumL l, wsumL l, true) := by
  have hlen := mixB_len h
  intro d
  induction d with
  | zero =>
    intro i f hi hf
    obtain ⟨f, rfl⟩ : ∃ g, f = g + 1 := ⟨f - 1, by omega⟩
    obtain rfl : i = l.length := by omega
    simp only [spec_RowSums.l0]; rw [if_neg (by omega)]; rfl
  | succ d ih =>
    intro i f hi hf
    obtain ⟨f, rfl⟩ : ∃ g, f = g + 1 := ⟨f - 1, by omega⟩
    have h1 := wsum_bd h i (by omega)
    have h0 := sum_bd h i (by omega)
    have h2 := mixB_get h i
    have h3 := mul_bd (a := (i : Int)) (A := 9) (by omega) (by omega) h2.1 h2.2
    simp only [spec_RowSums.l0]
    rw [if_pos (by omega), if_pos (by omega), rd_getD, wr (n := (i : Int) * l.getD i 0) (by omega) (by omega), wr (n := SZ (fun k => l.getD k 0) i + l.getD i 0) (by omega) (by omega),
      wr (n := SZ (fun k => (k : Int) * l.getD k 0) i + (i : Int) * l.getD i 0) (by omega) (by omega), wr (n := (i : Int) + 1) (by omega) (by omega)]
    exact ih (i + 1) f (by omega) (by omega)

theorem spec_RowSums_ok (l : List Int) (f : Nat) (hl : l.length ≤ 17592186044416) (hf : l.length + 40 ≤ f) : spec_RowSums.f f l = some (sumsR l) := by
  unfold spec_RowSums.f sumsR
  rw [spec_MixOk_ok l f hl (by omega)]; simp only [Option.bind_some]
  by_cases h : mixB l = true
  · rw [if_pos h, if_pos h]
    have hlen := mixB_len h
    exact spec_RowSums_l0 l h l.length 0 f (by omega) (by omega)
  · rw [if_neg h, if_neg h]

theorem FnExactRowSums : laws_FnExactRowSums.Pure := by
  intro l _ h8 _
  have hl : l.length ≤ 17592186044416 := by omega
  refine ⟨l.length + 101, ?_⟩
  unfold laws_FnExactRowSums.f
  by_cases hlen : (l.length : Int) > 1048576
  · rw [if_pos hlen]
  rw [if_neg hlen, toIntS_ok l _ hl (by omega)]; simp only [Option.bind_some]
  rw [spec_RowSums_ok l _ hl (by omega)]; simp only [Option.bind_some]
  rw [impl_RowSums_ok l _ hl (by omega)]; simp only [Option.bind_some, if_true, bne_self_eq_false]
  rw [show l.length + 101 = (l.length + 100) + 1 by omega]
  simp only [laws_FnExactRowSums.j0, Bool.false_eq_true, if_false]
  rw [toIntS_ok l _ hl (by omega)]; simp only [Option.bind_some]
  rw [eqIntS_ok l l _ hl (by omega)]; simp only [Option.bind_some, decide_true, if_true]

end Go.Proofs.Ytncjjgfiddgckaa.Pure
