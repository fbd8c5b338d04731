/- FnExactMixedRow: for all arguments that the statement lets in, the law answers true. No condition of ours. -/
import Derived.Test.YtncjjgfiddgckaaPFnExactMixedRowx4
namespace Go.Proofs.Ytncjjgfiddgckaa.Pure
open Go.RowKit Go.Proofs.Ytncjjgfiddgckaa.PFnExactMixedRow Go.Proofs.YtncjjgfiddgckaaW.PrintWords Go.Proofs.YtncjjgfiddgckaaW.PrintLast

theorem wr {n : Int} (h0 : -9223372036854775808 ≤ n) (h1 : n < 9223372036854775808) : wrap64 n = n := by unfold wrap64; omega
theorem wrap_lo (x : Int) : -9223372036854775808 ≤ wrap64 x := by unfold wrap64; omega
theorem wrap_hi (x : Int) : wrap64 x < 9223372036854775808 := by unfold wrap64; omega

theorem rd_nat (l : List Int) (i : Nat) (h : i < l.length) : rd l (i : Int) = l[i] := by
  unfold rd
  rw [Int.toNat_natCast, List.getD_eq_getElem?_getD, List.getElem?_eq_getElem h]; rfl

theorem rd_getD (l : List Int) (i : Nat) : rd l (i : Int) = l.getD i 0 := by
  unfold rd; rw [Int.toNat_natCast]

theorem toIntS_l0 (l : List Int) (hl : l.length ≤ 17592186044416) : ∀ (d i f : Nat) (y : List Int), i + d = l.length → d < f → y.length = l.length → y.take i = l.take i →
    laws_toIntS.l0 f l y (i : Int) = some l := by
  intro d
  induction d with
  | zero =>
    intro i f y hi hf hy ht
    obtain ⟨f, rfl⟩ : ∃ g, f = g + 1 := ⟨f - 1, by omega⟩
    simp only [laws_toIntS.l0]; rw [if_neg (by omega)]
    rw [List.take_of_length_le (by omega), List.take_of_length_le (by omega)] at ht
    rw [ht]
  | succ d ih =>
    intro i f y hi hf hy ht
    obtain ⟨f, rfl⟩ : ∃ g, f = g + 1 := ⟨f - 1, by omega⟩
    simp only [laws_toIntS.l0]
    rw [if_pos (by omega), if_pos (by omega), if_pos (by omega), Int.toNat_natCast, rd_nat l i (by omega), wr (by omega) (by omega)]
    refine ih (i + 1) f (y.set i l[i]) (by omega) (by omega) (by simpa using hy) ?_
    rw [List.take_succ_eq_append_getElem (by simp; omega), List.take_succ_eq_append_getElem (by omega)]
    rw [List.take_set_of_le (by omega), ht]
    congr 1; simp

theorem toIntS_ok (l : List Int) (f : Nat) (hl : l.length ≤ 17592186044416) (hf : l.length + 2 ≤ f) : laws_toIntS.f f l = some l := by
  unfold laws_toIntS.f
  rw [if_pos (by omega), Int.toNat_natCast, if_pos (by omega)]
  exact toIntS_l0 l hl l.length 0 f _ (by omega) (by omega) (by simp) rfl

theorem eqIntS_l0 (a b : List Int) (hab : a.length = b.length) (hl : a.length ≤ 17592186044416) : ∀ (d i f : Nat), i + d = a.length → d < f →
    laws_eqIntS.l0 f a b (i : Int) = some (decide (a.drop i = b.drop i)) := by
  intro d
  induction d with
  | zero =>
    intro i f hi hf
    obtain ⟨f, rfl⟩ : ∃ g, f = g + 1 := ⟨f - 1, by omega⟩
    simp only [laws_eqIntS.l0]; rw [if_neg (by omega), List.drop_of_length_le (by omega), List.drop_of_length_le (by omega)]; rfl
  | succ d ih =>
    intro i f hi hf
    obtain ⟨f, rfl⟩ : ∃ g, f = g + 1 := ⟨f - 1, by omega⟩
    simp only [laws_eqIntS.l0]
    rw [if_pos (by omega), if_pos (by omega), if_pos (by omega), rd_nat a i (by omega), rd_nat b i (by omega), wr (by omega) (by omega)]
    rw [List.drop_eq_getElem_cons (show i < a.length by omega), List.drop_eq_getElem_cons (show i < b.length by omega)]
    by_cases h : a[i] = b[i]
    · rw [if_pos h]
      have := ih (i + 1) f (by omega) (by omega)
      rw [show ((i : Int) + 1) = ((i + 1 : Nat) : Int) by omega, this, h]
      congr 1; apply decide_eq_decide.2; exact ⟨fun c => by rw [c], fun c => (List.cons.inj c).2⟩
    · rw [if_neg h, decide_eq_false (fun c => h (List.cons.inj c).1)]

theorem eqIntS_ok (a b : List Int) (f : Nat) (hl : a.length ≤ 17592186044416) (hf : a.length + 2 ≤ f) : laws_eqIntS.f f a b = some (decide (a = b)) := by
  unfold laws_eqIntS.f
  by_cases h : (a.length : Int) = (b.length : Int)
  · rw [if_pos h]
    have := eqIntS_l0 a b (by omega) hl a.length 0 f (by omega) (by omega)
    rw [List.drop_zero, List.drop_zero] at this
    exact this
  · rw [if_neg h, decide_eq_false (fun c => h (by rw [c]))]

def markL (m : Int) : Nat → List Int
  | 0 => []
  | n + 1 => m :: markL (m + 1) n

theorem markL_length (n : Nat) : ∀ m, (markL m n).length = n := by
  induction n with
  | zero => intro m; rfl
  | succ n ih => intro m; simp [markL, ih]

theorem markL_get (n : Nat) : ∀ (m : Int) (i : Nat) (h : i < (markL m n).length), (markL m n)[i] = m + i := by
  induction n with
  | zero => intro m i h; simp [markL] at h
  | succ n ih =>
    intro m i h
    cases i with
    | zero => simp [markL]
    | succ i => simp only [markL, List.getElem_cons_succ]; rw [ih]; omega

theorem markIntS_l0 : ∀ (d i f : Nat) (y : List Int) (m : Int), i + d = y.length → y.length ≤ 17592186044416 → d < f → 0 ≤ m → m + d ≤ 70368744177664 →
    laws_markIntS.l0 f y m (i : Int) = some (m + d, y.take i ++ markL m d) := by
  intro d
  induction d with
  | zero =>
    intro i f y m hi hl hf h0 h1
    obtain ⟨f, rfl⟩ : ∃ g, f = g + 1 := ⟨f - 1, by omega⟩
    simp only [laws_markIntS.l0]; rw [if_neg (by omega), List.take_of_length_le (by omega)]; simp [markL]
  | succ d ih =>
    intro i f y m hi hl hf h0 h1
    obtain ⟨f, rfl⟩ : ∃ g, f = g + 1 := ⟨f - 1, by omega⟩
    simp only [laws_markIntS.l0]
    rw [if_pos (by omega), if_pos (by omega), Int.toNat_natCast, wr (n := m + 1) (by omega) (by omega), wr (n := (i : Int) + 1) (by omega) (by omega)]
    have := ih (i + 1) f (y.set i m) (m + 1) (by simp; omega) (by simpa using hl) (by omega) (by omega) (by omega)
    rw [show ((i : Int) + 1) = ((i + 1 : Nat) : Int) by omega, this]
    rw [List.take_succ_eq_append_getElem (by simp; omega), List.take_set_of_le (by omega)]
    simp [markL]; omega

theorem markIntS_ok (y : List Int) (m : Int) (f : Nat) (hl : y.length ≤ 17592186044416) (hf : y.length + 2 ≤ f) (h0 : 0 ≤ m) (h1 : m ≤ 17592186044416) :
    laws_markIntS.f f y m = some (m + y.length, markL m y.length) := by
  unfold laws_markIntS.f
  have := markIntS_l0 y.length 0 f y m (by omega) hl (by omega) h0 (by omega)
  rw [List.take_zero, List.nil_append] at this
  exact this

theorem heldIntS_l0 (n : Nat) (m : Int) (h0 : 0 ≤ m) (h1 : m + n ≤ 70368744177664) : ∀ (d i f : Nat), i + d = n → d < f →
    laws_heldIntS.l0 f (markL m n) (m + i) (i : Int) = some (m + n) := by
  intro d
  induction d with
  | zero =>
    intro i f hi hf
    obtain ⟨f, rfl⟩ : ∃ g, f = g + 1 := ⟨f - 1, by omega⟩
    simp only [laws_heldIntS.l0]; rw [if_neg (by rw [markL_length]; omega), show i = n by omega]
  | succ d ih =>
    intro i f hi hf
    obtain ⟨f, rfl⟩ : ∃ g, f = g + 1 := ⟨f - 1, by omega⟩
    simp only [laws_heldIntS.l0]
    rw [if_pos (by rw [markL_length]; omega), if_pos (by omega), rd_nat _ i (by rw [markL_length]; omega), markL_get, if_pos rfl, wr (n := m + i + 1) (by omega) (by omega), wr (n := (i : Int) + 1) (by omega) (by omega)]
    have := ih (i + 1) f (by omega) (by omega)
    rw [show ((i : Int) + 1) = ((i + 1 : Nat) : Int) by omega, show m + (i : Int) + 1 = m + ((i + 1 : Nat) : Int) by omega]
    exact this

theorem heldIntS_ok (n : Nat) (m : Int) (f : Nat) (hf : n + 2 ≤ f) (h0 : 0 ≤ m) (h1 : m + n ≤ 70368744177664) : laws_heldIntS.f f (markL m n) m = some (m + n) := by
  unfold laws_heldIntS.f
  have := heldIntS_l0 n m h0 h1 n 0 f (by omega) (by omega)
  rw [show m + ((0 : Nat) : Int) = m by omega] at this
  exact this

theorem l1In_ok (a b c : Int) : spec_l1In.f a b c = some (decide (b ≤ a ∧ a ≤ c)) := by
  unfold spec_l1In.f
  by_cases h : a ≥ b
  · rw [if_pos h]; simp [h]
  · rw [if_neg h]; simp; omega

def inB (x : Int) : Bool := decide (0 ≤ x ∧ x ≤ 100000)

/-- a row of weights -/
def mixB (l : List Int) : Bool := l.all inB && decide (1 ≤ l.length ∧ l.length ≤ 9)

theorem mixB_len {l : List Int} (h : mixB l = true) : 1 ≤ l.length ∧ l.length ≤ 9 := by
  unfold mixB at h; simp only [Bool.and_eq_true, decide_eq_true_eq] at h; exact h.2

theorem mixB_mem {l : List Int} (h : mixB l = true) : ∀ x ∈ l, 0 ≤ x ∧ x ≤ 100000 := by
  unfold mixB at h; simp only [Bool.and_eq_true, List.all_eq_true] at h
  intro x hx; have := h.1 x hx; unfold inB at this; simpa using this

theorem mixB_get {l : List Int} (h : mixB l = true) (i : Nat) : 0 ≤ l.getD i 0 ∧ l.getD i 0 ≤ 100000 := by
  rw [List.getD_eq_getElem?_getD]
  cases e : l[i]? with
  | none => simp
  | some x => exact mixB_mem h x (List.mem_of_getElem? e)

theorem impl_MixOk_l0 (l : List Int) (hl : l.length ≤ 17592186044416) : ∀ (d i f : Nat), i + d = l.length → d < f →
    impl_MixOk.l0 f l l (l.length : Int) (i : Int) = some ((l.drop i).all inB && decide (1 ≤ l.length ∧ l.length ≤ 9)) := by
  intro d
  induction d with
  | zero =>
    intro i f hi hf
    obtain ⟨f, rfl⟩ : ∃ g, f = g + 1 := ⟨f - 1, by omega⟩
    simp only [impl_MixOk.l0]; rw [if_neg (by omega), List.drop_of_length_le (by omega)]
    rw [List.all_nil, Bool.true_and]
    by_cases h : (l.length : Int) ≥ 1
    · rw [if_pos h]; congr 1; apply decide_eq_decide.2; omega
    · rw [if_neg h, decide_eq_false (by omega)]
  | succ d ih =>
    intro i f hi hf
    obtain ⟨f, rfl⟩ : ∃ g, f = g + 1 := ⟨f - 1, by omega⟩
    simp only [impl_MixOk.l0]
    rw [if_pos (by omega), if_pos (by omega), if_pos (by omega), rd_nat l i (by omega), wr (by omega) (by omega), List.drop_eq_getElem_cons (show i < l.length by omega), List.all_cons]
    by_cases h1 : l[i] < 0
    · rw [if_pos h1, show inB l[i] = false from decide_eq_false (by omega)]; rfl
    by_cases h2 : l[i] > 100000
    · rw [if_neg h1, if_pos h2, show inB l[i] = false from decide_eq_false (by omega)]; rfl
    · rw [if_neg h1, if_neg h2]
      have := ih (i + 1) f (by omega) (by omega)
      rw [show ((i : Int) + 1) = ((i + 1 : Nat) : Int) by omega, this, show inB l[i] = true from decide_eq_true (by omega), Bool.true_and]

theorem impl_MixOk_ok (l : List Int) (f : Nat) (hl : l.length ≤ 17592186044416) (hf : l.length + 2 ≤ f) : impl_MixOk.f f l = some (mixB l) := by
  unfold impl_MixOk.f mixB
  have := impl_MixOk_l0 l hl l.length 0 f (by omega) (by omega)
  rw [List.drop_zero] at this
  exact this

theorem spec_MixOk_l0 (l : List Int) (hl : l.length ≤ 17592186044416) : ∀ (d i f : Nat), i + d = l.length → d < f →
    spec_MixOk.l0 f l (i : Int) = some ((l.drop i).all inB && decide (1 ≤ l.length ∧ l.length ≤ 9)) := by
  intro d
  induction d with
  | zero =>
    intro i f hi hf
    obtain ⟨f, rfl⟩ : ∃ g, f = g + 1 := ⟨f - 1, by omega⟩
    simp only [spec_MixOk.l0]; rw [if_neg (by omega), List.drop_of_length_le (by omega), l1In_ok]
    simp only [Option.bind_some]
    rw [List.all_nil, Bool.true_and]
    congr 1; apply decide_eq_decide.2; omega
  | succ d ih =>
    intro i f hi hf
    obtain ⟨f, rfl⟩ : ∃ g, f = g + 1 := ⟨f - 1, by omega⟩
    simp only [spec_MixOk.l0]
    rw [if_pos (by omega), if_pos (by omega), rd_nat l i (by omega), l1In_ok, wr (by omega) (by omega), List.drop_eq_getElem_cons (show i < l.length by omega), List.all_cons]
    simp only [Option.bind_some]
    by_cases h : 0 ≤ l[i] ∧ l[i] ≤ 100000
    · rw [if_pos (decide_eq_true h)]
      have := ih (i + 1) f (by omega) (by omega)
      rw [show ((i : Int) + 1) = ((i + 1 : Nat) : Int) by omega, this, show inB l[i] = true from decide_eq_true h, Bool.true_and]
    · rw [if_neg (by simpa using h), show inB l[i] = false from decide_eq_false h]; rfl

theorem spec_MixOk_ok (l : List Int) (f : Nat) (hl : l.length ≤ 17592186044416) (hf : l.length + 2 ≤ f) : spec_MixOk.f f l = some (mixB l) := by
  unfold spec_MixOk.f mixB
  have := spec_MixOk_l0 l hl l.length 0 f (by omega) (by omega)
  rw [List.drop_zero] at this
  exact this

theorem mul_bd {a c A C : Int} (h0 : 0 ≤ a) (h1 : a ≤ A) (h2 : 0 ≤ c) (h3 : c ≤ C) : 0 ≤ a * c ∧ a * c ≤ A * C :=
  ⟨Int.mul_nonneg h0 h2, Int.mul_le_mul h1 h3 h2 (by omega)⟩

theorem elem_ok {a b c e : Int} (ha : 0 ≤ a ∧ a ≤ 100000) (hb : 0 ≤ b ∧ b ≤ 100000) (hc : 0 ≤ c ∧ c ≤ 9) (he : 0 ≤ e ∧ e ≤ 9) :
    wrap64 ((wrap64 (a * c)) + (wrap64 (b * e))) = a * c + b * e := by
  have h1 := mul_bd ha.1 ha.2 hc.1 hc.2
  have h2 := mul_bd hb.1 hb.2 he.1 he.2
  rw [wr (n := a * c) (by omega) (by omega), wr (n := b * e) (by omega) (by omega), wr (by omega) (by omega)]

theorem range_snoc (g : Nat → Int) (i : Nat) : (List.range i).map g ++ [g i] = (List.range (i + 1)).map g := by
  rw [List.range_succ, List.map_append]; rfl

/-- the row, if it is one -/
def fin (l : List Int) : List Int × Bool := if mixB l = true then (l, true) else ([], false)

theorem impl_mixed_ok (l : List Int) (f : Nat) (hl : l.length ≤ 17592186044416) (hf : l.length + 2 ≤ f) : impl_mixed.f f l = some (fin l) := by
  unfold impl_mixed.f fin
  rw [impl_MixOk_ok l f hl hf]; simp only [Option.bind_some]
  split <;> rfl

def mixE (a : List Int) (p : Int) (b : List Int) (q : Int) (k : Nat) : Int := a.getD k 0 * p + b.getD k 0 * q
def mixL (a : List Int) (p : Int) (b : List Int) (q : Int) : List Int := (List.range a.length).map (mixE a p b q)
def mixAsk (a : List Int) (p : Int) (b : List Int) (q : Int) : Prop := mixB a = true ∧ mixB b = true ∧ a.length = b.length ∧ 0 ≤ p ∧ p ≤ 9 ∧ 0 ≤ q ∧ q ≤ 9

instance (a : List Int) (p : Int) (b : List Int) (q : Int) : Decidable (mixAsk a p b q) := by unfold mixAsk; infer_instance

def mixedR (a : List Int) (p : Int) (b : List Int) (q : Int) : List Int × Bool := if mixAsk a p b q then fin (mixL a p b q) else ([], false)

theorem mixL_length (a : List Int) (p : Int) (b : List Int) (q : Int) : (mixL a p b q).length = a.length := by simp [mixL]

theorem impl_MixedRow_l0 (a b : List Int) (p q : Int) (h : mixAsk a p b q) : ∀ (d i f : Nat), i + d = a.length → d + 20 ≤ f →
    impl_MixedRow.l0 f a p b q ((List.range i).map (mixE a p b q)) (a.length : Int) (i : Int) = some (fin (mixL a p b q)) := by
  have hlen := mixB_len h.1
  have hab := h.2.2.1
  intro d
  induction d with
  | zero =>
    intro i f hi hf
    obtain ⟨f, rfl⟩ : ∃ g, f = g + 1 := ⟨f - 1, by omega⟩
    obtain rfl : i = a.length := by omega
    simp only [impl_MixedRow.l0]
    rw [if_neg (by omega), impl_mixed_ok _ f (by simp; omega) (by simp; omega)]
    rfl
  | succ d ih =>
    intro i f hi hf
    obtain ⟨f, rfl⟩ : ∃ g, f = g + 1 := ⟨f - 1, by omega⟩
    simp only [impl_MixedRow.l0]
    rw [if_pos (by omega), if_pos (by omega), if_pos (by omega), if_pos (by omega), if_pos (by simp; omega), rd_getD, rd_getD,
      elem_ok (mixB_get h.1 i) (mixB_get h.2.1 i) ⟨h.2.2.2.1, h.2.2.2.2.1⟩ ⟨h.2.2.2.2.2.1, h.2.2.2.2.2.2⟩, wr (n := (i : Int) + 1) (by omega) (by omega)]
    have e : a.getD i 0 * p + b.getD i 0 * q = mixE a p b q i := rfl
    rw [e, range_snoc]
    exact ih (i + 1) f (by omega) (by omega)

theorem impl_MixedRow_ok (a b : List Int) (p q : Int) (f : Nat) (hl : a.length ≤ 17592186044416) (hl2 : b.length ≤ 17592186044416) (hf : a.length + b.length + 40 ≤ f) : impl_MixedRow.f f a p b q = some (mixedR a p b q) := by
  obtain ⟨f, rfl⟩ : ∃ g, f = g + 1 := ⟨f - 1, by omega⟩
  unfold impl_MixedRow.f mixedR
  have e : impl_MixedRow.j0 (f + 1) a p b q true = some ([], false) := by simp only [impl_MixedRow.j0, if_true]
  rw [impl_MixOk_ok a _ hl (by omega)]; simp only [Option.bind_some]
  by_cases h1 : mixB a = true
  · rw [if_pos h1, impl_MixOk_ok b _ hl2 (by omega)]; simp only [Option.bind_some]
    by_cases h2 : mixB b = true
    · rw [if_pos h2]
      by_cases h3 : (a.length : Int) = (b.length : Int)
      · rw [if_pos h3]
        by_cases h4 : p < 0
        · rw [if_pos h4, e, if_neg (fun c => by have := c.2.2.2.1; omega)]
        by_cases h5 : p > 9
        · rw [if_neg h4, if_pos h5, e, if_neg (fun c => by have := c.2.2.2.2.1; omega)]
        by_cases h6 : q < 0
        · rw [if_neg h4, if_neg h5, if_pos h6, e, if_neg (fun c => by have := c.2.2.2.2.2.1; omega)]
        rw [if_neg h4, if_neg h5, if_neg h6]
        by_cases h7 : q > 9
        · rw [decide_eq_true h7, e, if_neg (fun c => by have := c.2.2.2.2.2.2; omega)]
        · have ha : mixAsk a p b q := ⟨h1, h2, by omega, by omega, by omega, by omega, by omega⟩
          have hlen := mixB_len h1
          rw [decide_eq_false h7, if_pos ha]
          simp only [impl_MixedRow.j0]
          rw [if_neg (by decide)]
          exact impl_MixedRow_l0 a b p q ha a.length 0 f (by omega) (by omega)
      · rw [if_neg h3, e, if_neg (fun c => h3 (by rw [c.2.2.1]))]
    · rw [if_neg h2, e, if_neg (fun c => h2 c.2.1)]
  · rw [if_neg h1, e, if_neg (fun c => h1 c.1)]

theorem spec_MixedRow_l0 (a b : List Int) (p q : Int) (h : mixAsk a p b q) : ∀ (d i f : Nat), i + d = a.length → d + 20 ≤ f →
    spec_MixedRow.l0 f a p b q ((List.range i).map (mixE a p b q)) (i : Int) = some (fin (mixL a p b q)) := by
  have hlen := mixB_len h.1
  have hab := h.2.2.1
  intro d
  induction d with
  | zero =>
    intro i f hi hf
    obtain ⟨f, rfl⟩ : ∃ g, f = g + 1 := ⟨f - 1, by omega⟩
    obtain rfl : i = a.length := by omega
    simp only [spec_MixedRow.l0]
    rw [if_neg (by omega), spec_MixOk_ok _ f (by simp; omega) (by simp; omega)]
    simp only [Option.bind_some]
    unfold fin
    change (if mixB (mixL a p b q) = true then _ else _) = _
    split <;> rfl
  | succ d ih =>
    intro i f hi hf
    obtain ⟨f, rfl⟩ : ∃ g, f = g + 1 := ⟨f - 1, by omega⟩
    simp only [spec_MixedRow.l0]
    rw [if_pos (by omega), if_pos (by omega), if_pos (by omega), if_pos (by simp; omega), rd_getD, rd_getD,
      elem_ok (mixB_get h.1 i) (mixB_get h.2.1 i) ⟨h.2.2.2.1, h.2.2.2.2.1⟩ ⟨h.2.2.2.2.2.1, h.2.2.2.2.2.2⟩, wr (n := (i : Int) + 1) (by omega) (by omega)]
    have e : a.getD i 0 * p + b.getD i 0 * q = mixE a p b q i := rfl
    rw [e, range_snoc]
    exact ih (i + 1) f (by omega) (by omega)

theorem spec_MixedRow_ok (a b : List Int) (p q : Int) (f : Nat) (hl : a.length ≤ 17592186044416) (hl2 : b.length ≤ 17592186044416) (hf : a.length + b.length + 40 ≤ f) : spec_MixedRow.f f a p b q = some (mixedR a p b q) := by
  obtain ⟨f, rfl⟩ : ∃ g, f = g + 1 := ⟨f - 1, by omega⟩
  unfold spec_MixedRow.f mixedR
  have e : spec_MixedRow.j0 (f + 1) a p b q true = some ([], false) := by simp only [spec_MixedRow.j0, if_true]
  rw [spec_MixOk_ok a _ hl (by omega)]; simp only [Option.bind_some, l1In_ok]
  by_cases h1 : mixB a = true
  · rw [if_pos h1, spec_MixOk_ok b _ hl2 (by omega)]; simp only [Option.bind_some]
    by_cases h2 : mixB b = true
    · rw [if_pos h2]
      by_cases h3 : (a.length : Int) = (b.length : Int)
      · rw [if_pos h3]
        by_cases h4 : 0 ≤ p ∧ p ≤ 9
        · rw [if_pos (decide_eq_true h4)]
          by_cases h5 : 0 ≤ q ∧ q ≤ 9
          · have ha : mixAsk a p b q := ⟨h1, h2, by omega, by omega, by omega, by omega, by omega⟩
            have hlen := mixB_len h1
            rw [decide_eq_true h5, if_pos ha]
            simp only [spec_MixedRow.j0, Bool.not_true]
            rw [if_neg (by decide)]
            exact spec_MixedRow_l0 a b p q ha a.length 0 f (by omega) (by omega)
          · rw [decide_eq_false h5, if_neg (fun c => h5 ⟨c.2.2.2.2.2.1, c.2.2.2.2.2.2⟩)]
            exact e
        · rw [decide_eq_false h4, if_neg (by decide), e, if_neg (fun c => h4 ⟨c.2.2.2.1, c.2.2.2.2.1⟩)]
      · rw [if_neg h3, e, if_neg (fun c => h3 (by rw [c.2.2.1]))]
    · rw [if_neg h2, e, if_neg (fun c => h2 c.2.1)]
  · rw [if_neg h1, e, if_neg (fun c => h1 c.1)]

theorem mixedR_length (a : List Int) (p : Int) (b : List Int) (q : Int) : (mixedR a p b q).1.length ≤ a.length := by
  unfold mixedR fin
  split
  · split
    · show (mixL a p b q).length ≤ _; rw [mixL_length]; omega
    · simp
  · simp

theorem FnExactMixedRow : laws_FnExactMixedRow.Pure := by
  intro a p b q _ h8 _ _ _ h9 _ _
  unfold laws_FnExactMixedRow.f
  by_cases hla : (a.length : Int) > 1048576
  · exact ⟨0, by rw [if_pos hla]⟩
  by_cases hlb : (b.length : Int) > 1048576
  · exact ⟨0, by rw [if_neg hla, if_pos hlb]⟩
  have hs := mixedR_length a p b q
  refine ⟨a.length + b.length + 103, ?_⟩
  rw [if_neg hla, if_neg hlb]
  generalize hA : a.length = A at *
  generalize hB : b.length = B at *
  have ta : ∀ f, A + 2 ≤ f → laws_toIntS.f f a = some a := fun f hf => toIntS_ok a f (by omega) (by omega)
  have tb : ∀ f, B + 2 ≤ f → laws_toIntS.f f b = some b := fun f hf => toIntS_ok b f (by omega) (by omega)
  have s1 : ∀ f, A + B + 40 ≤ f → impl_MixedRow.f f a p b q = some (mixedR a p b q) := fun f hf => impl_MixedRow_ok a b p q f (by omega) (by omega) (by omega)
  have s2 : ∀ f, A + B + 40 ≤ f → spec_MixedRow.f f a p b q = some (mixedR a p b q) := fun f hf => spec_MixedRow_ok a b p q f (by omega) (by omega) (by omega)
  have e1 : ∀ f, A + 2 ≤ f → laws_eqIntS.f f (mixedR a p b q).1 (mixedR a p b q).1 = some true := fun f hf => by rw [eqIntS_ok _ _ f (by omega) (by omega)]; simp
  have ea : ∀ f, A + 2 ≤ f → laws_eqIntS.f f a a = some true := fun f hf => by rw [eqIntS_ok _ _ f (by omega) (by omega)]; simp
  have eb : ∀ f, B + 2 ≤ f → laws_eqIntS.f f b b = some true := fun f hf => by rw [eqIntS_ok _ _ f (by omega) (by omega)]; simp
  have ma : ∀ f, A + 2 ≤ f → laws_markIntS.f f a 1 = some (1 + (A : Int), markL 1 A) := fun f hf => by rw [markIntS_ok _ _ f (by omega) (by omega) (by omega) (by omega), hA]
  have mb : ∀ f, B + 2 ≤ f → laws_markIntS.f f b (1 + (A : Int)) = some (1 + (A : Int) + (B : Int), markL (1 + (A : Int)) B) := fun f hf => by rw [markIntS_ok _ _ f (by omega) (by omega) (by omega) (by omega), hB]
  have m2 : ∀ f, A + 2 ≤ f → laws_markIntS.f f (mixedR a p b q).1 1 = some (1 + ((mixedR a p b q).1.length : Int), markL 1 (mixedR a p b q).1.length) := fun f hf => markIntS_ok _ _ f (by omega) (by omega) (by omega) (by omega)
  have g1 : ∀ f, A + 2 ≤ f → laws_heldIntS.f f (markL 1 (mixedR a p b q).1.length) 1 = some (1 + ((mixedR a p b q).1.length : Int)) := fun f hf => heldIntS_ok _ _ f (by omega) (by omega) (by omega)
  rw [ta _ (by omega)]; simp only [Option.bind_some]
  rw [tb _ (by omega)]; simp only [Option.bind_some]
  rw [s2 _ (by omega)]; simp only [Option.bind_some]
  rw [s1 _ (by omega)]; simp only [Option.bind_some]
  rw [e1 _ (by omega)]; simp only [Option.bind_some, if_true, bne_self_eq_false]
  rw [show A + B + 103 = (A + B + 102) + 1 by omega]
  simp only [laws_FnExactMixedRow.j0, Bool.false_eq_true, if_false]
  rw [ta _ (by omega)]; simp only [Option.bind_some]
  rw [ea _ (by omega)]; simp only [Option.bind_some, if_true]
  rw [tb _ (by omega)]; simp only [Option.bind_some]
  rw [eb _ (by omega)]; simp only [Option.bind_some, if_true]
  rw [ma _ (by omega)]; simp only [Option.bind_some]
  rw [mb _ (by omega)]; simp only [Option.bind_some]
  rw [if_neg (by omega), e1 _ (by omega)]; simp only [Option.bind_some, if_true, bne_self_eq_false]
  rw [show A + B + 102 = (A + B + 101) + 1 by omega]
  simp only [laws_FnExactMixedRow.j1, Bool.false_eq_true, if_false]
  rw [m2 _ (by omega)]; simp only [Option.bind_some]
  rw [g1 _ (by omega)]; simp only [Option.bind_some]
  rw [if_neg (by omega), if_pos trivial, ta _ (by omega)]; simp only [Option.bind_some]
  rw [tb _ (by omega)]; simp only [Option.bind_some]
  rw [s1 _ (by omega)]; simp only [Option.bind_some]
  rw [e1 _ (by omega)]; simp only [Option.bind_some, if_true, bne_self_eq_false]
  rw [show A + B + 101 = (A + B + 100) + 1 by omega]
  simp only [laws_FnExactMixedRow.j2, Bool.false_eq_true, if_false]
  rw [g1 _ (by omega)]; simp only [Option.bind_some]
  rw [if_neg (by omega), if_true]

end Go.Proofs.Ytncjjgfiddgckaa.Pure
