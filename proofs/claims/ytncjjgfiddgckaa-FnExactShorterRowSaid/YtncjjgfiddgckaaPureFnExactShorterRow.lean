/- FnExactShorterRow: for all arguments that the statement lets in, the law answers true. No condition of ours. -/
import Derived.Test.YtncjjgfiddgckaaPFnExactShorterRowx4
namespace Go.Proofs.Ytncjjgfiddgckaa.Pure
open Go.RowKit Go.Proofs.Ytncjjgfiddgckaa.PFnExactShorterRow Go.Proofs.YtncjjgfiddgckaaW.PrintWords Go.Proofs.YtncjjgfiddgckaaW.PrintLast

theorem wr {n : Int} (h0 : -9223372036854775808 ≤ n) (h1 : n < 9223372036854775808) : wrap64 n = n := by unfold wrap64; omega
theorem wrap_lo (x : Int) : -9223372036854775808 ≤ wrap64 x := by unfold wrap64; omega
theorem wrap_hi (x : Int) : wrap64 x < 9223372036854775808 := by unfold wrap64; omega

theorem rd_nat (l : List Int) (i : Nat) (h : i < l.length) : rd l (i : Int) = l[i] := by
  unfold rd
  rw [Int.toNat_natCast, List.getD_eq_getElem?_getD, List.getElem?_eq_getElem h]; rfl

theorem rd_getD (l : List Int) (i : Nat) : rd l (i : Int) = l.getD i 0 := by
  unfold rd; rw [Int.toNat_natCast]

theorem toIntS_l0 (l : List Int) (hl : l.length ≤ 17592186044416) : ∀ (d i f : Nat) (y : List Int), i + d = l.length → d < f → y.length = l.length → y.take i = l.take i →
    laws_toIntS.l0 f l y (i : Int) = some l := by
  intro d
  induction d with
  | zero =>
    intro i f y hi hf hy ht
    obtain ⟨f, rfl⟩ : ∃ g, f = g + 1 := ⟨f - 1, by omega⟩
    simp only [laws_toIntS.l0]; rw [if_neg (by omega)]
    rw [List.take_of_length_le (by omega), List.take_of_length_le (by omega)] at ht
    rw [ht]
  | succ d ih =>
    intro i f y hi hf hy ht
    obtain ⟨f, rfl⟩ : ∃ g, f = g + 1 := ⟨f - 1, by omega⟩
    simp only [laws_toIntS.l0]
    rw [if_pos (by omega), if_pos (by omega), if_pos (by omega), Int.toNat_natCast, rd_nat l i (by omega), wr (by omega) (by omega)]
    refine ih (i + 1) f (y.set i l[i]) (by omega) (by omega) (by simpa using hy) ?_
    rw [List.take_succ_eq_append_getElem (by simp; omega), List.take_succ_eq_append_getElem (by omega)]
    rw [List.take_set_of_le (by omega), ht]
    congr 1; simp

theorem toIntS_ok (l : List Int) (f : Nat) (hl : l.length ≤ 17592186044416) (hf : l.length + 2 ≤ f) : laws_toIntS.f f l = some l := by
  unfold laws_toIntS.f
  rw [if_pos (by omega), Int.toNat_natCast, if_pos (by omega)]
  exact toIntS_l0 l hl l.length 0 f _ (by omega) (by omega) (by simp) rfl

theorem eqIntS_l0 (a b : List Int) (hab : a.length = b.length) (hl : a.length ≤ 17592186044416) : ∀ (d i f : Nat), i + d = a.length → d < f →
    laws_eqIntS.l0 f a b (i : Int) = some (decide (a.drop i = b.drop i)) := by
  intro d
  induction d with
  | zero =>
    intro i f hi hf
    obtain ⟨f, rfl⟩ : ∃ g, f = g + 1 := ⟨f - 1, by omega⟩
    simp only [laws_eqIntS.l0]; rw [if_neg (by omega), List.drop_of_length_le (by omega), List.drop_of_length_le (by omega)]; rfl
  | succ d ih =>
    intro i f hi hf
    obtain ⟨f, rfl⟩ : ∃ g, f = g + 1 := ⟨f - 1, by omega⟩
    simp only [laws_eqIntS.l0]
    rw [if_pos (by omega), if_pos (by omega), if_pos (by omega), rd_nat a i (by omega), rd_nat b i (by omega), wr (by omega) (by omega)]
    rw [List.drop_eq_getElem_cons (show i < a.length by omega), List.drop_eq_getElem_cons (show i < b.length by omega)]
    by_cases h : a[i] = b[i]
    · rw [if_pos h]
      have := ih (i + 1) f (by omega) (by omega)
      rw [show ((i : Int) + 1) = ((i + 1 : Nat) : Int) by omega, this, h]
      congr 1; apply decide_eq_decide.2; exact ⟨fun c => by rw [c], fun c => (List.cons.inj c).2⟩
    · rw [if_neg h, decide_eq_false (fun c => h (List.cons.inj c).1)]

theorem eqIntS_ok (a b : List Int) (f : Nat) (hl : a.length ≤ 17592186044416) (hf : a.length + 2 ≤ f) : laws_eqIntS.f f a b = some (decide (a = b)) := by
  unfold laws_eqIntS.f
  by_cases h : (a.length : Int) = (b.length : Int)
  · rw [if_pos h]
    have := eqIntS_l0 a b (by omega) hl a.length 0 f (by omega) (by omega)
    rw [List.drop_zero, List.drop_zero] at this
    exact this
  · rw [if_neg h, decide_eq_false (fun c => h (by rw [c]))]

def markL (m : Int) : Nat → List Int
  | 0 => []
  | n + 1 => m :: markL (m + 1) n

theorem markL_length (n : Nat) : ∀ m, (markL m n).length = n := by
  induction n with
  | zero => intro m; rfl
  | succ n ih => intro m; simp [markL, ih]

theorem markL_get (n : Nat) : ∀ (m : Int) (i : Nat) (h : i < (markL m n).length), (markL m n)[i] = m + i := by
  induction n with
  | zero => intro m i h; simp [markL] at h
  | succ n ih =>
    intro m i h
    cases i with
    | zero => simp [markL]
    | succ i => simp only [markL, List.getElem_cons_succ]; rw [ih]; omega

theorem markIntS_l0 : ∀ (d i f : Nat) (y : List Int) (m : Int), i + d = y.length → y.length ≤ 17592186044416 → d < f → 0 ≤ m → m + d ≤ 70368744177664 →
    laws_markIntS.l0 f y m (i : Int) = some (m + d, y.take i ++ markL m d) := by
  intro d
  induction d with
  | zero =>
    intro i f y m hi hl hf h0 h1
    obtain ⟨f, rfl⟩ : ∃ g, f = g + 1 := ⟨f - 1, by omega⟩
    simp only [laws_markIntS.l0]; rw [if_neg (by omega), List.take_of_length_le (by omega)]; simp [markL]
  | succ d ih =>
    intro i f y m hi hl hf h0 h1
    obtain ⟨f, rfl⟩ : ∃ g, f = g + 1 := ⟨f - 1, by omega⟩
    simp only [laws_markIntS.l0]
    rw [if_pos (by omega), if_pos (by omega), Int.toNat_natCast, wr (n := m + 1) (by omega) (by omega), wr (n := (i : Int) + 1) (by omega) (by omega)]
    have := ih (i + 1) f (y.set i m) (m + 1) (by simp; omega) (by simpa using hl) (by omega) (by omega) (by omega)
    rw [show ((i : Int) + 1) = ((i + 1 : Nat) : Int) by omega, this]
    rw [List.take_succ_eq_append_getElem (by simp; omega), List.take_set_of_le (by omega)]
    simp [markL]; omega

theorem markIntS_ok (y : List Int) (m : Int) (f : Nat) (hl : y.length ≤ 17592186044416) (hf : y.length + 2 ≤ f) (h0 : 0 ≤ m) (h1 : m ≤ 17592186044416) :
    laws_markIntS.f f y m = some (m + y.length, markL m y.length) := by
  unfold laws_markIntS.f
  have := markIntS_l0 y.length 0 f y m (by omega) hl (by omega) h0 (by omega)
  rw [List.take_zero, List.nil_append] at this
  exact this

theorem heldIntS_l0 (n : Nat) (m : Int) (h0 : 0 ≤ m) (h1 : m + n ≤ 70368744177664) : ∀ (d i f : Nat), i + d = n → d < f →
    laws_heldIntS.l0 f (markL m n) (m + i) (i : Int) = some (m + n) := by
  intro d
  induction d with
  | zero =>
    intro i f hi hf
    obtain ⟨f, rfl⟩ : ∃ g, f = g + 1 := ⟨f - 1, by omega⟩
    simp only [laws_heldIntS.l0]; rw [if_neg (by rw [markL_length]; omega), show i = n by omega]
  | succ d ih =>
    intro i f hi hf
    obtain ⟨f, rfl⟩ : ∃ g, f = g + 1 := ⟨f - 1, by omega⟩
    simp only [laws_heldIntS.l0]
    rw [if_pos (by rw [markL_length]; omega), if_pos (by omega), rd_nat _ i (by rw [markL_length]; omega), markL_get, if_pos rfl, wr (n := m + i + 1) (by omega) (by omega), wr (n := (i : Int) + 1) (by omega) (by omega)]
    have := ih (i + 1) f (by omega) (by omega)
    rw [show ((i : Int) + 1) = ((i + 1 : Nat) : Int) by omega, show m + (i : Int) + 1 = m + ((i + 1 : Nat) : Int) by omega]
    exact this

theorem heldIntS_ok (n : Nat) (m : Int) (f : Nat) (hf : n + 2 ≤ f) (h0 : 0 ≤ m) (h1 : m + n ≤ 70368744177664) : laws_heldIntS.f f (markL m n) m = some (m + n) := by
  unfold laws_heldIntS.f
  have := heldIntS_l0 n m h0 h1 n 0 f (by omega) (by omega)
  rw [show m + ((0 : Nat) : Int) = m by omega] at this
  exact this

theorem l1In_ok (a b c : Int) : spec_l1In.f a b c = some (decide (b ≤ a ∧ a ≤ c)) := by
  unfold spec_l1In.f
  by_cases h : a ≥ b
  · rw [if_pos h]; simp [h]
  · rw [if_neg h]; simp; omega

def inB (x : Int) : Bool := decide (0 ≤ x ∧ x ≤ 100000)

/-- a row of weights -/
def mixB (l : List Int) : Bool := l.all inB && decide (1 ≤ l.length ∧ l.length ≤ 9)

theorem mixB_len {l : List Int} (h : mixB l = true) : 1 ≤ l.length ∧ l.length ≤ 9 := by
  unfold mixB at h; simp only [Bool.and_eq_true, decide_eq_true_eq] at h; exact h.2

theorem mixB_mem {l : List Int} (h : mixB l = true) : ∀ x ∈ l, 0 ≤ x ∧ x ≤ 100000 := by
  unfold mixB at h; simp only [Bool.and_eq_true, List.all_eq_true] at h
  intro x hx; have := h.1 x hx; unfold inB at this; simpa using this

theorem mixB_get {l : List Int} (h : mixB l = true) (i : Nat) : 0 ≤ l.getD i 0 ∧ l.getD i 0 ≤ 100000 := by
  rw [List.getD_eq_getElem?_getD]
  cases e : l[i]? with
  | none => simp
  | some x => exact mixB_mem h x (List.mem_of_getElem? e)

theorem impl_MixOk_l0 (l : List Int) (hl : l.length ≤ 17592186044416) : ∀ (d i f : Nat), i + d = l.length → d < f →
    impl_MixOk.l0 f l l (l.length : Int) (i : Int) = some ((l.drop i).all inB && decide (1 ≤ l.length ∧ l.length ≤ 9)) := by
  intro d
  induction d with
  | zero =>
    intro i f hi hf
    obtain ⟨f, rfl⟩ : ∃ g, f = g + 1 := ⟨f - 1, by omega⟩
    simp only [impl_MixOk.l0]; rw [if_neg (by omega), List.drop_of_length_le (by omega)]
    rw [List.all_nil, Bool.true_and]
    by_cases h : (l.length : Int) ≥ 1
    · rw [if_pos h]; congr 1; apply decide_eq_decide.2; omega
    · rw [if_neg h, decide_eq_false (by omega)]
  | succ d ih =>
    intro i f hi hf
    obtain ⟨f, rfl⟩ : ∃ g, f = g + 1 := ⟨f - 1, by omega⟩
    simp only [impl_MixOk.l0]
    rw [if_pos (by omega), if_pos (by omega), if_pos (by omega), rd_nat l i (by omega), wr (by omega) (by omega), List.drop_eq_getElem_cons (show i < l.length by omega), List.all_cons]
    by_cases h1 : l[i] < 0
    · rw [if_pos h1, show inB l[i] = false from decide_eq_false (by omega)]; rfl
    by_cases h2 : l[i] > 100000
    · rw [if_neg h1, if_pos h2, show inB l[i] = false from decide_eq_false (by omega)]; rfl
    · rw [if_neg h1, if_neg h2]
      have := ih (i + 1) f (by omega) (by omega)
      rw [show ((i : Int) + 1) = ((i + 1 : Nat) : Int) by omega, this, show inB l[i] = true from decide_eq_true (by omega), Bool.true_and]

theorem impl_MixOk_ok (l : List Int) (f : Nat) (hl : l.length ≤ 17592186044416) (hf : l.length + 2 ≤ f) : impl_MixOk.f f l = some (mixB l) := by
  unfold impl_MixOk.f mixB
  have := impl_MixOk_l0 l hl l.length 0 f (by omega) (by omega)
  rw [List.drop_zero] at this
  exact this

theorem spec_MixOk_l0 (l : List Int) (hl : l.length ≤ 17592186044416) : ∀ (d i f : Nat), i + d = l.length → d < f →
    spec_MixOk.l0 f l (i : Int) = some ((l.drop i).all inB && decide (1 ≤ l.length ∧ l.length ≤ 9)) := by
  intro d
  induction d with
  | zero =>
    intro i f hi hf
    obtain ⟨f, rfl⟩ : ∃ g, f = g + 1 := ⟨f - 1, by omega⟩
    simp only [spec_MixOk.l0]; rw [if_neg (by omega), List.drop_of_length_le (by omega), l1In_ok]
    simp only [Option.bind_some]
    rw [List.all_nil, Bool.true_and]
    congr 1; apply decide_eq_decide.2; omega
  | succ d ih =>
    intro i f hi hf
    obtain ⟨f, rfl⟩ : ∃ g, f = g + 1 := ⟨f - 1, by omega⟩
    simp only [spec_MixOk.l0]
    rw [if_pos (by omega), if_pos (by omega), rd_nat l i (by omega), l1In_ok, wr (by omega) (by omega), List.drop_eq_getElem_cons (show i < l.length by omega), List.all_cons]
    simp only [Option.bind_some]
    by_cases h : 0 ≤ l[i] ∧ l[i] ≤ 100000
    · rw [if_pos (decide_eq_true h)]
      have := ih (i + 1) f (by omega) (by omega)
      rw [show ((i : Int) + 1) = ((i + 1 : Nat) : Int) by omega, this, show inB l[i] = true from decide_eq_true h, Bool.true_and]
    · rw [if_neg (by simpa using h), show inB l[i] = false from decide_eq_false h]; rfl

theorem spec_MixOk_ok (l : List Int) (f : Nat) (hl : l.length ≤ 17592186044416) (hf : l.length + 2 ≤ f) : spec_MixOk.f f l = some (mixB l) := by
  unfold spec_MixOk.f mixB
  have := spec_MixOk_l0 l hl l.length 0 f (by omega) (by omega)
  rw [List.drop_zero] at this
  exact this

theorem mul_bd {a c A C : Int} (h0 : 0 ≤ a) (h1 : a ≤ A) (h2 : 0 ≤ c) (h3 : c ≤ C) : 0 ≤ a * c ∧ a * c ≤ A * C :=
  ⟨Int.mul_nonneg h0 h2, Int.mul_le_mul h1 h3 h2 (by omega)⟩

theorem elem_ok {a b c e : Int} (ha : 0 ≤ a ∧ a ≤ 100000) (hb : 0 ≤ b ∧ b ≤ 100000) (hc : 0 ≤ c ∧ c ≤ 9) (he : 0 ≤ e ∧ e ≤ 9) :
    wrap64 ((wrap64 (a * c)) + (wrap64 (b * e))) = a * c + b * e := by
  have h1 := mul_bd ha.1 ha.2 hc.1 hc.2
  have h2 := mul_bd hb.1 hb.2 he.1 he.2
  rw [wr (n := a * c) (by omega) (by omega), wr (n := b * e) (by omega) (by omega), wr (by omega) (by omega)]

theorem range_snoc (g : Nat → Int) (i : Nat) : (List.range i).map g ++ [g i] = (List.range (i + 1)).map g := by
  rw [List.range_succ, List.map_append]; rfl

/-- the row, if it is one -/
def fin (l : List Int) : List Int × Bool := if mixB l = true then (l, true) else ([], false)

theorem impl_mixed_ok (l : List Int) (f : Nat) (hl : l.length ≤ 17592186044416) (hf : l.length + 2 ≤ f) : impl_mixed.f f l = some (fin l) := by
  unfold impl_mixed.f fin
  rw [impl_MixOk_ok l f hl hf]; simp only [Option.bind_some]
  split <;> rfl

def shortE (r : List Int) (k : Nat) : Int := r.getD k 0 * ((r.length : Int) - 1 - k) + r.getD (k + 1) 0 * ((k : Int) + 1)
def shortL (r : List Int) : List Int := (List.range (r.length - 1)).map (shortE r)
def shorterR (r : List Int) : List Int × Bool := if mixB r = true ∧ 2 ≤ r.length then fin (shortL r) else ([], false)

theorem shortL_length (r : List Int) : (shortL r).length = r.length - 1 := by simp [shortL]

theorem impl_Shorter_l0 (r : List Int) (hr : mixB r = true) : ∀ (d i f : Nat), i + d = r.length - 1 → d + 20 ≤ f →
    impl_ShorterRow.l0 f r (((r.length - 1 : Nat)) : Int) ((List.range i).map (shortE r)) ((r.length - 1 : Nat) : Int) (i : Int) = some (fin (shortL r)) := by
  have hlen := mixB_len hr
  intro d
  induction d with
  | zero =>
    intro i f hi hf
    obtain ⟨f, rfl⟩ : ∃ g, f = g + 1 := ⟨f - 1, by omega⟩
    obtain rfl : i = r.length - 1 := by omega
    simp only [impl_ShorterRow.l0]
    rw [if_neg (by omega), impl_mixed_ok _ f (by simp; omega) (by simp; omega)]
    rfl
  | succ d ih =>
    intro i f hi hf
    obtain ⟨f, rfl⟩ : ∃ g, f = g + 1 := ⟨f - 1, by omega⟩
    simp only [impl_ShorterRow.l0]
    rw [if_pos (by omega), if_pos (by omega), if_pos (by omega), wr (n := (i : Int) + 1) (by omega) (by omega), if_pos (by omega), if_pos (by omega), if_pos (by simp; omega),
      wr (n := ((r.length - 1 : Nat) : Int) - (i : Int)) (by omega) (by omega)]
    rw [show ((i : Int) + 1) = ((i + 1 : Nat) : Int) by omega, rd_getD, rd_getD, elem_ok (mixB_get hr i) (mixB_get hr (i + 1)) (by omega) (by omega)]
    have e : r.getD i 0 * (((r.length - 1 : Nat) : Int) - (i : Int)) + r.getD (i + 1) 0 * ((i + 1 : Nat) : Int) = shortE r i := by
      unfold shortE; rw [show ((r.length - 1 : Nat) : Int) - (i : Int) = (r.length : Int) - 1 - i by omega]; rfl
    rw [e, range_snoc]
    exact ih (i + 1) f (by omega) (by omega)

theorem impl_Shorter_ok (r : List Int) (f : Nat) (hl : r.length ≤ 17592186044416) (hf : r.length + 40 ≤ f) : impl_ShorterRow.f f r = some (shorterR r) := by
  obtain ⟨f, rfl⟩ : ∃ g, f = g + 1 := ⟨f - 1, by omega⟩
  unfold impl_ShorterRow.f shorterR
  rw [impl_MixOk_ok r _ hl (by omega)]; simp only [Option.bind_some]
  by_cases hr : mixB r = true
  · have hlen := mixB_len hr
    rw [if_pos hr, wr (n := (r.length : Int) - 1) (by omega) (by omega)]
    by_cases h2 : 2 ≤ r.length
    · rw [decide_eq_false (by omega), if_pos ⟨hr, h2⟩]
      simp only [impl_ShorterRow.j0]
      rw [if_neg (by decide), show (r.length : Int) - 1 = ((r.length - 1 : Nat) : Int) by omega]
      exact impl_Shorter_l0 r hr (r.length - 1) 0 f (by omega) (by omega)
    · rw [decide_eq_true (by omega), if_neg (fun c => h2 c.2)]
      simp only [impl_ShorterRow.j0, if_true]
  · rw [if_neg hr, if_neg (fun c => hr c.1)]
    simp only [impl_ShorterRow.j0, if_true]

theorem spec_Shorter_l0 (r : List Int) (hr : mixB r = true) : ∀ (d i f : Nat), i + d = r.length - 1 → d + 20 ≤ f →
    spec_ShorterRow.l0 f r ((List.range i).map (shortE r)) (i : Int) = some (fin (shortL r)) := by
  have hlen := mixB_len hr
  intro d
  induction d with
  | zero =>
    intro i f hi hf
    obtain ⟨f, rfl⟩ : ∃ g, f = g + 1 := ⟨f - 1, by omega⟩
    obtain rfl : i = r.length - 1 := by omega
    simp only [spec_ShorterRow.l0]
    rw [wr (n := ((r.length - 1 : Nat) : Int) + 1) (by omega) (by omega), if_neg (by omega), spec_MixOk_ok _ f (by simp; omega) (by simp; omega)]
    simp only [Option.bind_some]
    show _ = some (fin (shortL r))
    unfold fin
    change (if mixB (shortL r) = true then _ else _) = _
    split <;> rfl
  | succ d ih =>
    intro i f hi hf
    obtain ⟨f, rfl⟩ : ∃ g, f = g + 1 := ⟨f - 1, by omega⟩
    simp only [spec_ShorterRow.l0]
    rw [wr (n := (i : Int) + 1) (by omega) (by omega), if_pos (by omega), if_pos (by omega), if_pos (by omega), if_pos (by omega), if_pos (by simp; omega),
      wr (n := (r.length : Int) - 1) (by omega) (by omega), wr (n := (r.length : Int) - 1 - (i : Int)) (by omega) (by omega)]
    rw [show ((i : Int) + 1) = ((i + 1 : Nat) : Int) by omega, rd_getD, rd_getD, elem_ok (mixB_get hr i) (mixB_get hr (i + 1)) (by omega) (by omega)]
    have e : r.getD i 0 * ((r.length : Int) - 1 - (i : Int)) + r.getD (i + 1) 0 * ((i + 1 : Nat) : Int) = shortE r i := rfl
    rw [e, range_snoc]
    exact ih (i + 1) f (by omega) (by omega)

theorem spec_Shorter_ok (r : List Int) (f : Nat) (hl : r.length ≤ 17592186044416) (hf : r.length + 40 ≤ f) : spec_ShorterRow.f f r = some (shorterR r) := by
  obtain ⟨f, rfl⟩ : ∃ g, f = g + 1 := ⟨f - 1, by omega⟩
  unfold spec_ShorterRow.f shorterR
  rw [spec_MixOk_ok r _ hl (by omega)]; simp only [Option.bind_some]
  by_cases hr : mixB r = true
  · have hlen := mixB_len hr
    rw [if_pos hr]
    by_cases h2 : 2 ≤ r.length
    · rw [decide_eq_false (by omega), if_pos ⟨hr, h2⟩]
      simp only [spec_ShorterRow.j0]
      rw [if_neg (by decide)]
      exact spec_Shorter_l0 r hr (r.length - 1) 0 f (by omega) (by omega)
    · rw [decide_eq_true (by omega), if_neg (fun c => h2 c.2)]
      simp only [spec_ShorterRow.j0, if_true]
  · rw [if_neg hr, if_neg (fun c => hr c.1)]
    simp only [spec_ShorterRow.j0, if_true]

theorem fin_length (l : List Int) : (fin l).1.length ≤ l.length := by
  unfold fin; split <;> simp

theorem shorterR_length (r : List Int) : (shorterR r).1.length ≤ r.length := by
  unfold shorterR; split
  · have := fin_length (shortL r); rw [shortL_length] at this; omega
  · simp

theorem FnExactShorterRow : laws_FnExactShorterRow.Pure := by
  intro l _ h8 _
  have hl : l.length ≤ 17592186044416 := by omega
  refine ⟨l.length + 103, ?_⟩
  unfold laws_FnExactShorterRow.f
  by_cases hlen : (l.length : Int) > 1048576
  · rw [if_pos hlen]
  have hs := shorterR_length l
  have hn : l.length ≤ 1048576 := by omega
  rw [if_neg hlen]
  generalize hL : l.length = L at *
  have t1 : ∀ f, L + 2 ≤ f → laws_toIntS.f f l = some l := fun f hf => toIntS_ok l f (by omega) (by omega)
  have s1 : ∀ f, L + 40 ≤ f → impl_ShorterRow.f f l = some (shorterR l) := fun f hf => impl_Shorter_ok l f (by omega) (by omega)
  have s2 : ∀ f, L + 40 ≤ f → spec_ShorterRow.f f l = some (shorterR l) := fun f hf => spec_Shorter_ok l f (by omega) (by omega)
  have e1 : ∀ f, L + 2 ≤ f → laws_eqIntS.f f (shorterR l).1 (shorterR l).1 = some true := fun f hf => by rw [eqIntS_ok _ _ f (by omega) (by omega)]; simp
  have e2 : ∀ f, L + 2 ≤ f → laws_eqIntS.f f l l = some true := fun f hf => by rw [eqIntS_ok _ _ f (by omega) (by omega)]; simp
  have m1 : ∀ f, L + 2 ≤ f → laws_markIntS.f f l 1 = some (1 + (L : Int), markL 1 L) := fun f hf => by rw [markIntS_ok _ _ f (by omega) (by omega) (by omega) (by omega), hL]
  have m2 : ∀ f, L + 2 ≤ f → laws_markIntS.f f (shorterR l).1 1 = some (1 + ((shorterR l).1.length : Int), markL 1 (shorterR l).1.length) := fun f hf => markIntS_ok _ _ f (by omega) (by omega) (by omega) (by omega)
  have g1 : ∀ f, L + 2 ≤ f → laws_heldIntS.f f (markL 1 (shorterR l).1.length) 1 = some (1 + ((shorterR l).1.length : Int)) := fun f hf => heldIntS_ok _ _ f (by omega) (by omega) (by omega)
  rw [t1 _ (by omega)]; simp only [Option.bind_some]
  rw [s2 _ (by omega)]; simp only [Option.bind_some]
  rw [s1 _ (by omega)]; simp only [Option.bind_some]
  rw [e1 _ (by omega)]; simp only [Option.bind_some, if_true, bne_self_eq_false]
  rw [show L + 103 = (L + 102) + 1 by omega]
  simp only [laws_FnExactShorterRow.j0, Bool.false_eq_true, if_false]
  rw [t1 _ (by omega)]; simp only [Option.bind_some]
  rw [e2 _ (by omega)]; simp only [Option.bind_some, if_true]
  rw [m1 _ (by omega)]; simp only [Option.bind_some]
  rw [if_neg (by omega), e1 _ (by omega)]; simp only [Option.bind_some, if_true, bne_self_eq_false]
  rw [show L + 102 = (L + 101) + 1 by omega]
  simp only [laws_FnExactShorterRow.j1, Bool.false_eq_true, if_false]
  rw [m2 _ (by omega)]; simp only [Option.bind_some]
  rw [g1 _ (by omega)]; simp only [Option.bind_some]
  rw [if_neg (by omega), if_pos trivial, t1 _ (by omega)]; simp only [Option.bind_some]
  rw [s1 _ (by omega)]; simp only [Option.bind_some]
  rw [e1 _ (by omega)]; simp only [Option.bind_some, if_true, bne_self_eq_false]
  rw [show L + 101 = (L + 100) + 1 by omega]
  simp only [laws_FnExactShorterRow.j2, Bool.false_eq_true, if_false]
  rw [g1 _ (by omega)]; simp only [Option.bind_some]
  rw [if_neg (by omega), if_true]

end Go.Proofs.Ytncjjgfiddgckaa.Pure
