/- FnExactOneRound: for all arguments that the statement lets in, the law answers true. No condition of ours. -/
import Derived.Test.YtmjlbkejlbckoaaOwnFnExactOneRoundx2
namespace Go.Proofs.Ytmjlbkejlbckoaa.Pure
open Go.RowKit Go.Proofs.Ytmjlbkejlbckoaa.PFnExactOneRound Go.Proofs.YtmjlbkejlbckoaaW.PrintWords Go.Proofs.YtmjlbkejlbckoaaW.PrintLast

theorem wr {n : Int} (h0 : -9223372036854775808 ≤ n) (h1 : n < 9223372036854775808) : wrap64 n = n := by unfold wrap64; omega
theorem wrap_lo (x : Int) : -9223372036854775808 ≤ wrap64 x := by unfold wrap64; omega
theorem wrap_hi (x : Int) : wrap64 x < 9223372036854775808 := by unfold wrap64; omega

theorem rd_nat (l : List Int) (i : Nat) (h : i < l.length) : rd l (i : Int) = l[i] := by
  unfold rd
  rw [Int.toNat_natCast, List.getD_eq_getElem?_getD, List.getElem?_eq_getElem h]; rfl

theorem rd_getD (l : List Int) (i : Nat) : rd l (i : Int) = l.getD i 0 := by
  unfold rd; rw [Int.toNat_natCast]

theorem toIntS_l0 (l : List Int) (hl : l.length ≤ 17592186044416) : ∀ (d i f : Nat) (y : List Int), i + d = l.length → d < f → y.length = l.length → y.take i = l.take i →
    laws_toIntS.l0 f l y (i : Int) = some l := by
  intro d
  induction d with
  | zero =>
    intro i f y hi hf hy ht
    obtain ⟨f, rfl⟩ : ∃ g, f = g + 1 := ⟨f - 1, by omega⟩
    simp only [laws_toIntS.l0]; rw [if_neg (by omega)]
    rw [List.take_of_length_le (by omega), List.take_of_length_le (by omega)] at ht
    rw [ht]
  | succ d ih =>
    intro i f y hi hf hy ht
    obtain ⟨f, rfl⟩ : ∃ g, f = g + 1 := ⟨f - 1, by omega⟩
    simp only [laws_toIntS.l0]
    rw [if_pos (by omega), if_pos (by omega), if_pos (by omega), Int.toNat_natCast, rd_nat l i (by omega), wr (by omega) (by omega)]
    refine ih (i + 1) f (y.set i l[i]) (by omega) (by omega) (by simpa using hy) ?_
    rw [List.take_succ_eq_append_getElem (by simp; omega), List.take_succ_eq_append_getElem (by omega)]
    rw [List.take_set_of_le (by omega), ht]
    congr 1; simp

theorem toIntS_ok (l : List Int) (f : Nat) (hl : l.length ≤ 17592186044416) (hf : l.length + 2 ≤ f) : laws_toIntS.f f l = some l := by
  unfold laws_toIntS.f
  rw [if_pos (by omega), Int.toNat_natCast, if_pos (by omega)]
  exact toIntS_l0 l hl l.length 0 f _ (by omega) (by omega) (by simp) rfl

theorem eqIntS_l0 (a b : List Int) (hab : a.length = b.length) (hl : a.length ≤ 17592186044416) : ∀ (d i f : Nat), i + d = a.length → d < f →
    laws_eqIntS.l0 f a b (i : Int) = some (decide (a.drop i = b.drop i)) := by
  intro d
  induction d with
  | zero =>
    intro i f hi hf
    obtain ⟨f, rfl⟩ : ∃ g, f = g + 1 := ⟨f - 1, by omega⟩
    simp only [laws_eqIntS.l0]; rw [if_neg (by omega), List.drop_of_length_le (by omega), List.drop_of_length_le (by omega)]; rfl
  | succ d ih =>
    intro i f hi hf
    obtain ⟨f, rfl⟩ : ∃ g, f = g + 1 := ⟨f - 1, by omega⟩
    simp only [laws_eqIntS.l0]
    rw [if_pos (by omega), if_pos (by omega), if_pos (by omega), rd_nat a i (by omega), rd_nat b i (by omega), wr (by omega) (by omega)]
    rw [List.drop_eq_getElem_cons (show i < a.length by omega), List.drop_eq_getElem_cons (show i < b.length by omega)]
    by_cases h : a[i] = b[i]
    · rw [if_pos h]
      have := ih (i + 1) f (by omega) (by omega)
      rw [show ((i : Int) + 1) = ((i + 1 : Nat) : Int) by omega, this, h]
      congr 1; apply decide_eq_decide.2; exact ⟨fun c => by rw [c], fun c => (List.cons.inj c).2⟩
    · rw [if_neg h, decide_eq_false (fun c => h (List.cons.inj c).1)]

theorem eqIntS_ok (a b : List Int) (f : Nat) (hl : a.length ≤ 17592186044416) (hf : a.length + 2 ≤ f) : laws_eqIntS.f f a b = some (decide (a = b)) := by
  unfold laws_eqIntS.f
  by_cases h : (a.length : Int) = (b.length : Int)
  · rw [if_pos h]
    have := eqIntS_l0 a b (by omega) hl a.length 0 f (by omega) (by omega)
    rw [List.drop_zero, List.drop_zero] at this
    exact this
  · rw [if_neg h, decide_eq_false (fun c => h (by rw [c]))]

def hatOk (l : List Int) (i : Nat) : Bool := decide (0 ≤ l.getD i 0 ∧ l.getD i 0 < (l.length : Int)) && !(l.take i).contains (l.getD i 0)

/-- an order, from a place on -/
def hatB (l : List Int) : Nat → Nat → Bool
  | 0, _ => decide (l.length ≤ 6)
  | d + 1, i => hatOk l i && hatB l d (i + 1)

def hatsB (l : List Int) : Bool := hatB l l.length 0

theorem hatB_big (l : List Int) (h : ¬ l.length ≤ 6) : ∀ d i, hatB l d i = false := by
  intro d
  induction d with
  | zero => intro i; exact decide_eq_false h
  | succ d ih => intro i; simp only [hatB]; rw [ih, Bool.and_false]

theorem hatB_len {l : List Int} {d i : Nat} (h : hatB l d i = true) : l.length ≤ 6 := by
  by_cases c : l.length ≤ 6
  · exact c
  · rw [hatB_big l c] at h; cases h

theorem Index_l0 (l : List Int) (x : Int) (hl : l.length ≤ 17592186044416) : ∀ (d i f : Nat), i + d = l.length → d < f →
    ∃ r, slices_Index_int_int.l0 f l x (l.length : Int) (i : Int) = some r ∧ decide (r ≥ 0) = (l.drop i).contains x := by
  intro d
  induction d with
  | zero =>
    intro i f hi hf
    obtain ⟨f, rfl⟩ : ∃ g, f = g + 1 := ⟨f - 1, by omega⟩
    refine ⟨-1, ?_, ?_⟩
    · simp only [slices_Index_int_int.l0]; rw [if_neg (by omega)]
    · rw [List.drop_of_length_le (by omega)]; rfl
  | succ d ih =>
    intro i f hi hf
    obtain ⟨f, rfl⟩ : ∃ g, f = g + 1 := ⟨f - 1, by omega⟩
    simp only [slices_Index_int_int.l0]
    rw [if_pos (by omega), if_pos (by omega), if_pos (by omega), rd_nat l i (by omega), wr (n := (i : Int) + 1) (by omega) (by omega), List.drop_eq_getElem_cons (show i < l.length by omega), List.contains_cons]
    by_cases h : x = l[i]
    · refine ⟨(i : Int), by rw [if_pos h], ?_⟩
      rw [decide_eq_true (by omega), ← h]; simp
    · rw [if_neg h, show (i : Int) + 1 = ((i + 1 : Nat) : Int) by omega, show (x == l[i]) = false by simpa using h, Bool.false_or]
      exact ih (i + 1) f (by omega) (by omega)

theorem Contains_ok (l : List Int) (x : Int) (f : Nat) (hl : l.length ≤ 17592186044416) (hf : l.length + 2 ≤ f) : slices_Contains_int_int.f f l x = some (l.contains x) := by
  obtain ⟨r, h1, h2⟩ := Index_l0 l x hl l.length 0 f (by omega) (by omega)
  have h3 : slices_Index_int_int.l0 f l x (l.length : Int) 0 = some r := h1
  rw [List.drop_zero] at h2
  unfold slices_Contains_int_int.f slices_Index_int_int.f
  rw [h3]; simp only [Option.bind_some]
  rw [h2]

theorem impl_HatsOk_l0 (l : List Int) (hl : l.length ≤ 17592186044416) : ∀ (d i f : Nat), i + d = l.length → d + l.length + 3 ≤ f →
    impl_HatsOk.l0 f l l (l.length : Int) (i : Int) = some (hatB l d i) := by
  intro d
  induction d with
  | zero =>
    intro i f hi hf
    obtain ⟨f, rfl⟩ : ∃ g, f = g + 1 := ⟨f - 1, by omega⟩
    simp only [impl_HatsOk.l0, hatB]; rw [if_neg (by omega)]; congr 1; apply decide_eq_decide.2; omega
  | succ d ih =>
    intro i f hi hf
    obtain ⟨f, rfl⟩ : ∃ g, f = g + 1 := ⟨f - 1, by omega⟩
    simp only [impl_HatsOk.l0, hatB]
    unfold hatOk
    rw [if_pos (by omega), if_pos (by omega), if_pos (by omega), rd_getD, wr (by omega) (by omega)]
    by_cases h1 : l.getD i 0 < 0
    · rw [if_pos h1, decide_eq_false (by omega)]; rfl
    by_cases h2 : l.getD i 0 ≥ (l.length : Int)
    · rw [if_neg h1, if_pos h2, decide_eq_false (by omega)]; rfl
    rw [if_neg h1, if_neg h2, if_pos (by omega), Int.toNat_natCast, Contains_ok _ _ f (by simp; omega) (by simp; omega), decide_eq_true (by omega)]
    simp only [Option.bind_some, Bool.true_and]
    by_cases h3 : (l.take i).contains (l.getD i 0) = true
    · rw [if_pos h3, h3]; rfl
    · rw [if_neg h3, show (l.take i).contains (l.getD i 0) = false by simpa using h3]
      rw [show ((i : Int) + 1) = ((i + 1 : Nat) : Int) by omega, ih (i + 1) f (by omega) (by omega)]
      rfl

theorem impl_HatsOk_ok (l : List Int) (f : Nat) (hl : l.length ≤ 17592186044416) (hf : l.length + l.length + 3 ≤ f) : impl_HatsOk.f f l = some (hatsB l) := by
  unfold impl_HatsOk.f hatsB
  exact impl_HatsOk_l0 l hl l.length 0 f (by omega) (by omega)

theorem or_nat {a c : Nat} (ha : a < 2 ^ 62) (hc : c < 2 ^ 62) : Go.bits .or .i64 (a : Int) (c : Int) = ((a ||| c : Nat) : Int) := by
  have hx := Nat.or_lt_two_pow ha hc
  have h1 : a % 2 ^ 64 = a := Nat.mod_eq_of_lt (by omega)
  have h2 : c % 2 ^ 64 = c := Nat.mod_eq_of_lt (by omega)
  have e : Go.bits .or .i64 (a : Int) (c : Int) = wrap64 ((a ||| c : Nat) : Int) := by
    simp only [Go.bits, BitVec.ofInt_natCast, BitVec.toNat_or, BitVec.toNat_ofNat]
    rw [show Go.IntKind.i64.bits = 64 from rfl, h1, h2, Go.IntKind.wrap_i64]
    unfold wrap64
    with_reducible rfl
  rw [e, wr (by omega) (by omega)]

theorem shl_one {y : Nat} (hy : y < 6) : shl .i64 1 (y : Int) = ((2 ^ y : Nat) : Int) := by
  unfold shl
  rw [Int.toNat_natCast, show Go.IntKind.i64.bits = 64 from rfl, Nat.min_eq_left (by omega), Go.IntKind.wrap_i64]
  rcases (show y = 0 ∨ y = 1 ∨ y = 2 ∨ y = 3 ∨ y = 4 ∨ y = 5 by omega) with rfl | rfl | rfl | rfl | rfl | rfl <;> decide

theorem shr_bit {s y : Nat} (hy : y < 6) : (Int.tmod (shr .i64 (s : Int) (y : Int)) 2 = 1) ↔ s.testBit y = true := by
  unfold shr
  rw [Int.toNat_natCast, show Go.IntKind.i64.bits = 64 from rfl, Nat.min_eq_left (by omega)]
  rw [show ((2 : Int) ^ y) = ((2 ^ y : Nat) : Int) by simp, ← Int.natCast_ediv]
  rw [show (2 : Int) = ((2 : Nat) : Int) from rfl, ← Int.ofNat_tmod, Nat.testBit_eq_decide_div_mod_eq]
  simp only [decide_eq_true_eq]
  omega

theorem spec_HatsOk_l0 (l : List Int) (hl : l.length ≤ 17592186044416) : ∀ (d i f s : Nat), i + d = l.length → d < f → s < 64 →
    (∀ y : Nat, y < 6 → s.testBit y = (l.take i).contains (y : Int)) → spec_HatsOk.l0 f l (s : Int) (i : Int) = some (hatB l d i) := by
  intro d
  induction d with
  | zero =>
    intro i f s hi hf _ _
    obtain ⟨f, rfl⟩ : ∃ g, f = g + 1 := ⟨f - 1, by omega⟩
    simp only [spec_HatsOk.l0, hatB]; rw [if_neg (by omega)]; congr 1; apply decide_eq_decide.2; omega
  | succ d ih =>
    intro i f s hi hf hs hb
    obtain ⟨f, rfl⟩ : ∃ g, f = g + 1 := ⟨f - 1, by omega⟩
    simp only [spec_HatsOk.l0, hatB]
    unfold hatOk
    rw [if_pos (by omega), if_pos (by omega), rd_getD, wr (by omega) (by omega)]
    by_cases h1 : l.getD i 0 < 0
    · rw [if_pos h1, decide_eq_false (by omega)]; rfl
    by_cases h2 : l.getD i 0 ≥ (l.length : Int)
    · rw [if_neg h1, if_pos h2, decide_eq_false (by omega)]; rfl
    rw [if_neg h1, if_neg h2, decide_eq_true (by omega), Bool.true_and]
    by_cases h6 : l.getD i 0 ≥ 6
    · rw [if_pos h6, hatB_big l (by omega), Bool.and_false]
    rw [if_neg h6, if_pos (by omega)]
    obtain ⟨y, hy⟩ := Int.eq_ofNat_of_zero_le (show 0 ≤ l.getD i 0 by omega)
    rw [hy] at h1 h2 h6 ⊢
    have hy6 : y < 6 := by omega
    have hyb := hb y hy6
    by_cases h3 : s.testBit y = true
    · rw [if_pos ((shr_bit hy6).2 h3), ← hyb, h3]; rfl
    · rw [if_neg (fun c => h3 ((shr_bit hy6).1 c)), ← hyb, show s.testBit y = false by simpa using h3]
      have p6 : 2 ^ y < 64 := by
        have : 2 ^ y ≤ 2 ^ 5 := Nat.pow_le_pow_right (by omega) (by omega)
        omega
      have o6 : s ||| 2 ^ y < 2 ^ 6 := Nat.or_lt_two_pow (by omega) (by omega)
      rw [shl_one hy6, or_nat (by omega) (by omega), show ((i : Int) + 1) = ((i + 1 : Nat) : Int) by omega]
      rw [ih (i + 1) f (s ||| 2 ^ y) (by omega) (by omega) (by omega) ?_]
      · rfl
      intro z hz
      rw [Nat.testBit_or, hb z hz, Nat.testBit_two_pow, List.take_succ_eq_append_getElem (show i < l.length by omega)]
      have e : l[i]'(by omega) = (y : Int) := by rw [← hy, List.getD_eq_getElem?_getD, List.getElem?_eq_getElem (by omega)]; rfl
      rw [e, List.contains_append]
      congr 1
      rw [Bool.eq_iff_iff]
      simp
      omega

theorem spec_HatsOk_ok (l : List Int) (f : Nat) (hl : l.length ≤ 17592186044416) (hf : l.length + 3 ≤ f) : spec_HatsOk.f f l = some (hatsB l) := by
  unfold spec_HatsOk.f hatsB
  exact spec_HatsOk_l0 l hl l.length 0 f 0 (by omega) (by omega) (by omega) (fun y _ => by simp)

/-- a check holds at p and all orders of n that go on from it -/
def perms (t : List Int → Bool) (n : Nat) : Nat → List Int → Bool
  | 0, p => t p
  | d + 1, p => (List.range n).all fun x => p.contains (x : Int) || perms t n d (p ++ [(x : Int)])

theorem perms_all (t : List Int → Bool) (l : List Int) : ∀ (d i : Nat), i + d = l.length → hatB l d i = true → perms t l.length d (l.take i) = true → t l = true := by
  intro d
  induction d with
  | zero =>
    intro i hi _ h
    simp only [perms] at h
    rw [List.take_of_length_le (by omega)] at h
    exact h
  | succ d ih =>
    intro i hi hh h
    simp only [hatB, Bool.and_eq_true] at hh
    obtain ⟨h1, h2⟩ := hh
    unfold hatOk at h1
    simp only [Bool.and_eq_true, decide_eq_true_eq] at h1
    obtain ⟨y, hy⟩ := Int.eq_ofNat_of_zero_le h1.1.1
    simp only [perms, List.all_eq_true, List.mem_range] at h
    have := h y (by have := h1.1.2; rw [hy] at this; omega)
    have hc : (l.take i).contains (y : Int) = false := by
      have := h1.2; rw [hy] at this; simpa using this
    rw [hc, Bool.false_or] at this
    refine ih (i + 1) (by omega) h2 ?_
    rw [List.take_succ_eq_append_getElem (show i < l.length by omega)]
    have e : l[i]'(by omega) = (y : Int) := by rw [← hy, List.getD_eq_getElem?_getD, List.getElem?_eq_getElem (by omega)]; rfl
    rw [e]; exact this

def roundT (p : List Int) : Bool := (impl_OneRound.l0 10 p 1 (rd p 0)).isSome

set_option maxRecDepth 100000 in
theorem roundT_all : perms roundT 1 1 [] && perms roundT 2 2 [] && perms roundT 3 3 [] && perms roundT 4 4 [] && perms roundT 5 5 [] && perms roundT 6 6 [] = true := by decide +kernel

theorem round_some (l : List Int) (h : hatsB l = true) (h0 : l.length ≠ 0) : ∃ r, ∀ f, 10 ≤ f → impl_OneRound.l0 f l 1 (rd l 0) = some r := by
  have hl := hatB_len h
  have ha := roundT_all
  simp only [Bool.and_eq_true] at ha
  have ht : perms roundT l.length l.length (l.take 0) = true := by
    rw [List.take_zero]
    rcases (show l.length = 1 ∨ l.length = 2 ∨ l.length = 3 ∨ l.length = 4 ∨ l.length = 5 ∨ l.length = 6 by omega) with e | e | e | e | e | e <;> rw [e]
    · exact ha.1.1.1.1.1
    · exact ha.1.1.1.1.2
    · exact ha.1.1.1.2
    · exact ha.1.1.2
    · exact ha.1.2
    · exact ha.2
  have := perms_all roundT l l.length 0 (by omega) h ht
  unfold roundT at this
  obtain ⟨r, hr⟩ := Option.isSome_iff_exists.1 this
  refine ⟨r, fun f hf => ?_⟩
  have hm : ∀ k, LeO (impl_OneRound.l0 k l 1 (rd l 0)) (impl_OneRound.l0 (k + 1) l 1 (rd l 0)) := fun k => (impl_OneRound.mono_l k).2 l 1 (rd l 0)
  exact at_rounds (g := fun k => impl_OneRound.l0 k l 1 (rd l 0)) hm hf hr

theorem round_same : ∀ (f : Nat) (l : List Int) (n x : Int), spec_OneRound.l0 f l n x = impl_OneRound.l0 f l n x := by
  intro f
  induction f with
  | zero => intro l n x; rfl
  | succ f ih => intro l n x; simp only [spec_OneRound.l0, impl_OneRound.l0, ih]

theorem OneRound_both (l : List Int) (hl : l.length ≤ 17592186044416) : ∃ r, ∀ f, l.length + l.length + 20 ≤ f → impl_OneRound.f f l = some r ∧ spec_OneRound.f f l = some r := by
  by_cases h : hatsB l = true
  · by_cases h0 : l.length = 0
    · refine ⟨false, fun f hf => ?_⟩
      obtain ⟨f, rfl⟩ : ∃ g, f = g + 1 := ⟨f - 1, by omega⟩
      unfold impl_OneRound.f spec_OneRound.f
      rw [impl_HatsOk_ok l _ hl (by omega), spec_HatsOk_ok l _ hl (by omega), h, h0]
      exact ⟨rfl, rfl⟩
    · obtain ⟨r, hr⟩ := round_some l h h0
      refine ⟨r, fun f hf => ?_⟩
      obtain ⟨f, rfl⟩ : ∃ g, f = g + 1 := ⟨f - 1, by omega⟩
      have e : ((l.length : Int) == 0) = false := by simp; intro c; exact h0 (by rw [c]; rfl)
      unfold impl_OneRound.f spec_OneRound.f
      rw [impl_HatsOk_ok l _ hl (by omega), spec_HatsOk_ok l _ hl (by omega), h, e]
      simp only [Option.bind_some, if_true, impl_OneRound.j0, spec_OneRound.j0, Bool.false_eq_true, if_false]
      rw [if_pos (by omega), if_pos (by omega), round_same, hr f (by omega)]
      exact ⟨rfl, rfl⟩
  · refine ⟨false, fun f hf => ?_⟩
    obtain ⟨f, rfl⟩ : ∃ g, f = g + 1 := ⟨f - 1, by omega⟩
    unfold impl_OneRound.f spec_OneRound.f
    rw [impl_HatsOk_ok l _ hl (by omega), spec_HatsOk_ok l _ hl (by omega), show hatsB l = false by simpa using h]
    exact ⟨rfl, rfl⟩

theorem FnExactOneRound : laws_FnExactOneRound.Pure := by
  intro l _ h8 _
  have hl : l.length ≤ 17592186044416 := by omega
  refine ⟨l.length + l.length + 30, ?_⟩
  obtain ⟨r, hr⟩ := OneRound_both l hl
  unfold laws_FnExactOneRound.f
  by_cases hlen : (l.length : Int) > 1048576
  · rw [if_pos hlen]
  rw [if_neg hlen, toIntS_ok l _ hl (by omega)]; simp only [Option.bind_some]
  rw [(hr _ (by omega)).2]; simp only [Option.bind_some]
  rw [(hr _ (by omega)).1]; simp only [Option.bind_some, bne_self_eq_false, Bool.false_eq_true, if_false]
  rw [eqIntS_ok l l _ hl (by omega)]; simp only [Option.bind_some, decide_true, if_true]

end Go.Proofs.Ytmjlbkejlbckoaa.Pure
