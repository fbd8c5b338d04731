/- FnExactLongestRun: for all arguments that the statement lets in, the law answers true. No condition of ours. -/
import Derived.Test.YtmjlbkejlbckoaaOwnFnExactLongestRunx2
namespace Go.Proofs.Ytmjlbkejlbckoaa.Pure
open Go.RowKit Go.Proofs.Ytmjlbkejlbckoaa.PFnExactLongestRun Go.Proofs.YtmjlbkejlbckoaaW.PrintWords Go.Proofs.YtmjlbkejlbckoaaW.PrintLast

theorem wr {n : Int} (h0 : -9223372036854775808 ≤ n) (h1 : n < 9223372036854775808) : wrap64 n = n := by unfold wrap64; omega
theorem wrap_lo (x : Int) : -9223372036854775808 ≤ wrap64 x := by unfold wrap64; omega
theorem wrap_hi (x : Int) : wrap64 x < 9223372036854775808 := by unfold wrap64; omega

theorem rd_nat (l : List Int) (i : Nat) (h : i < l.length) : rd l (i : Int) = l[i] := by
  unfold rd
  rw [Int.toNat_natCast, List.getD_eq_getElem?_getD, List.getElem?_eq_getElem h]; rfl

theorem rd_getD (l : List Int) (i : Nat) : rd l (i : Int) = l.getD i 0 := by
  unfold rd; rw [Int.toNat_natCast]

theorem toIntS_l0 (l : List Int) (hl : l.length ≤ 17592186044416) : ∀ (d i f : Nat) (y : List Int), i + d = l.length → d < f → y.length = l.length → y.take i = l.take i →
    laws_toIntS.l0 f l y (i : Int) = some l := by
  intro d
  induction d with
  | zero =>
    intro i f y hi hf hy ht
    obtain ⟨f, rfl⟩ : ∃ g, f = g + 1 := ⟨f - 1, by omega⟩
    simp only [laws_toIntS.l0]; rw [if_neg (by omega)]
    rw [List.take_of_length_le (by omega), List.take_of_length_le (by omega)] at ht
    rw [ht]
  | succ d ih =>
    intro i f y hi hf hy ht
    obtain ⟨f, rfl⟩ : ∃ g, f = g + 1 := ⟨f - 1, by omega⟩
    simp only [laws_toIntS.l0]
    rw [if_pos (by omega), if_pos (by omega), if_pos (by omega), Int.toNat_natCast, rd_nat l i (by omega), wr (by omega) (by omega)]
    refine ih (i + 1) f (y.set i l[i]) (by omega) (by omega) (by simpa using hy) ?_
    rw [List.take_succ_eq_append_getElem (by simp; omega), List.take_succ_eq_append_getElem (by omega)]
    rw [List.take_set_of_le (by omega), ht]
    congr 1; simp

theorem toIntS_ok (l : List Int) (f : Nat) (hl : l.length ≤ 17592186044416) (hf : l.length + 2 ≤ f) : laws_toIntS.f f l = some l := by
  unfold laws_toIntS.f
  rw [if_pos (by omega), Int.toNat_natCast, if_pos (by omega)]
  exact toIntS_l0 l hl l.length 0 f _ (by omega) (by omega) (by simp) rfl

theorem eqIntS_l0 (a b : List Int) (hab : a.length = b.length) (hl : a.length ≤ 17592186044416) : ∀ (d i f : Nat), i + d = a.length → d < f →
    laws_eqIntS.l0 f a b (i : Int) = some (decide (a.drop i = b.drop i)) := by
  intro d
  induction d with
  | zero =>
    intro i f hi hf
    obtain ⟨f, rfl⟩ : ∃ g, f = g + 1 := ⟨f - 1, by omega⟩
    simp only [laws_eqIntS.l0]; rw [if_neg (by omega), List.drop_of_length_le (by omega), List.drop_of_length_le (by omega)]; rfl
  | succ d ih =>
    intro i f hi hf
    obtain ⟨f, rfl⟩ : ∃ g, f = g + 1 := ⟨f - 1, by omega⟩
    simp only [laws_eqIntS.l0]
    rw [if_pos (by omega), if_pos (by omega), if_pos (by omega), rd_nat a i (by omega), rd_nat b i (by omega), wr (by omega) (by omega)]
    rw [List.drop_eq_getElem_cons (show i < a.length by omega), List.drop_eq_getElem_cons (show i < b.length by omega)]
    by_cases h : a[i] = b[i]
    · rw [if_pos h]
      have := ih (i + 1) f (by omega) (by omega)
      rw [show ((i : Int) + 1) = ((i + 1 : Nat) : Int) by omega, this, h]
      congr 1; apply decide_eq_decide.2; exact ⟨fun c => by rw [c], fun c => (List.cons.inj c).2⟩
    · rw [if_neg h, decide_eq_false (fun c => h (List.cons.inj c).1)]

theorem eqIntS_ok (a b : List Int) (f : Nat) (hl : a.length ≤ 17592186044416) (hf : a.length + 2 ≤ f) : laws_eqIntS.f f a b = some (decide (a = b)) := by
  unfold laws_eqIntS.f
  by_cases h : (a.length : Int) = (b.length : Int)
  · rw [if_pos h]
    have := eqIntS_l0 a b (by omega) hl a.length 0 f (by omega) (by omega)
    rw [List.drop_zero, List.drop_zero] at this
    exact this
  · rw [if_neg h, decide_eq_false (fun c => h (by rw [c]))]

theorem l1In_ok (a b c : Int) : spec_l1In.f a b c = some (decide (b ≤ a ∧ a ≤ c)) := by
  unfold spec_l1In.f
  by_cases h : a ≥ b
  · rw [if_pos h]; simp [h]
  · rw [if_neg h]; simp; omega

def inC (c x : Int) : Bool := decide (0 ≤ x ∧ x < c)

/-- a word of so many colours -/
def wordB (c : Int) (l : List Int) : Bool := l.all (inC c) && decide (1 ≤ c ∧ c ≤ 3 ∧ l.length ≤ 6)

theorem wordB_some {c : Int} {l : List Int} (h : wordB c l = true) : (∀ x ∈ l, 0 ≤ x ∧ x < c) ∧ 1 ≤ c ∧ c ≤ 3 ∧ l.length ≤ 6 := by
  unfold wordB at h
  simp only [Bool.and_eq_true, List.all_eq_true, decide_eq_true_eq] at h
  exact ⟨fun x hx => by have := h.1 x hx; unfold inC at this; simpa using this, h.2⟩

theorem wordB_mk {c : Int} {l : List Int} (h : ∀ x ∈ l, 0 ≤ x ∧ x < c) (h2 : 1 ≤ c ∧ c ≤ 3 ∧ l.length ≤ 6) : wordB c l = true := by
  unfold wordB
  simp only [Bool.and_eq_true, List.all_eq_true, decide_eq_true_eq]
  exact ⟨fun x hx => by unfold inC; exact decide_eq_true (h x hx), h2⟩

theorem impl_WordOk_l0 (c : Int) (l : List Int) (hl : l.length ≤ 17592186044416) : ∀ (d i f : Nat), i + d = l.length → d < f →
    impl_WordOk.l0 f c l l (l.length : Int) (i : Int) = some ((l.drop i).all (inC c) && decide (1 ≤ c ∧ c ≤ 3 ∧ l.length ≤ 6)) := by
  intro d
  induction d with
  | zero =>
    intro i f hi hf
    obtain ⟨f, rfl⟩ : ∃ g, f = g + 1 := ⟨f - 1, by omega⟩
    simp only [impl_WordOk.l0]; rw [if_neg (by omega), List.drop_of_length_le (by omega), List.all_nil, Bool.true_and]
    unfold impl_coloursOk.f
    by_cases h : c ≥ 1
    · rw [if_pos h]; simp only [Option.bind_some]
      by_cases h2 : c ≤ 3
      · rw [if_pos (decide_eq_true h2)]; congr 1; apply decide_eq_decide.2; omega
      · rw [decide_eq_false h2, if_neg (by decide), decide_eq_false (by omega)]
    · rw [if_neg h]; simp only [Option.bind_some]; rw [if_neg (by decide), decide_eq_false (by omega)]
  | succ d ih =>
    intro i f hi hf
    obtain ⟨f, rfl⟩ : ∃ g, f = g + 1 := ⟨f - 1, by omega⟩
    simp only [impl_WordOk.l0]
    rw [if_pos (by omega), if_pos (by omega), if_pos (by omega), rd_nat l i (by omega), wr (by omega) (by omega), List.drop_eq_getElem_cons (show i < l.length by omega), List.all_cons]
    by_cases h1 : l[i] < 0
    · rw [if_pos h1, show inC c l[i] = false from decide_eq_false (by omega)]; rfl
    by_cases h2 : l[i] ≥ c
    · rw [if_neg h1, if_pos h2, show inC c l[i] = false from decide_eq_false (by omega)]; rfl
    · rw [if_neg h1, if_neg h2]
      have := ih (i + 1) f (by omega) (by omega)
      rw [show ((i : Int) + 1) = ((i + 1 : Nat) : Int) by omega, this, show inC c l[i] = true from decide_eq_true (by omega), Bool.true_and]

theorem impl_WordOk_ok (c : Int) (l : List Int) (f : Nat) (hl : l.length ≤ 17592186044416) (hf : l.length + 2 ≤ f) : impl_WordOk.f f c l = some (wordB c l) := by
  unfold impl_WordOk.f wordB
  have := impl_WordOk_l0 c l hl l.length 0 f (by omega) (by omega)
  rw [List.drop_zero] at this
  exact this

theorem spec_WordOk_l0 (c : Int) (l : List Int) (hl : l.length ≤ 17592186044416) : ∀ (d i f : Nat), i + d = l.length → d < f →
    spec_WordOk.l0 f c l (i : Int) = some ((l.drop i).all (inC c) && decide (1 ≤ c ∧ c ≤ 3 ∧ l.length ≤ 6)) := by
  intro d
  induction d with
  | zero =>
    intro i f hi hf
    obtain ⟨f, rfl⟩ : ∃ g, f = g + 1 := ⟨f - 1, by omega⟩
    simp only [spec_WordOk.l0]; rw [if_neg (by omega), List.drop_of_length_le (by omega), List.all_nil, Bool.true_and, l1In_ok]
    simp only [Option.bind_some]
    by_cases h : 1 ≤ c ∧ c ≤ 3
    · rw [if_pos (decide_eq_true h)]; congr 1; apply decide_eq_decide.2; omega
    · rw [decide_eq_false h, if_neg (by decide), decide_eq_false (by omega)]
  | succ d ih =>
    intro i f hi hf
    obtain ⟨f, rfl⟩ : ∃ g, f = g + 1 := ⟨f - 1, by omega⟩
    simp only [spec_WordOk.l0]
    rw [if_pos (by omega), if_pos (by omega), rd_nat l i (by omega), wr (by omega) (by omega), List.drop_eq_getElem_cons (show i < l.length by omega), List.all_cons]
    by_cases h1 : l[i] < 0
    · rw [if_pos h1, show inC c l[i] = false from decide_eq_false (by omega)]; rfl
    by_cases h2 : l[i] ≥ c
    · rw [if_neg h1, if_pos h2, show inC c l[i] = false from decide_eq_false (by omega)]; rfl
    · rw [if_neg h1, if_neg h2]
      have := ih (i + 1) f (by omega) (by omega)
      rw [show ((i : Int) + 1) = ((i + 1 : Nat) : Int) by omega, this, show inC c l[i] = true from decide_eq_true (by omega), Bool.true_and]

theorem spec_WordOk_ok (c : Int) (l : List Int) (f : Nat) (hl : l.length ≤ 17592186044416) (hf : l.length + 2 ≤ f) : spec_WordOk.f f c l = some (wordB c l) := by
  unfold spec_WordOk.f wordB
  have := spec_WordOk_l0 c l hl l.length 0 f (by omega) (by omega)
  rw [List.drop_zero] at this
  exact this

/-- runs, longest run and the run at hand, after so many draws -/
def st (l : List Int) : Nat → Nat × Nat × Nat
  | 0 => (0, 0, 0)
  | i + 1 =>
    if i = 0 ∨ l.getD (i - 1) 0 ≠ l.getD i 0 then ((st l i).1 + 1, max (st l i).2.1 1, 1)
    else ((st l i).1, max (st l i).2.1 ((st l i).2.2 + 1), (st l i).2.2 + 1)

def runsN (l : List Int) : Nat := (st l l.length).1
def longN (l : List Int) : Nat := (st l l.length).2.1

theorem st_le (l : List Int) (i : Nat) : (st l i).1 ≤ i ∧ (st l i).2.1 ≤ i ∧ (st l i).2.2 ≤ i := by
  induction i with
  | zero => simp [st]
  | succ i ih =>
    unfold st
    split
    · refine ⟨by show (st l i).1 + 1 ≤ _; omega, ?_, by show 1 ≤ _; omega⟩
      show max (st l i).2.1 1 ≤ _
      omega
    · refine ⟨by show (st l i).1 ≤ _; omega, ?_, by show (st l i).2.2 + 1 ≤ _; omega⟩
      show max (st l i).2.1 ((st l i).2.2 + 1) ≤ _
      omega

theorem st_new (l : List Int) (i : Nat) (h : i = 0 ∨ l.getD (i - 1) 0 ≠ l.getD i 0) : st l (i + 1) = ((st l i).1 + 1, max (st l i).2.1 1, 1) := by
  conv => lhs; unfold st
  rw [if_pos h]

theorem st_old (l : List Int) (i : Nat) (h : ¬ (i = 0 ∨ l.getD (i - 1) 0 ≠ l.getD i 0)) : st l (i + 1) = ((st l i).1, max (st l i).2.1 ((st l i).2.2 + 1), (st l i).2.2 + 1) := by
  conv => lhs; unfold st
  rw [if_neg h]

theorem mx_nat (a b : Nat) : mx (a : Int) (b : Int) = ((max a b : Nat) : Int) := by
  unfold mx; split <;> omega

theorem impl_runsOf_l0 (l : List Int) (hl : l.length ≤ 17592186044416) : ∀ (d i f : Nat), i + d = l.length → d < f →
    impl_runsOf.l0 f l ((st l i).1 : Int) ((st l i).2.1 : Int) ((st l i).2.2 : Int) l (l.length : Int) (i : Int) = some ((runsN l : Int), (longN l : Int)) := by
  intro d
  induction d with
  | zero =>
    intro i f hi hf
    obtain ⟨f, rfl⟩ : ∃ g, f = g + 1 := ⟨f - 1, by omega⟩
    obtain rfl : i = l.length := by omega
    simp only [impl_runsOf.l0]; rw [if_neg (by omega)]; rfl
  | succ d ih =>
    intro i f hi hf
    obtain ⟨f, rfl⟩ : ∃ g, f = g + 1 := ⟨f - 1, by omega⟩
    have hs := st_le l i
    have := ih (i + 1) f (by omega) (by omega)
    have m1 : mx ((st l i).2.1 : Int) (0 + 1) = ((max (st l i).2.1 1 : Nat) : Int) := mx_nat _ 1
    have m2 : mx ((st l i).2.1 : Int) (((st l i).2.2 : Int) + 1) = ((max (st l i).2.1 ((st l i).2.2 + 1) : Nat) : Int) := mx_nat _ ((st l i).2.2 + 1)
    simp only [impl_runsOf.l0]
    rw [if_pos (by omega), if_pos (by omega), if_pos (by omega), wr (n := ((st l i).1 : Int) + 1) (by omega) (by omega), wr (n := ((st l i).2.2 : Int) + 1) (by omega) (by omega), wr (n := (i : Int) + 1) (by omega) (by omega), m1, m2]
    by_cases h0 : i = 0
    · rw [st_new l i (.inl h0)] at this
      rw [if_pos (by omega)]
      exact this
    · rw [if_neg (by omega), wr (n := (i : Int) - 1) (by omega) (by omega), if_pos (by omega), if_pos (by omega), show (i : Int) - 1 = ((i - 1 : Nat) : Int) by omega, rd_getD, rd_getD]
      by_cases h1 : l.getD (i - 1) 0 = l.getD i 0
      · rw [st_old l i (fun c => c.elim h0 (fun c => c h1))] at this
        rw [if_pos h1]
        exact this
      · rw [st_new l i (.inr h1)] at this
        rw [if_neg h1]
        exact this

theorem impl_runsOf_ok (l : List Int) (f : Nat) (hl : l.length ≤ 17592186044416) (hf : l.length + 2 ≤ f) : impl_runsOf.f f l = some ((runsN l : Int), (longN l : Int)) := by
  unfold impl_runsOf.f
  exact impl_runsOf_l0 l hl l.length 0 f (by omega) (by omega)

def longW (c : Int) (l : List Int) : Int := if wordB c l = true then (longN l : Int) else -1

theorem impl_LongestRun_ok (c : Int) (l : List Int) (f : Nat) (hl : l.length ≤ 17592186044416) (hf : l.length + 2 ≤ f) : impl_LongestRun.f f c l = some (longW c l) := by
  unfold impl_LongestRun.f longW
  rw [impl_WordOk_ok c l f hl hf]; simp only [Option.bind_some]
  split
  · rw [impl_runsOf_ok l f hl hf]; rfl
  · rfl

theorem spec_LongestRun_l0 (l : List Int) (hl : l.length ≤ 17592186044416) : ∀ (d i f : Nat), i + d = l.length → d < f →
    spec_LongestRun.l0 f l ((st l i).2.1 : Int) ((st l i).2.2 : Int) (i : Int) = some (longN l : Int) := by
  intro d
  induction d with
  | zero =>
    intro i f hi hf
    obtain ⟨f, rfl⟩ : ∃ g, f = g + 1 := ⟨f - 1, by omega⟩
    obtain rfl : i = l.length := by omega
    simp only [spec_LongestRun.l0]; rw [if_neg (by omega)]; rfl
  | succ d ih =>
    intro i f hi hf
    obtain ⟨f, rfl⟩ : ∃ g, f = g + 1 := ⟨f - 1, by omega⟩
    have hs := st_le l i
    have := ih (i + 1) f (by omega) (by omega)
    have m1 : mx ((st l i).2.1 : Int) (0 + 1) = ((max (st l i).2.1 1 : Nat) : Int) := mx_nat _ 1
    have m2 : mx ((st l i).2.1 : Int) (((st l i).2.2 : Int) + 1) = ((max (st l i).2.1 ((st l i).2.2 + 1) : Nat) : Int) := mx_nat _ ((st l i).2.2 + 1)
    simp only [spec_LongestRun.l0]
    rw [if_pos (by omega), wr (n := ((st l i).2.2 : Int) + 1) (by omega) (by omega), wr (n := (i : Int) + 1) (by omega) (by omega), m1, m2]
    by_cases h0 : i = 0
    · subst h0
      rw [st_new l 0 (.inl rfl)] at this
      rw [if_neg (by omega)]
      exact this
    · rw [if_pos (by omega), if_pos (by omega), wr (n := (i : Int) - 1) (by omega) (by omega), if_pos (by omega), if_pos (by omega), show (i : Int) - 1 = ((i - 1 : Nat) : Int) by omega, rd_getD, rd_getD]
      by_cases h1 : l.getD (i - 1) 0 = l.getD i 0
      · rw [st_old l i (fun c => c.elim h0 (fun c => c h1))] at this
        rw [if_pos h1.symm]
        exact this
      · rw [st_new l i (.inr h1)] at this
        rw [if_neg (fun c => h1 c.symm)]
        exact this

theorem spec_LongestRun_ok (c : Int) (l : List Int) (f : Nat) (hl : l.length ≤ 17592186044416) (hf : l.length + 2 ≤ f) : spec_LongestRun.f f c l = some (longW c l) := by
  unfold spec_LongestRun.f longW
  rw [spec_WordOk_ok c l f hl hf]; simp only [Option.bind_some]
  split
  · exact spec_LongestRun_l0 l hl l.length 0 f (by omega) (by omega)
  · rfl

theorem FnExactLongestRun : laws_FnExactLongestRun.Pure := by
  intro c l _ _ h8 _
  have hl : l.length ≤ 17592186044416 := by omega
  refine ⟨l.length + 10, ?_⟩
  unfold laws_FnExactLongestRun.f
  by_cases hlen : (l.length : Int) > 1048576
  · rw [if_pos hlen]
  rw [if_neg hlen, toIntS_ok l _ hl (by omega)]; simp only [Option.bind_some]
  rw [spec_LongestRun_ok c l _ hl (by omega)]; simp only [Option.bind_some]
  rw [impl_LongestRun_ok c l _ hl (by omega)]; simp only [Option.bind_some, if_true]
  rw [eqIntS_ok l l _ hl (by omega)]; simp only [Option.bind_some, decide_true, if_true]

end Go.Proofs.Ytmjlbkejlbckoaa.Pure
