/- FnExactRunWords: for all arguments that the statement lets in, the law answers true. No condition of ours. -/
import Derived.Test.YtojaioejdfibhaaOFnExactRunWordsx2
namespace Go.Proofs.Ytojaioejdfibhaa.Pure
open Go.RowKit Go.Proofs.Ytojaioejdfibhaa.PFnExactRunWords Go.Proofs.YtojaioejdfibhaaW.PrintWords Go.Proofs.YtojaioejdfibhaaW.PrintLast

theorem wr {n : Int} (h0 : -9223372036854775808 ≤ n) (h1 : n < 9223372036854775808) : wrap64 n = n := by unfold wrap64; omega
theorem wrap_lo (x : Int) : -9223372036854775808 ≤ wrap64 x := by unfold wrap64; omega
theorem wrap_hi (x : Int) : wrap64 x < 9223372036854775808 := by unfold wrap64; omega

theorem i64_of {n : Int} (h : (Lit.int .i64 n).wf = true) : -9223372036854775808 ≤ n ∧ n < 9223372036854775808 := by
  have h1 : IntKind.i64.min ≤ n ∧ n ≤ 9223372036854775807 := by simpa [Lit.wf] using h
  have h2 : IntKind.i64.min = -9223372036854775808 := by decide
  omega

theorem l1In_ok (a b c : Int) : spec_l1In.f a b c = some (decide (b ≤ a ∧ a ≤ c)) := by
  unfold spec_l1In.f
  by_cases h : a ≥ b
  · rw [if_pos h]; simp [h]
  · rw [if_neg h]; simp; omega

theorem impl_cr_ok (a b : Int) (m : Nat) (ha : -9223372036854775808 ≤ a ∧ a < 9223372036854775808) (hb : -9223372036854775808 ≤ b ∧ b < 9223372036854775808) : impl_CountRowOk.f (m + 3) 2 [a, b] = some (decide (0 ≤ a ∧ 0 ≤ b ∧ a + b ≤ 6)) := by
  have r0 : rd [a, b] 0 = a := rfl
  have r1 : rd [a, b] 1 = b := rfl
  have w1 : wrap64 (0 + 1) = 1 := wr (by decide) (by decide)
  have w2 : wrap64 (1 + 1) = 2 := wr (by decide) (by decide)
  have hlen : (([a, b] : List Int).length : Int) = 2 := rfl
  unfold impl_CountRowOk.f
  rw [hlen]
  simp only [impl_CountRowOk.l0, hlen]
  rw [if_pos (by decide), if_pos (by decide), if_pos (by decide), r0]
  by_cases h1 : a < 0
  · rw [if_pos h1]; simp; omega
  rw [if_neg h1]
  by_cases h2 : a > 6
  · rw [if_pos h2]; simp; omega
  rw [if_neg h2, w1, if_pos (by decide), if_pos (by decide), if_pos (by decide), r1, wr (n := 6 - a) (by omega) (by omega)]
  by_cases h3 : b < 0
  · rw [if_pos h3]; simp; omega
  rw [if_neg h3]
  by_cases h4 : b > 6 - a
  · rw [if_pos h4]; simp; omega
  rw [if_neg h4, w2, if_neg (by decide)]
  simp [impl_coloursOk.f]; omega

theorem spec_cr_ok (a b : Int) (m : Nat) (ha : -9223372036854775808 ≤ a ∧ a < 9223372036854775808) (hb : -9223372036854775808 ≤ b ∧ b < 9223372036854775808) : spec_CountRowOk.f (m + 6) 2 [a, b] = some (decide (0 ≤ a ∧ 0 ≤ b ∧ a + b ≤ 6)) := by
  have r0 : rd [a, b] 0 = a := rfl
  have r1 : rd [a, b] 1 = b := rfl
  have w1 : wrap64 (0 + 1) = 1 := wr (by decide) (by decide)
  have w2 : wrap64 (1 + 1) = 2 := wr (by decide) (by decide)
  have hlen : (([a, b] : List Int).length : Int) = 2 := rfl
  unfold spec_CountRowOk.f
  simp only [spec_CountRowOk.l0, hlen]
  rw [if_pos (by decide), if_pos (by decide), r0, l1In_ok]; simp only [Option.bind_some]
  by_cases h1 : 0 ≤ a ∧ a ≤ 6
  · rw [if_pos (by simpa using h1), w1, if_pos (by decide), if_pos (by decide), r1, l1In_ok]; simp only [Option.bind_some]
    by_cases h2 : 0 ≤ b ∧ b ≤ 6
    · rw [if_pos (by simpa using h2), w2, if_neg (by decide), l1In_ok]; simp only [Option.bind_some]
      rw [if_pos (by decide)]
      simp only [if_true]
      simp only [spec_l1Total.f, spec_l1Total.l0, hlen]
      rw [if_pos (by decide), if_pos (by decide), r0, w1, if_pos (by decide), if_pos (by decide), r1, w2, if_neg (by decide)]
      simp only [Option.bind_some]
      rw [wr (n := 0 + a) (by omega) (by omega), wr (n := 0 + a + b) (by omega) (by omega)]
      simp only [Int.zero_add, Option.some.injEq, decide_eq_decide]; omega
    · rw [if_neg (by simpa using h2)]; simp; omega
  · rw [if_neg (by simpa using h1)]; simp; omega

/-- All words of d draws over cs colours, in the order in which they are told. -/
def wordsL (cs : Nat) : Nat → List (List Int)
  | 0 => [[]]
  | d + 1 => (List.range cs).flatMap fun c => (wordsL cs d).map fun u => ((c : Nat) : Int) :: u

theorem wl_congr (g g' : Int → Int → Option Int) : ∀ (n : Nat) (c s : Int), (∀ i : Nat, i < n → ∀ s, g (c + i) s = g' (c + i) s) → wl g n c s = wl g' n c s := by
  intro n
  induction n with
  | zero => intro c s _; rfl
  | succ n ih =>
    intro c s h
    simp only [wl]
    have h0 : g c s = g' c s := by have h1 := h 0 (by omega) s; simpa using h1
    rw [h0]
    congr 1
    funext s1
    refine ih (c + 1) s1 (fun i hi s => ?_)
    have e := h (i + 1) (by omega) s
    rw [show c + ((i + 1 : Nat) : Int) = c + 1 + (i : Int) by omega] at e
    exact e

theorem wk_congr (T T' : List Int → Int → Option Int) (cs : Nat) : ∀ (d : Nat) (pre : List Int) (s : Int), (∀ u ∈ wordsL cs d, ∀ s, T (pre ++ u) s = T' (pre ++ u) s) → wk T cs d pre s = wk T' cs d pre s := by
  intro d
  induction d with
  | zero => intro pre s h; have := h [] (by simp [wordsL]) s; simpa [wk] using this
  | succ d ih =>
    intro pre s h
    simp only [wk]
    refine wl_congr _ _ cs 0 s (fun i hi s => ?_)
    refine ih (pre ++ [0 + (i : Int)]) s (fun u hu s => ?_)
    have e := h (((i : Nat) : Int) :: u) (by
      rw [wordsL, List.mem_flatMap]
      exact ⟨i, List.mem_range.mpr hi, List.mem_map.mpr ⟨u, hu, rfl⟩⟩) s
    rw [Int.zero_add, List.append_assoc]
    exact e

def prs : List (Int × Int) := (List.range 7).flatMap fun i => (List.range (7 - i)).map fun j => (((i : Nat) : Int), ((j : Nat) : Int))
theorem mem_prs {a b : Int} (h : 0 ≤ a ∧ 0 ≤ b ∧ a + b ≤ 6) : (a, b) ∈ prs := by
  obtain ⟨a, rfl⟩ := Int.eq_ofNat_of_zero_le h.1
  obtain ⟨b, rfl⟩ := Int.eq_ofNat_of_zero_le h.2.1
  rw [prs, List.mem_flatMap]
  exact ⟨a, List.mem_range.mpr (by omega), List.mem_map.mpr ⟨b, List.mem_range.mpr (by omega), rfl⟩⟩
theorem all_small : ∀ p ∈ prs, ∀ c ∈ List.range 8, laws_FnExactRunWords.f 20 p.1 p.2 c = some true := by decide +kernel
theorem all_seven : ∀ p ∈ prs, spec_RunWords.f 20 p.1 p.2 7 = some 0 := by decide +kernel
theorem all_sums : ∀ p ∈ prs, impl_sum.f 20 [p.1, p.2] = some (p.1 + p.2) := by decide +kernel
def few (u : List Int) : Bool := match impl_runsOf.f 20 u with
  | none => true
  | some p => decide (p.1 ≤ 6)
theorem all_few : ∀ d ∈ List.range 7, ∀ u ∈ wordsL 2 d, few u = true := by decide +kernel

theorem spec_big {a b c : Int} (h : 0 ≤ a ∧ 0 ≤ b ∧ a + b ≤ 6) (hc : 7 ≤ c) : spec_RunWords.f 20 a b c = some 0 := by
  unfold spec_RunWords.f
  rw [spec_cr_ok a b 14 (by omega) (by omega)]
  simp only [Option.bind_some]
  rw [if_pos (decide_eq_true h)]
  have hm : ¬ c = mn (wrap64 (a + b)) 1 := by rw [wr (by omega) (by omega)]; unfold mn; omega
  have hj : ∀ x : Bool, spec_RunWords.j1 19 a b c x = some 0 := by
    intro x
    simp only [spec_RunWords.j1]
    cases x
    · rw [if_neg (by decide), if_pos (by omega)]
    · rw [if_pos rfl, if_neg hm]
  simp only [spec_RunWords.j0]
  rw [if_neg (by simp; omega), hj, hj]; exact ite_self _

theorem trw_big {u : List Int} {c s : Int} (h : few u = true) (hc : 7 ≤ c) : TRW 20 c u s = TRW 20 7 u s := by
  unfold TRW few at *
  cases hr : impl_runsOf.f 20 u with
  | none => rfl
  | some p =>
    rw [hr] at h
    have h6 : p.1 ≤ 6 := by simpa using h
    simp only [Option.bind_some]
    rw [if_neg (by omega), if_neg (by omega)]

theorem impl_big {a b c : Int} (h : 0 ≤ a ∧ 0 ≤ b ∧ a + b ≤ 6) (hc : 7 ≤ c) : wwk 20 (TRW 20 c) [a, b] = wwk 20 (TRW 20 7) [a, b] := by
  unfold wwk
  rw [all_sums (a, b) (mem_prs h)]
  simp only [Option.bind_some]
  split
  · refine wk_congr _ _ _ _ _ _ (fun u hu s => ?_)
    have hf : few u = true := all_few (a + b).toNat (List.mem_range.mpr (by omega)) u hu
    unfold Tw
    rw [List.nil_append]
    simp only [trw_big (s := s) hf hc]
  · rfl

theorem FnExactRunWords : laws_FnExactRunWords.Pure := by
  intro a b c ha hb hc
  have ha := i64_of ha
  have hb := i64_of hb
  have hc := i64_of hc
  refine ⟨20, ?_⟩
  by_cases h : 0 ≤ a ∧ 0 ≤ b ∧ a + b ≤ 6
  · by_cases h0 : c < 0
    · unfold laws_FnExactRunWords.f spec_RunWords.f impl_RunWords.f
      rw [spec_cr_ok a b 14 ha hb, impl_cr_ok a b 17 ha hb]
      simp only [Option.bind_some]
      rw [if_pos (decide_eq_true h), if_pos (decide_eq_true h), if_pos h0]
      simp [spec_RunWords.j0, h0]
    · by_cases h7 : c < 8
      · obtain ⟨n, rfl⟩ := Int.eq_ofNat_of_zero_le (show 0 ≤ c by omega)
        exact all_small (a, b) (mem_prs h) n (List.mem_range.mpr (by omega))
      · have e := all_small (a, b) (mem_prs h) 7 (by decide)
        unfold laws_FnExactRunWords.f impl_RunWords.f at e ⊢
        rw [spec_big h (show (7 : Int) ≤ ((7 : Nat) : Int) by decide)] at e
        rw [spec_big h (show 7 ≤ c by omega)]
        simp only [Option.bind_some] at e ⊢
        rw [impl_cr_ok a b 17 ha hb] at e ⊢
        simp only [Option.bind_some] at e ⊢
        rw [if_pos (decide_eq_true h)] at e ⊢
        rw [if_neg h0, impl_big h (by omega)]
        rw [if_neg (by decide)] at e
        exact e
  · unfold laws_FnExactRunWords.f spec_RunWords.f impl_RunWords.f
    rw [spec_cr_ok a b 14 ha hb, impl_cr_ok a b 17 ha hb]
    simp only [Option.bind_some]
    rw [if_neg (by simpa using h), if_neg (by simpa using h)]
    simp [spec_RunWords.j0]

end Go.Proofs.Ytojaioejdfibhaa.Pure
