/- FnExactRunSum: for all arguments that the statement lets in, the law answers true. No condition of ours. -/
import Derived.Test.YtojaioejdfibhaaOFnExactRunSumx2
namespace Go.Proofs.Ytojaioejdfibhaa.Pure
open Go.RowKit Go.Proofs.Ytojaioejdfibhaa.PFnExactRunSum Go.Proofs.YtojaioejdfibhaaW.PrintWords Go.Proofs.YtojaioejdfibhaaW.PrintLast

theorem wr {n : Int} (h0 : -9223372036854775808 ≤ n) (h1 : n < 9223372036854775808) : wrap64 n = n := by unfold wrap64; omega
theorem wrap_lo (x : Int) : -9223372036854775808 ≤ wrap64 x := by unfold wrap64; omega
theorem wrap_hi (x : Int) : wrap64 x < 9223372036854775808 := by unfold wrap64; omega

theorem i64_of {n : Int} (h : (Lit.int .i64 n).wf = true) : -9223372036854775808 ≤ n ∧ n < 9223372036854775808 := by
  have h1 : IntKind.i64.min ≤ n ∧ n ≤ 9223372036854775807 := by simpa [Lit.wf] using h
  have h2 : IntKind.i64.min = -9223372036854775808 := by decide
  omega

theorem l1In_ok (a b c : Int) : spec_l1In.f a b c = some (decide (b ≤ a ∧ a ≤ c)) := by
  unfold spec_l1In.f
  by_cases h : a ≥ b
  · rw [if_pos h]; simp [h]
  · rw [if_neg h]; simp; omega

theorem impl_cr_ok (a b : Int) (m : Nat) (ha : -9223372036854775808 ≤ a ∧ a < 9223372036854775808) (hb : -9223372036854775808 ≤ b ∧ b < 9223372036854775808) : impl_CountRowOk.f (m + 3) 2 [a, b] = some (decide (0 ≤ a ∧ 0 ≤ b ∧ a + b ≤ 6)) := by
  have r0 : rd [a, b] 0 = a := rfl
  have r1 : rd [a, b] 1 = b := rfl
  have w1 : wrap64 (0 + 1) = 1 := wr (by decide) (by decide)
  have w2 : wrap64 (1 + 1) = 2 := wr (by decide) (by decide)
  have hlen : (([a, b] : List Int).length : Int) = 2 := rfl
  unfold impl_CountRowOk.f
  rw [hlen]
  simp only [impl_CountRowOk.l0, hlen]
  rw [if_pos (by decide), if_pos (by decide), if_pos (by decide), r0]
  by_cases h1 : a < 0
  · rw [if_pos h1]; simp; omega
  rw [if_neg h1]
  by_cases h2 : a > 6
  · rw [if_pos h2]; simp; omega
  rw [if_neg h2, w1, if_pos (by decide), if_pos (by decide), if_pos (by decide), r1, wr (n := 6 - a) (by omega) (by omega)]
  by_cases h3 : b < 0
  · rw [if_pos h3]; simp; omega
  rw [if_neg h3]
  by_cases h4 : b > 6 - a
  · rw [if_pos h4]; simp; omega
  rw [if_neg h4, w2, if_neg (by decide)]
  simp [impl_coloursOk.f]; omega

theorem spec_cr_ok (a b : Int) (m : Nat) (ha : -9223372036854775808 ≤ a ∧ a < 9223372036854775808) (hb : -9223372036854775808 ≤ b ∧ b < 9223372036854775808) : spec_CountRowOk.f (m + 6) 2 [a, b] = some (decide (0 ≤ a ∧ 0 ≤ b ∧ a + b ≤ 6)) := by
  have r0 : rd [a, b] 0 = a := rfl
  have r1 : rd [a, b] 1 = b := rfl
  have w1 : wrap64 (0 + 1) = 1 := wr (by decide) (by decide)
  have w2 : wrap64 (1 + 1) = 2 := wr (by decide) (by decide)
  have hlen : (([a, b] : List Int).length : Int) = 2 := rfl
  unfold spec_CountRowOk.f
  simp only [spec_CountRowOk.l0, hlen]
  rw [if_pos (by decide), if_pos (by decide), r0, l1In_ok]; simp only [Option.bind_some]
  by_cases h1 : 0 ≤ a ∧ a ≤ 6
  · rw [if_pos (by simpa using h1), w1, if_pos (by decide), if_pos (by decide), r1, l1In_ok]; simp only [Option.bind_some]
    by_cases h2 : 0 ≤ b ∧ b ≤ 6
    · rw [if_pos (by simpa using h2), w2, if_neg (by decide), l1In_ok]; simp only [Option.bind_some]
      rw [if_pos (by decide)]
      simp only [if_true]
      simp only [spec_l1Total.f, spec_l1Total.l0, hlen]
      rw [if_pos (by decide), if_pos (by decide), r0, w1, if_pos (by decide), if_pos (by decide), r1, w2, if_neg (by decide)]
      simp only [Option.bind_some]
      rw [wr (n := 0 + a) (by omega) (by omega), wr (n := 0 + a + b) (by omega) (by omega)]
      simp only [Int.zero_add, Option.some.injEq, decide_eq_decide]; omega
    · rw [if_neg (by simpa using h2)]; simp; omega
  · rw [if_neg (by simpa using h1)]; simp; omega

def prs : List (Int × Int) := (List.range 7).flatMap fun i => (List.range (7 - i)).map fun j => (((i : Nat) : Int), ((j : Nat) : Int))
theorem mem_prs {a b : Int} (h : 0 ≤ a ∧ 0 ≤ b ∧ a + b ≤ 6) : (a, b) ∈ prs := by
  obtain ⟨a, rfl⟩ := Int.eq_ofNat_of_zero_le h.1
  obtain ⟨b, rfl⟩ := Int.eq_ofNat_of_zero_le h.2.1
  rw [prs, List.mem_flatMap]
  exact ⟨a, List.mem_range.mpr (by omega), List.mem_map.mpr ⟨b, List.mem_range.mpr (by omega), rfl⟩⟩

theorem all_small : ∀ p ∈ prs, laws_FnExactRunSum.f 20 p.1 p.2 = some true := by decide +kernel
theorem FnExactRunSum : laws_FnExactRunSum.Pure := by
  intro a b ha hb
  have ha := i64_of ha
  have hb := i64_of hb
  refine ⟨20, ?_⟩
  by_cases h : 0 ≤ a ∧ 0 ≤ b ∧ a + b ≤ 6
  · exact all_small (a, b) (mem_prs h)
  · unfold laws_FnExactRunSum.f spec_RunSum.f impl_RunSum.f
    rw [spec_cr_ok a b 14 ha hb, impl_cr_ok a b 17 ha hb]
    simp only [Option.bind_some]
    rw [if_neg (by simpa using h), if_neg (by simpa using h)]
    simp

end Go.Proofs.Ytojaioejdfibhaa.Pure
