/- FnExactMatchOrders: for all arguments that the statement lets in, the law answers true. No condition of ours. -/
import Derived.Test.YtmjlbkejlbckoaaPFnExactMatchOrdersx2
import Derived.Test.YtmjlbkejlbckoaaBin
namespace Go.Proofs.Ytmjlbkejlbckoaa.Pure
open Go.RowKit Go.Proofs.Ytmjlbkejlbckoaa.PFnExactMatchOrders Go.Proofs.YtmjlbkejlbckoaaW.PrintWords Go.Proofs.YtmjlbkejlbckoaaW.PrintLast
open Go.Proofs.Ytmjlbkejlbckoaa.Plain

theorem wr {n : Int} (h0 : -9223372036854775808 ≤ n) (h1 : n < 9223372036854775808) : wrap64 n = n := by unfold wrap64; omega
theorem wrap_lo (x : Int) : -9223372036854775808 ≤ wrap64 x := by unfold wrap64; omega
theorem wrap_hi (x : Int) : wrap64 x < 9223372036854775808 := by unfold wrap64; omega



theorem impl_choose_l0 (m k : Nat) (hn : m + k ≤ 30) : ∀ (d j f : Nat), j + d = k → d < f →
    impl_choose.l0 f ((m + k : Nat) : Int) (k : Int) ((bin (m + j) j : Nat) : Int) ((j : Int) + 1) = some ((bin (m + k) k : Nat) : Int) := by
  intro d
  induction d with
  | zero =>
    intro j f hj hf
    obtain ⟨f, rfl⟩ : ∃ g, f = g + 1 := ⟨f - 1, by omega⟩
    obtain rfl : j = k := by omega
    simp only [impl_choose.l0]; rw [if_neg (by omega)]
  | succ d ih =>
    intro j f hj hf
    obtain ⟨f, rfl⟩ : ∃ g, f = g + 1 := ⟨f - 1, by omega⟩
    have hb : bin (m + j) j ≤ 2 ^ 30 := Nat.le_trans (bin_le_pow _ _) (Nat.pow_le_pow_right (by omega) (by omega))
    have hb2 : bin (m + (j + 1)) (j + 1) ≤ 2 ^ 30 := Nat.le_trans (bin_le_pow _ _) (Nat.pow_le_pow_right (by omega) (by omega))
    have ha := bin_absorb (m + j) j
    have hmul : ((bin (m + j) j : Nat) : Int) * ((m : Int) + ((j : Int) + 1)) = ((j : Int) + 1) * ((bin (m + (j + 1)) (j + 1) : Nat) : Int) := by
      have : bin (m + j) j * (m + (j + 1)) = (j + 1) * bin (m + (j + 1)) (j + 1) := by rw [show m + (j + 1) = m + j + 1 by omega, ha, Nat.mul_comm]
      exact_mod_cast this
    have hle : (((j : Int) + 1) * ((bin (m + (j + 1)) (j + 1) : Nat) : Int)) ≤ 31 * 2 ^ 30 ∧ 0 ≤ (((j : Int) + 1) * ((bin (m + (j + 1)) (j + 1) : Nat) : Int)) := by
      have hle : (j + 1) * bin (m + (j + 1)) (j + 1) ≤ 31 * 2 ^ 30 := Nat.mul_le_mul (by omega) hb2
      have h0 : 0 ≤ (j + 1) * bin (m + (j + 1)) (j + 1) := Nat.zero_le _
      exact ⟨by exact_mod_cast hle, by exact_mod_cast h0⟩
    simp only [impl_choose.l0]
    rw [if_pos (by omega), if_neg (by omega), wr (n := ((m + k : Nat) : Int) - (k : Int)) (by omega) (by omega), show ((m + k : Nat) : Int) - (k : Int) = m by omega,
      wr (n := (m : Int) + ((j : Int) + 1)) (by omega) (by omega), hmul, wr (n := ((j : Int) + 1) * ((bin (m + (j + 1)) (j + 1) : Nat) : Int)) (by omega) (by omega), Int.mul_tdiv_cancel_left _ (by omega), wr (n := ((bin (m + (j + 1)) (j + 1) : Nat) : Int)) (by omega) (by omega), wr (n := (j : Int) + 1 + 1) (by omega) (by omega)]
    exact ih (j + 1) f (by omega) (by omega)

theorem impl_choose_ok (n k f : Nat) (hn : n ≤ 30) (hf : 33 ≤ f) : impl_choose.f f (n : Int) (k : Int) = some ((bin n k : Nat) : Int) := by
  obtain ⟨f, rfl⟩ : ∃ g, f = g + 1 := ⟨f - 1, by omega⟩
  unfold impl_choose.f
  rw [if_neg (by omega)]
  by_cases h : n < k
  · rw [decide_eq_true (by omega)]; simp only [impl_choose.j0, if_true]; rw [bin_lt n k h]; rfl
  · rw [decide_eq_false (by omega)]; simp only [impl_choose.j0]; rw [if_neg (by decide)]
    obtain ⟨m, rfl⟩ : ∃ m, n = m + k := ⟨n - k, by omega⟩
    have := impl_choose_l0 m k hn k 0 f (by omega) (by omega)
    rw [Nat.add_zero, bin_zero] at this
    exact this

theorem spec_l7Choose_l0 (m k : Nat) (hn : m + k ≤ 30) : ∀ (d j f : Nat), j + d = k → d < f →
    spec_l7Choose.l0 f ((m + k : Nat) : Int) (k : Int) ((bin (m + j) j : Nat) : Int) ((j : Int) + 1) = some ((bin (m + k) k : Nat) : Int) := by
  intro d
  induction d with
  | zero =>
    intro j f hj hf
    obtain ⟨f, rfl⟩ : ∃ g, f = g + 1 := ⟨f - 1, by omega⟩
    obtain rfl : j = k := by omega
    simp only [spec_l7Choose.l0]; rw [if_neg (by omega)]
  | succ d ih =>
    intro j f hj hf
    obtain ⟨f, rfl⟩ : ∃ g, f = g + 1 := ⟨f - 1, by omega⟩
    have hb : bin (m + j) j ≤ 2 ^ 30 := Nat.le_trans (bin_le_pow _ _) (Nat.pow_le_pow_right (by omega) (by omega))
    have hb2 : bin (m + (j + 1)) (j + 1) ≤ 2 ^ 30 := Nat.le_trans (bin_le_pow _ _) (Nat.pow_le_pow_right (by omega) (by omega))
    have ha := bin_absorb (m + j) j
    have hmul : ((bin (m + j) j : Nat) : Int) * ((m : Int) + ((j : Int) + 1)) = ((j : Int) + 1) * ((bin (m + (j + 1)) (j + 1) : Nat) : Int) := by
      have : bin (m + j) j * (m + (j + 1)) = (j + 1) * bin (m + (j + 1)) (j + 1) := by rw [show m + (j + 1) = m + j + 1 by omega, ha, Nat.mul_comm]
      exact_mod_cast this
    have hle : (((j : Int) + 1) * ((bin (m + (j + 1)) (j + 1) : Nat) : Int)) ≤ 31 * 2 ^ 30 ∧ 0 ≤ (((j : Int) + 1) * ((bin (m + (j + 1)) (j + 1) : Nat) : Int)) := by
      have hle : (j + 1) * bin (m + (j + 1)) (j + 1) ≤ 31 * 2 ^ 30 := Nat.mul_le_mul (by omega) hb2
      have h0 : 0 ≤ (j + 1) * bin (m + (j + 1)) (j + 1) := Nat.zero_le _
      exact ⟨by exact_mod_cast hle, by exact_mod_cast h0⟩
    simp only [spec_l7Choose.l0]
    rw [if_pos (by omega), if_neg (by omega), wr (n := ((m + k : Nat) : Int) - (k : Int)) (by omega) (by omega), show ((m + k : Nat) : Int) - (k : Int) = m by omega,
      wr (n := (m : Int) + ((j : Int) + 1)) (by omega) (by omega), hmul, wr (n := ((j : Int) + 1) * ((bin (m + (j + 1)) (j + 1) : Nat) : Int)) (by omega) (by omega), Int.mul_tdiv_cancel_left _ (by omega), wr (n := ((bin (m + (j + 1)) (j + 1) : Nat) : Int)) (by omega) (by omega), wr (n := (j : Int) + 1 + 1) (by omega) (by omega)]
    exact ih (j + 1) f (by omega) (by omega)

theorem spec_l7Choose_ok (n k f : Nat) (hn : n ≤ 30) (hf : 33 ≤ f) : spec_l7Choose.f f (n : Int) (k : Int) = some ((bin n k : Nat) : Int) := by
  obtain ⟨f, rfl⟩ : ∃ g, f = g + 1 := ⟨f - 1, by omega⟩
  unfold spec_l7Choose.f
  rw [if_neg (by omega)]
  by_cases h : n < k
  · rw [decide_eq_true (by omega)]; simp only [spec_l7Choose.j0, if_true]; rw [bin_lt n k h]; rfl
  · rw [decide_eq_false (by omega)]; simp only [spec_l7Choose.j0]; rw [if_neg (by decide)]
    obtain ⟨m, rfl⟩ : ∃ m, n = m + k := ⟨n - k, by omega⟩
    have := spec_l7Choose_l0 m k hn k 0 f (by omega) (by omega)
    rw [Nat.add_zero, bin_zero] at this
    exact this

theorem l1In_ok (a b c : Int) : spec_l1In.f a b c = some (decide (b ≤ a ∧ a ≤ c)) := by
  unfold spec_l1In.f
  by_cases h : a ≥ b
  · rw [if_pos h]; simp [h]
  · rw [if_neg h]; simp; omega

theorem unm_both (h : Int) (h0 : 0 ≤ h) (h6 : h ≤ 6) : ∃ r : Int, (∀ f, 20 ≤ f → impl_UnmatchedOrders.f f h = some r ∧ spec_l13None.f f h = some r) ∧ 0 ≤ r ∧ r ≤ 1000 := by
  have key : ∃ r, impl_UnmatchedOrders.f 20 h = some r ∧ spec_l13None.f 20 h = some r ∧ 0 ≤ r ∧ r ≤ 1000 := by
    rcases (show h = 0 ∨ h = 1 ∨ h = 2 ∨ h = 3 ∨ h = 4 ∨ h = 5 ∨ h = 6 by omega) with rfl | rfl | rfl | rfl | rfl | rfl | rfl
    · exact ⟨1, by decide +kernel, by decide +kernel, by decide, by decide⟩
    · exact ⟨0, by decide +kernel, by decide +kernel, by decide, by decide⟩
    · exact ⟨1, by decide +kernel, by decide +kernel, by decide, by decide⟩
    · exact ⟨2, by decide +kernel, by decide +kernel, by decide, by decide⟩
    · exact ⟨9, by decide +kernel, by decide +kernel, by decide, by decide⟩
    · exact ⟨44, by decide +kernel, by decide +kernel, by decide, by decide⟩
    · exact ⟨265, by decide +kernel, by decide +kernel, by decide, by decide⟩
  obtain ⟨r, h1, h2, h3, h4⟩ := key
  exact ⟨r, fun f hf => ⟨at_rounds (g := fun k => impl_UnmatchedOrders.f k h) (impl_UnmatchedOrders.mono h) hf h1, at_rounds (g := fun k => spec_l13None.f k h) (spec_l13None.mono h) hf h2⟩, h3, h4⟩

theorem FnExactMatchOrders : laws_FnExactMatchOrders.Pure := by
  intro h m _ _
  refine ⟨101, ?_⟩
  unfold laws_FnExactMatchOrders.f spec_MatchOrders.f impl_MatchOrders.f
  rw [l1In_ok, l1In_ok]; simp only [Option.bind_some]
  have e1 : spec_MatchOrders.j0 101 h m true = some (-1) := by simp only [spec_MatchOrders.j0, if_true]
  have e2 : impl_MatchOrders.j0 101 h m true = some (-1) := by simp only [impl_MatchOrders.j0, if_true]
  by_cases hh : 0 ≤ h ∧ h ≤ 6
  · rw [if_pos (decide_eq_true hh), if_neg (show ¬ h < 0 by omega), if_neg (show ¬ h > 6 by omega)]
    by_cases hm : 0 ≤ m ∧ m ≤ h
    · rw [decide_eq_true hm, if_neg (show ¬ m < 0 by omega), decide_eq_false (show ¬ m > h by omega)]
      obtain ⟨r, hr, r0, r1⟩ := unm_both (h - m) (by omega) (by omega)
      simp only [spec_MatchOrders.j0, impl_MatchOrders.j0, Bool.not_true, Bool.false_eq_true, if_false]
      obtain ⟨h, rfl⟩ := Int.eq_ofNat_of_zero_le hh.1
      obtain ⟨m, rfl⟩ := Int.eq_ofNat_of_zero_le hm.1
      rw [wr (n := (h : Int) - m) (by omega) (by omega), impl_choose_ok h m 100 (by omega) (by omega), spec_l7Choose_ok h m 100 (by omega) (by omega), (hr 100 (by omega)).1, (hr 100 (by omega)).2]
      simp only [Option.bind_some, if_true]
    · rw [decide_eq_false hm]
      have e3 : spec_MatchOrders.j0 101 h m (!false) = some (-1) := e1
      rw [e3]; simp only [Option.bind_some]
      by_cases h1 : m < 0
      · rw [if_pos h1, e2]; simp only [Option.bind_some, if_true]
      · rw [if_neg h1, decide_eq_true (by omega), e2]; simp only [Option.bind_some, if_true]
  · rw [decide_eq_false hh, if_neg (by decide), e1]; simp only [Option.bind_some]
    by_cases h1 : h < 0
    · rw [if_pos h1, e2]; simp only [Option.bind_some, if_true]
    · rw [if_neg h1, if_pos (by omega), e2]; simp only [Option.bind_some, if_true]

end Go.Proofs.Ytmjlbkejlbckoaa.Pure
