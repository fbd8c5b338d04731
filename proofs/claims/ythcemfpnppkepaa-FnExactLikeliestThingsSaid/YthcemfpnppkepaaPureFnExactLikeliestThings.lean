/- FnExactLikeliestThings: for all arguments that the statement lets in, the law answers true. No condition of ours. -/
import Derived.Test.YthcemfpnppkepaaPFnExactLikeliestThingsx1
namespace Go.Proofs.Ythcemfpnppkepaa.Pure
open Go.RowKit Go.Proofs.Ythcemfpnppkepaa.PFnExactLikeliestThings Go.Proofs.YthcemfpnppkepaaW.PrintWords Go.Proofs.YthcemfpnppkepaaW.PrintLast

theorem l1In_ok (a b c : Int) : spec_l1In.f a b c = some (decide (b ≤ a ∧ a ≤ c)) := by
  unfold spec_l1In.f
  by_cases h : a ≥ b
  · rw [if_pos h]; simp [h]
  · rw [if_neg h]; simp; omega

def liOk (m p b : Int) : Prop := 1 ≤ m ∧ m ≤ 9 ∧ 1 ≤ p ∧ p ≤ 9 ∧ 1 ≤ b ∧ b ≤ m ∧ b ≤ p

instance (m p b : Int) : Decidable (liOk m p b) := by unfold liOk; infer_instance

def liW (m p b : Int) : Int := if liOk m p b then wrap64 (Int.tdiv (wrap64 (m * p)) b) else -1

theorem impl_Likeliest_ok (m p b : Int) : impl_LikeliestThings.f m p b = some (liW m p b) := by
  unfold impl_LikeliestThings.f liW
  by_cases h1 : m < 1
  · rw [if_pos h1, if_neg (by unfold liOk; omega)]
  by_cases h2 : m > 9
  · rw [if_neg h1, if_pos h2, if_neg (by unfold liOk; omega)]
  by_cases h3 : p < 1
  · rw [if_neg h1, if_neg h2, if_pos h3, if_neg (by unfold liOk; omega)]
  by_cases h4 : p > 9
  · rw [if_neg h1, if_neg h2, if_neg h3, if_pos h4, if_neg (by unfold liOk; omega)]
  by_cases h5 : b < 1
  · rw [if_neg h1, if_neg h2, if_neg h3, if_neg h4, if_pos h5, if_neg (by unfold liOk; omega)]
  by_cases h6 : b > mn m p
  · rw [if_neg h1, if_neg h2, if_neg h3, if_neg h4, if_neg h5, if_pos h6, if_neg (by unfold liOk; unfold mn at h6; omega)]
  · rw [if_neg h1, if_neg h2, if_neg h3, if_neg h4, if_neg h5, if_neg h6, if_neg (by omega), if_pos (by unfold liOk; unfold mn at h6; omega)]

theorem spec_Likeliest_ok (m p b : Int) : spec_LikeliestThings.f m p b = some (liW m p b) := by
  unfold spec_LikeliestThings.f liW
  simp only [l1In_ok, Option.bind_some]
  by_cases h1 : 1 ≤ m ∧ m ≤ 9
  · rw [if_pos (decide_eq_true h1)]
    by_cases h2 : 1 ≤ p ∧ p ≤ 9
    · rw [if_pos (decide_eq_true h2)]
      by_cases h3 : 1 ≤ b ∧ b ≤ mn m p
      · rw [if_pos (decide_eq_true h3), if_neg (by omega), if_pos (by unfold liOk; unfold mn at h3; omega)]
      · rw [decide_eq_false h3, if_neg (by decide), if_neg (by unfold liOk; unfold mn at h3; omega)]
    · rw [decide_eq_false h2, if_neg (by decide), if_neg (by unfold liOk; omega)]
  · rw [decide_eq_false h1, if_neg (by decide), if_neg (by unfold liOk; omega)]

theorem FnExactLikeliestThings : laws_FnExactLikeliestThings.Pure := by
  intro m p b _ _ _
  unfold laws_FnExactLikeliestThings.f
  simp only [impl_Likeliest_ok, spec_Likeliest_ok, Option.bind_some, if_true]

end Go.Proofs.Ythcemfpnppkepaa.Pure
