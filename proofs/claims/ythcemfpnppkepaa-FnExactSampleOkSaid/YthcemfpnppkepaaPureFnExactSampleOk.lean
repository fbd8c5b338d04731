/- FnExactSampleOk: for all arguments that the statement lets in, the law answers true. No condition of ours. -/
import Derived.Test.YthcemfpnppkepaaPFnExactSampleOkx1
namespace Go.Proofs.Ythcemfpnppkepaa.Pure
open Go.RowKit Go.Proofs.Ythcemfpnppkepaa.PFnExactSampleOk Go.Proofs.YthcemfpnppkepaaW.PrintWords Go.Proofs.YthcemfpnppkepaaW.PrintLast

def sOk (t m p : Int) : Prop := 0 ≤ t ∧ t ≤ 30 ∧ 0 ≤ m ∧ m ≤ t ∧ 0 ≤ p ∧ p ≤ t

instance (t m p : Int) : Decidable (sOk t m p) := by unfold sOk; infer_instance

theorem l1In_ok (a b c : Int) : spec_l1In.f a b c = some (decide (b ≤ a ∧ a ≤ c)) := by
  unfold spec_l1In.f
  by_cases h : a ≥ b
  · rw [if_pos h]; simp [h]
  · rw [if_neg h]; simp; omega

theorem impl_SampleOk_ok (t m p : Int) : impl_SampleOk.f t m p = some (decide (sOk t m p)) := by
  unfold impl_SampleOk.f sOk
  by_cases h1 : t ≥ 0 <;> by_cases h2 : t ≤ 30 <;> by_cases h3 : m ≥ 0 <;> by_cases h4 : m ≤ t <;> by_cases h5 : p ≥ 0 <;> simp [h1, h2, h3, h4, h5]

theorem spec_SampleOk_ok (t m p : Int) : spec_SampleOk.f t m p = some (decide (sOk t m p)) := by
  unfold spec_SampleOk.f
  simp only [l1In_ok, Option.bind_some]
  by_cases h1 : 0 ≤ t ∧ t ≤ 30
  · rw [if_pos (decide_eq_true h1)]
    by_cases h2 : 0 ≤ m ∧ m ≤ t
    · rw [if_pos (decide_eq_true h2)]
      congr 1; apply decide_eq_decide.2; unfold sOk; omega
    · rw [decide_eq_false h2, if_neg (by decide), decide_eq_false (show ¬ sOk t m p by unfold sOk; omega)]
  · rw [decide_eq_false h1, if_neg (by decide), decide_eq_false (show ¬ sOk t m p by unfold sOk; omega)]

theorem FnExactSampleOk : laws_FnExactSampleOk.Pure := by
  intro t m p _ _ _
  unfold laws_FnExactSampleOk.f
  simp only [impl_SampleOk_ok, spec_SampleOk_ok, Option.bind_some, bne_self_eq_false, Bool.false_eq_true, if_false]

end Go.Proofs.Ythcemfpnppkepaa.Pure
