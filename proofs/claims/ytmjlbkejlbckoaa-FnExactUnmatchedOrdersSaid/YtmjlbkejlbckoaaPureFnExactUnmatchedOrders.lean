/- FnExactUnmatchedOrders: for all arguments that the statement lets in, the law answers true. No condition of ours. -/
import Derived.Test.YtmjlbkejlbckoaaPFnExactUnmatchedOrdersx1
namespace Go.Proofs.Ytmjlbkejlbckoaa.Pure
open Go.RowKit Go.Proofs.Ytmjlbkejlbckoaa.PFnExactUnmatchedOrders Go.Proofs.YtmjlbkejlbckoaaW.PrintWords Go.Proofs.YtmjlbkejlbckoaaW.PrintLast

theorem l1In_ok (a b c : Int) : spec_l1In.f a b c = some (decide (b ≤ a ∧ a ≤ c)) := by
  unfold spec_l1In.f
  by_cases h : a ≥ b
  · rw [if_pos h]; simp [h]
  · rw [if_neg h]; simp; omega

theorem unm_both (h : Int) (h0 : 0 ≤ h) (h6 : h ≤ 6) : ∃ r : Int, (∀ f, 20 ≤ f → impl_UnmatchedOrders.f f h = some r ∧ spec_l13None.f f h = some r) ∧ 0 ≤ r ∧ r ≤ 1000 := by
  have key : ∃ r, impl_UnmatchedOrders.f 20 h = some r ∧ spec_l13None.f 20 h = some r ∧ 0 ≤ r ∧ r ≤ 1000 := by
    rcases (show h = 0 ∨ h = 1 ∨ h = 2 ∨ h = 3 ∨ h = 4 ∨ h = 5 ∨ h = 6 by omega) with rfl | rfl | rfl | rfl | rfl | rfl | rfl
    · exact ⟨1, by decide +kernel, by decide +kernel, by decide, by decide⟩
    · exact ⟨0, by decide +kernel, by decide +kernel, by decide, by decide⟩
    · exact ⟨1, by decide +kernel, by decide +kernel, by decide, by decide⟩
    · exact ⟨2, by decide +kernel, by decide +kernel, by decide, by decide⟩
    · exact ⟨9, by decide +kernel, by decide +kernel, by decide, by decide⟩
    · exact ⟨44, by decide +kernel, by decide +kernel, by decide, by decide⟩
    · exact ⟨265, by decide +kernel, by decide +kernel, by decide, by decide⟩
  obtain ⟨r, h1, h2, h3, h4⟩ := key
  exact ⟨r, fun f hf => ⟨at_rounds (g := fun k => impl_UnmatchedOrders.f k h) (impl_UnmatchedOrders.mono h) hf h1, at_rounds (g := fun k => spec_l13None.f k h) (spec_l13None.mono h) hf h2⟩, h3, h4⟩

theorem FnExactUnmatchedOrders : laws_FnExactUnmatchedOrders.Pure := by
  intro h _
  refine ⟨20, ?_⟩
  unfold laws_FnExactUnmatchedOrders.f spec_UnmatchedOrders.f
  rw [l1In_ok]; simp only [Option.bind_some]
  by_cases hh : 0 ≤ h ∧ h ≤ 6
  · obtain ⟨r, hr, _, _⟩ := unm_both h hh.1 hh.2
    rw [if_pos (decide_eq_true hh), (hr 20 (by omega)).1, (hr 20 (by omega)).2]; simp only [Option.bind_some, if_true]
  · have e : impl_UnmatchedOrders.f 20 h = some (-1) := by
      unfold impl_UnmatchedOrders.f
      by_cases h1 : h < 0
      · rw [if_pos h1]; simp only [impl_UnmatchedOrders.j0, if_true]
      · rw [if_neg h1, decide_eq_true (by omega)]; simp only [impl_UnmatchedOrders.j0, if_true]
    rw [decide_eq_false hh, if_neg (by decide), e]; simp only [Option.bind_some, if_true]

end Go.Proofs.Ytmjlbkejlbckoaa.Pure
