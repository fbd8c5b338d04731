/- Walks of the functions that the law FnExactTermWays reaches, written by a program of this session. No condition but those that each states. -/
import Derived.Test.YtojaioejdfibhaaRows
import Derived.Test.YtojaioejdfibhaaOFnExactTermWaysx11
import Derived.Test.YtojaioejdfibhaaPureFnExactTermWays
import Derived.WalkKit
import Derived.ProofKit
import Derived.OpenShut
import Derived.ShutString
import Derived.ChangeOld
import Derived.Below
import Derived.SizedLaws
import Derived.Test.YtojaioejdfibhaaWSized
import Derived.Deep.SlicePairs
import Derived.Deep.Matrix
namespace Go.Proofs.Ytojaioejdfibhaa.fnExactTermWays
open Go.ChangeShapes Go.WideShapes Go.ChangeAt Go.RowKit
open Go.ChangeMaps (open_string shut_string)
open Go.Proofs.YtojaioejdfibhaaW.PrintWords Go.Proofs.YtojaioejdfibhaaW.PrintLast
set_option linter.unusedVariables false
theorem own : ownKnob Try.prog.godebug = none := by kernel_rfl
theorem laidOut : laidOutB Try.prog = true := by kernel_rfl
def IsRow (k : IntKind) (w : World) (a : Option Addr) (len cap : Nat) (zs : List Int) : Prop :=
  (a = none ∧ len = 0 ∧ cap = 0 ∧ zs = []) ∨
  ∃ x, a = some x ∧ len ≤ cap ∧ cap ≤ maxLen ∧ zs.length = cap ∧ (∀ i, i < zs.length → w.cell? (x.add i) = some (.int k (zs.getD i 0))) ∧ ∀ n ∈ zs, (Lit.int k n).wf = true
set_option maxRecDepth 100000 in
theorem lifted (os : Os) (started : os.Started) (H : Type) (enc : TypeId × Value → H) :
    ReturnsInHanded {} Try.checked os 3 .any (Rows.fnExactTermWaysSpec.pre6 enc Try.prog Try.f3 Rows.fnExactTermWaysRow.domain false) (Rows.fnExactTermWaysSpec.post enc Try.prog Try.f3 false true false false) := by
  refine returnsInHanded_of_change_sized (C := Try.checked) own started (by kernel_rfl) Try.func3
    (ChangeSpec.witness6 (enc := enc) (C := Try.checked) false ⟨#[], #[.slice none 0 0, .slice none 0 0, .slice none 0 0], []⟩ 8 (by kernel_rfl) (by kernel_rfl) (by kernel_rfl) (by kernel_rfl)) ?_
  intro W base args ds gs before hval0 hW hcnd hsz0 _
  have hsz : (DataW.weightsEach Try.prog (Try.f3.params.toList ++ Rows.fnExactTermWaysSpec.plain.varTypes Try.prog) (ds ++ gs)).all (· ≤ reachBytes) = true := hsz0
  have hval : ∀ (j : Nat) t v, Try.f3.params[j]? = some t → args[j]? = some v → Value.okWide Try.prog W .any base t v := hval0
  have hW' := hW
  obtain ⟨p, q, hA0, hV, rfl, hfz, hnd⟩ := hW
  have hA : DataW.TrodAll enc Try.prog W 0 (fun _ => true) true Try.f3.params.toList args.toList ds p := hA0
  rw [Try.params3] at hA hval hsz
  obtain ⟨v0, vs0, d0, ds0, p0, q0, hargs, rfl, rfl, h0, r0⟩ := trodAll_cons hA
  obtain ⟨v1, vs1, d1, ds1, p1, q1, rfl, rfl, rfl, h1, r1⟩ := trodAll_cons r0
  obtain ⟨v2, vs2, d2, ds2, p2, q2, rfl, rfl, rfl, h2, r2⟩ := trodAll_cons r1
  obtain ⟨rfl, rfl, rfl⟩ := trodAll_nil r2
  obtain rfl : args = #[v0, v1, v2] := by cases args; simp_all
  obtain ⟨rfl, rfl⟩ := trodVars_none hV
  obtain ⟨a0, len0, cap0, rfl⟩ := okWide_slice Try.underlying22 (hval 0 22 v0 rfl rfl)
  have k0 := h0
  have lt0 : ∀ x ∈ p0, x.block < W.heap.size := by obtain ⟨m, hm⟩ := k0; exact DataW.trod_lt m _ _ _ hm
  obtain ⟨z0, w0⟩ : ∃ zs, IsRow .i64 W a0 len0 cap0 zs := by
    obtain ⟨fuel, hf⟩ := h0
    rcases open_ints Try.underlying22 Try.underlying3 (by kernel_rfl) hf with ⟨hcs, _⟩ | ⟨x, l, c, zs, hcs, _, hl, hm, hz, _, hcell, hwz⟩
    · simp [Value.cells] at hcs
      obtain ⟨rfl, rfl, rfl⟩ := hcs
      exact ⟨[], .inl ⟨rfl, rfl, rfl, rfl⟩⟩
    · simp [Value.cells] at hcs
      obtain ⟨rfl, rfl, rfl⟩ := hcs
      exact ⟨zs, .inr ⟨_, rfl, hl, hm, by simpa using hz, hcell, hwz⟩⟩
  have y0 : len0 * 8 ≤ 140737488351232 := Go.Proofs.YtojaioejdfibhaaW.PrintWords.sized_ints hsz (j := 0) (t := 22) rfl rfl Try.underlying22 Try.underlying3 (by kernel_rfl) (by kernel_rfl) h0
  obtain ⟨a1, len1, cap1, rfl⟩ := okWide_slice Try.underlying23 (hval 1 23 v1 rfl rfl)
  have k1 := h1
  have lt1 : ∀ x ∈ p1, x.block < W.heap.size := by obtain ⟨m, hm⟩ := k1; exact DataW.trod_lt m _ _ _ hm
  obtain ⟨z1, w1⟩ : ∃ zs : List (List Int), zs.length = len1 ∧ len1 ≤ cap1 ∧ cap1 ≤ maxLen ∧ (∀ r ∈ zs, r.length ≤ maxLen) ∧ Kd.C (Kd.slice 3 (Kd.int .i64)) W a1 len1 zs := by
    obtain ⟨fuel, hf⟩ := h1
    rcases Go.Deep.open_int_rows Try.underlying23 Try.underlying22 Try.underlying3 (by kernel_rfl) (by kernel_rfl) hf with ⟨hcs, _⟩ | ⟨x, l, c, A, L, C, Z, hcs, _, hl, hm, _, hc⟩
    · simp [Value.cells] at hcs
      obtain ⟨rfl, rfl, rfl⟩ := hcs
      exact ⟨[], rfl, Nat.le_refl _, Nat.zero_le _, by simp, rfl, by omega, fun h => absurd h (by omega)⟩
    · simp [Value.cells] at hcs
      obtain ⟨rfl, rfl, rfl⟩ := hcs
      have hlen : ∀ r, r < len1 → ((Z r).take (L r)).length = L r := fun r hr => by
        obtain ⟨_, g1, g2, g3, _⟩ := hc r (by omega)
        rw [List.length_take]; omega
      refine ⟨(List.range len1).map fun r => (Z r).take (L r), by simp, hl, hm, fun r hr => ?_, by simp, by unfold maxLen at hm; omega, fun _ => ⟨x, rfl, fun j p hj => ?_⟩⟩
      · obtain ⟨i, hi, rfl⟩ := List.mem_map.mp hr
        have hi2 := List.mem_range.mp hi
        rw [hlen i hi2]
        obtain ⟨_, g1, g2, _⟩ := hc i (by omega)
        omega
      rw [List.getElem?_map] at hj
      have hj2 : j < len1 := by
        rcases Nat.lt_or_ge j len1 with h | h
        · exact h
        · rw [List.getElem?_eq_none (by simpa using h)] at hj; simp at hj
      rw [List.getElem?_range hj2] at hj
      obtain rfl := Option.some.inj hj
      obtain ⟨hcell, g1, g2, g3, g4, g5, g6⟩ := hc j (by omega)
      have hl1 := hlen j hj2
      refine ⟨[.slice (A j) (L j) (C j)], rfl, ⟨A j, C j, by rw [hl1], by rw [hl1]; exact g1, rfl, by rw [hl1]; unfold maxLen at g2; omega, fun hpos => ?_⟩, fun i u hu => ?_⟩
      · rw [hl1] at hpos
        cases hA : A j with
        | none => have := g5 hA; omega
        | some ad =>
          refine ⟨ad, rfl, fun q p hq => ⟨[.int .i64 p], rfl, rfl, fun i u hu => ?_⟩⟩
          have hq : ((Z j).take (L j))[q]? = some p := hq
          have hq2 : q < L j := by
            rcases Nat.lt_or_ge q (L j) with h | h
            · exact h
            · rw [List.getElem?_eq_none (by omega)] at hq; simp at hq
          match i, hu with
          | 0, hu =>
            obtain rfl := Option.some.inj hu
            have e := (g6 ad hA).2 q (by omega)
            rw [List.getElem?_take_of_lt hq2] at hq
            rw [List.getD_eq_getElem?_getD, hq] at e
            simpa [Kd.int, Kd.scalar] using e
      · match i, hu with
        | 0, hu => obtain rfl := Option.some.inj hu; simpa [Kd.slice] using hcell
  obtain ⟨a2, len2, cap2, rfl⟩ := okWide_slice Try.underlying24 (hval 2 24 v2 rfl rfl)
  have k2 := h2
  have lt2 : ∀ x ∈ p2, x.block < W.heap.size := by obtain ⟨m, hm⟩ := k2; exact DataW.trod_lt m _ _ _ hm
  obtain ⟨z2, w2⟩ : ∃ zs : List PFnExactTermWays.S67, zs.length = len2 ∧ len2 ≤ cap2 ∧ cap2 ≤ maxLen ∧ Kd.C PFnExactTermWays.k67 W a2 len2 zs := by
    obtain ⟨fuel, hf⟩ := h2
    rcases Go.Deep.open_slice_pairs Try.underlying24 Try.underlying67 (by kernel_rfl) rfl rfl (by kernel_rfl) (by kernel_rfl) hf with ⟨hcs, _⟩ | ⟨x, l, c, m, n, V0, V1, D0, D1, P0, P1, hcs, _, hl, hm, hmm, _, hc⟩
    · simp [Value.cells] at hcs
      obtain ⟨rfl, rfl, rfl⟩ := hcs
      exact ⟨[], rfl, Nat.le_refl _, Nat.zero_le _, rfl, by omega, fun h => absurd h (by omega)⟩
    · simp [Value.cells] at hcs
      obtain ⟨rfl, rfl, rfl⟩ := hcs
      have hlm : len2 ≤ m := by rw [hmm]; simp; exact hl
      refine ⟨(List.range len2).map fun i => ⟨intOf (V0 i), intOf (V1 i)⟩, by simp, hl, hm, by simp, by unfold maxLen at hm; omega, fun _ => ⟨x, rfl, fun j p hj => ?_⟩⟩
      rw [List.getElem?_map] at hj
      have hj2 : j < len2 := by
        rcases Nat.lt_or_ge j len2 with h | h
        · exact h
        · rw [List.getElem?_eq_none (by simpa using h)] at hj; simp at hj
      rw [List.getElem?_range hj2] at hj
      obtain rfl := Option.some.inj hj
      obtain ⟨hc0, hc1, ht0, ht1⟩ := hc j (by omega)
      obtain ⟨n0, e0, _, _⟩ := DataW.trod_int Try.underlying3 ht0
      obtain ⟨n1, e1, _, _⟩ := DataW.trod_int Try.underlying3 ht1
      obtain e0 : V0 j = .int .i64 n0 := by simpa using e0
      obtain e1 : V1 j = .int .i64 n1 := by simpa using e1
      refine ⟨[.int .i64 (intOf (V0 j)), .int .i64 (intOf (V1 j))], rfl, PFnExactTermWays.k67_mk W _, fun i u hu => ?_⟩
      rw [e0] at hc0 hu
      rw [e1] at hc1 hu
      match i, hu with
      | 0, hu => obtain rfl := Option.some.inj hu; exact hc0
      | 1, hu => obtain rfl := Option.some.inj hu; exact hc1
  clear hA0 hval0 hsz0 hsz
  refine (PFnExactTermWays.laws_FnExactTermWays.walk Pure.FnExactTermWays a0 len0 cap0 z0 a1 len1 cap1 z1 a2 len2 cap2 z2 W w0 y0 w1 w2).mono fun e W' ⟨he, bel⟩ => ?_
  subst he
  exact ⟨_, rfl, _, _, _, [], _, [], hW', trodAll_mk1 (shut_bool Try.underlying4 _), (trodAll_cons_mk (Below.trod laidOut (by kernel_rfl) (of_decide_eq_true (by kernel_rfl)) k0 bel lt0) (trodAll_cons_mk (Below.trod laidOut (by kernel_rfl) (of_decide_eq_true (by kernel_rfl)) k1 bel lt1) (trodAll_cons_mk (Below.trod laidOut (by kernel_rfl) (of_decide_eq_true (by kernel_rfl)) k2 bel lt2) trodAll_mk0))), rfl, bel.frame _, fun h => by cases h⟩
theorem over : Rows.fnExactTermWaysRow.holds Try.pinned (OpenSpec.ofChange Rows.fnExactTermWaysSpec) :=
  OpenClaim.holds_of_wide 3 Try.f3 rfl rfl rfl rfl rfl rfl rfl ⟨rfl, rfl, rfl, rfl, rfl⟩ rfl rfl rfl rfl rfl (by kernel_rfl) Try.func3 (by kernel_rfl)
    (of_decide_eq_true (by kernel_rfl)) (by unfold Func.isWrapper; first | (rw [if_pos (by decide +kernel)]; kernel_rfl) | (rw [if_neg (by decide +kernel)]; exact ⟨rfl, rfl⟩))
    (fun os started H enc _ => lifted os started H enc)
theorem proved : Rows.FnExactTermWaysSaid := over
#print axioms proved
end Go.Proofs.Ytojaioejdfibhaa.fnExactTermWays
namespace Go.Proofs.Ytojaioejdfibhaa
/-- The row, under a short name, for the claim. -/
theorem fnExactTermWays_holds : Rows.FnExactTermWaysSaid := fnExactTermWays.proved
end Go.Proofs.Ytojaioejdfibhaa
