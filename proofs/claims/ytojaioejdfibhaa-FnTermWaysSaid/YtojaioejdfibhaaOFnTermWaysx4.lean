/- Walks of the functions that the law FnTermWays reaches, written by a program of this session. No condition but those that each states. -/
import Derived.Test.YtojaioejdfibhaaOFnTermWaysx0
import Derived.Test.YtojaioejdfibhaaOFnTermWaysx1
import Derived.Test.YtojaioejdfibhaaOFnTermWaysx3
namespace Go.Proofs.Ytojaioejdfibhaa.PFnTermWays
open Go.RowKit Go.Proofs.YtojaioejdfibhaaW.PrintWords Go.Proofs.YtojaioejdfibhaaW.PrintLast Go.Proofs.YtojaioejdfibhaaW.PrintMore
attribute [local go_sem] max2_int min2_int max_two min_two max_three min_three max_four min_four   -- for this text's walks alone
set_option linter.unusedVariables false
set_option linter.unusedSimpArgs false

attribute [local go_sem high] eqA42
/-! ### spec_TermOk: function 41 -/
mutual
def spec_TermOk.l0 : Nat → Int → List (S42) → List Int → Int → Option (Bool)
 | 0, _, _, _, _ => none
 | k + 1, x0, x1, x5, x6 => if x6 < (x1.length : Int) then (if 0 ≤ x6 then (if ((rd_T42 x1 x6).f0) = 0 then (if ((rd_T42 x1 x6).f1) ≥ 0 then (if ((rd_T42 x1 x6).f1) < x0 then (spec_TermOk.j1 k x0 x1 x5 x6 (wrap64 ((x5.length : Int) - 1)) true) else (spec_TermOk.j1 k x0 x1 x5 x6 (wrap64 ((x5.length : Int) - 1)) (((rd_T42 x1 x6).f0) == 1 && (((rd_T42 x1 x6).f1) == 0)))) else (spec_TermOk.j1 k x0 x1 x5 x6 (wrap64 ((x5.length : Int) - 1)) (((rd_T42 x1 x6).f0) == 1 && (((rd_T42 x1 x6).f1) == 0)))) else (spec_TermOk.j1 k x0 x1 x5 x6 (wrap64 ((x5.length : Int) - 1)) (((rd_T42 x1 x6).f0) == 1 && (((rd_T42 x1 x6).f1) == 0)))) else (none)) else ((spec_l1In.f x0 1 3).bind fun t192 => (if t192 = true then (if (x5.length : Int) = 1 then (some (decide ((x1.length : Int) ≤ 15))) else (some false)) else (some false)))
def spec_TermOk.j1 : Nat → Int → List (S42) → List Int → Int → Int → Bool → Option (Bool)
 | 0, _, _, _, _, _, _ => none
 | k + 1, x0, x1, x5, x6, x7, x19 => if x19 = true then (if x5.length < 17592186044416 then (spec_TermOk.l0 k x0 x1 (x5 ++ [1]) (wrap64 (x6 + 1))) else (none)) else (if 0 ≤ x6 then (if x6 < (x1.length : Int) then (if (((rd_T42 x1 x6).f0) == 2 && (((rd_T42 x1 x6).f1) == 0)) = true then (if x7 ≥ 1 then (if 0 ≤ (wrap64 (x7 - 1)) then (if (wrap64 (x7 - 1)) < (x5.length : Int) then (if 0 ≤ x7 then (if x7 < (x5.length : Int) then (spec_TermOk.j2 k x0 x1 x5 x6 x7 (decide ((wrap64 ((rd x5 (wrap64 (x7 - 1))) + (rd x5 x7))) ≤ 6))) else (none)) else (none)) else (none)) else (none)) else (spec_TermOk.j2 k x0 x1 x5 x6 x7 false)) else (spec_TermOk.j2 k x0 x1 x5 x6 x7 false)) else (none)) else (none))
def spec_TermOk.j2 : Nat → Int → List (S42) → List Int → Int → Int → Bool → Option (Bool)
 | 0, _, _, _, _, _, _ => none
 | k + 1, x0, x1, x5, x6, x7, x54 => if x54 = true then (if 0 ≤ (wrap64 (x7 - 1)) then (if (wrap64 (x7 - 1)) < (x5.length : Int) then (if 0 ≤ x7 then (if x7 < (x5.length : Int) then ((some (([] : List Int) : List Int)).bind fun y207 => (if (wrap64 (x7 - 1)) ≤ (x5.length : Int) then ((some (x5.take ((wrap64 (x7 - 1)) : Int).toNat : List Int)).bind fun y210 => (if y207.length + y210.length < 17592186044416 then ((some (y207 ++ y210 : List Int)).bind fun y214 => (if y214.length < 17592186044416 then (spec_TermOk.l0 k x0 x1 (y214 ++ [wrap64 ((rd x5 (wrap64 (x7 - 1))) + (rd x5 x7))]) (wrap64 (x6 + 1))) else (none))) else (none))) else (none))) else (none)) else (none)) else (none)) else (none)) else (if 0 ≤ x6 then (if x6 < (x1.length : Int) then (if (((rd_T42 x1 x6).f0) == 3 && (((rd_T42 x1 x6).f1) == 0)) = true then (if x7 ≥ 1 then (if 0 ≤ (wrap64 (x7 - 1)) then (if (wrap64 (x7 - 1)) < (x5.length : Int) then (if 0 ≤ x7 then (if x7 < (x5.length : Int) then (if (rd x5 (wrap64 (x7 - 1))) = (rd x5 x7) then (if x7 ≤ (x5.length : Int) then (spec_TermOk.l0 k x0 x1 (x5.take (x7 : Int).toNat) (wrap64 (x6 + 1))) else (none)) else (some false)) else (none)) else (none)) else (none)) else (none)) else (some false)) else (some false)) else (none)) else (none))
end
def spec_TermOk.f (k : Nat) (a0 : Int) (l1 : List (S42)) : Option (Bool) := spec_TermOk.l0 k a0 l1 (([] : List Int)) 0
set_option maxHeartbeats 8000000 in
set_option maxRecDepth 100000 in
theorem spec_TermOk.calls (k : Nat) (a0 : Int) (A1 : Option Addr) (c1 : Nat) (l1 : List (S42)) (r : Bool) (w : World) (hr1 : Kd.C k42 w A1 l1.length l1) (hc1 : l1.length ≤ c1) (h : spec_TermOk.f k a0 l1 = some r) :
  Calls Try.prog 41 #[.int .i64 a0, .slice A1 l1.length c1] w fun e w' => e = .returned (.bool r) ∧ Below w.heap.size w w' := by
 have hu42 := Try.underlying42
 have HR1 := Aside0.mk hr1
 have HC1 := Aside0.mk hc1
 clear hr1 hc1
 have HB := Aside0.mk (Below.refl w.heap.size w)
 have H : (spec_TermOk.l0 k a0 l1 (([] : List Int)) 0) = some r := h
 clear h
 obtain ⟨y189, hy189⟩ : ∃ y_ : List Int, y_ = (([] : List Int)) := ⟨_, rfl⟩
 replace H : (spec_TermOk.l0 k a0 l1 y189 0) = some r := by first | (rw [hy189]; with_reducible exact H) | (have H2_ := (Option.bind_some _ _).symm.trans H; rw [hy189]; with_reducible exact H2_) | (have H2_ := (Option.bind_some _ _).symm.trans H; with_reducible exact H2_) | with_reducible exact H | (rw [hy189]; exact H) | exact H
 have Ny189 := Aside0.mk hy189
 clear hy189
 have H' := Aside0.mk H
 clear H
 go_enter Try.func41, Try.ntmps41
 go_wp2_with (first | ((with_reducible refine gate_dst (N := 9) rfl ?_); (try (refine gate_guard (by rfl) ?_; dsimp only)); refine Kd.R_lit (Kd.int .i64) _ 3 ?hg (N := 9) ?hd (xs := ([] : List Int)) (inner := []) (ok := fun _ => True) (okp := fun _ => True) ?hr ?hp (fun _ hk => hk) trivial (Below.refl _ _) (Nat.le_refl _) (by simp) ?_; (case hd => rfl); (case hg => rfl); (case hr => first | (go_simp; done) | (go_simp; rfl)); (case hp => exact (Reps.none _ _)); intro v190 w3 ho4 hb hg_ hnew_; clear hg_ hnew_; (first | rw [← Ny189.out] at ho4 | (simp only [Int.reduceToNat] at ho4; rw [← Ny189.out] at ho4)); have n0_ := Aside0.mk (Kd.R_lower ho4 (below_size (HB.out))); have n1_ := Aside0.mk (below_step (HB.out) hb); clear HB; have HO191 := n0_; have HB := n1_; clear n0_ n1_; clear hb ho4))
 go_loopg [5, 6] k (fun kq v5 v6 w' => ∃ (x5_1 : List Int) (x6_1 : Int), v6 = .int .i64 x6_1 ∧ Aside0 (spec_TermOk.l0 kq a0 l1 x5_1 x6_1 = some r) ∧ Aside0 (kq ≤ k) ∧ Aside0 (Kd.R (Kd.int .i64) 3 w' w.heap.size (fun _ => True) v5 x5_1) ∧ Aside0 (Below w.heap.size w w'))
 case atStart => exact ⟨(y189), (0), (by first | rfl | (simp; done) | (simp [*]; done)), H', ⟨Nat.le_refl _⟩, ⟨by (with_reducible repeat (first | apply Kd.R_alloc | apply Kd.R_drewN | apply Kd.R_drew)); exact HO191.out⟩, ⟨HB.out⟩⟩
 case round =>
  clear H'
  try clear c1
  try clear p2
  try clear c4
  obtain ⟨x5_1, x6_1, rfl, HA, HK1, HO_5, HB⟩ := hrel
  cases gk with
  | zero => exact absurd HA.out (by simp [spec_TermOk.l0])
  | succ k1 =>
   have H := HA.out
   clear HA
   simp only [spec_TermOk.l0] at H
   by_cases c5 : x6_1 < (l1.length : Int)
   ·rw [if_pos c5] at H
    have c5b0 : decide (x6_1 < (l1.length : Int)) = true := decide_eq_true c5
    clear c5
    have HC6 := Aside0.mk H
    clear H
    obtain ⟨Ao7, co7, eo7⟩ := Kd.R_slice HO_5.out
    subst eo7
    go_upto_region 7 with (fail)
    repeat (go_quiet (fail); go_upto_region 7 with (fail))
    go_cut [19] (fun v19 wc => ∃ (kq : Nat) (x19_5 : Bool), v19 = .bool x19_5 ∧ Aside0 (spec_TermOk.j1 kq a0 l1 x5_1 x6_1 (wrap64 ((x5_1.length : Int) - 1)) x19_5 = some r) ∧ Aside0 (kq ≤ k1) ∧ Aside0 (Kd.R (Kd.int .i64) 3 wc w.heap.size (fun _ => True) (.slice Ao7 x5_1.length co7) x5_1) ∧ Aside0 (Below w.heap.size w wc))
    case first =>
     have H := HC6.out
     clear HC6
     by_cases c8 : 0 ≤ x6_1
     ·rw [if_pos c8] at H
      have c8b0 : decide (0 ≤ x6_1) = true := decide_eq_true c8
      clear c8
      (first | rw [c8b0] | (simp only [i64_w, i32_w]; rw [c8b0]) | skip)
      by_cases c9 : ((rd_T42 l1 x6_1).f0) = 0
      ·rw [if_pos c9] at H
       have c9b0 : (((rd_T42 l1 x6_1).f0) == 0) = true := beq_iff_eq.mpr c9
       have c9b1 : (((rd_T42 l1 x6_1).f0) != 0) = false := bne_eq_false_iff_eq.mpr c9
       clear c9
       by_cases c10 : ((rd_T42 l1 x6_1).f1) ≥ 0
       ·rw [if_pos c10] at H
        have c10b0 : decide (0 ≤ ((rd_T42 l1 x6_1).f1)) = true := decide_eq_true c10
        clear c10
        by_cases c11 : ((rd_T42 l1 x6_1).f1) < a0
        ·rw [if_pos c11] at H
         have c11b0 : decide (((rd_T42 l1 x6_1).f1) < a0) = true := decide_eq_true c11
         clear c11
         have H' := Aside0.mk H
         clear H
         have p193 : 0 ≤ (x6_1 : Int) := of_decide_eq_true (by assumption)
         have q193 : x6_1 < (l1.length : Int) := of_decide_eq_true (by assumption)
         obtain ⟨ad193, e193, hx193_0, hx193_1⟩ := at_T42 HR1.out x6_1 p193 q193
         cases e193
         replace hx193_0 := (HB.out.cell (World.block_lt_of_cell? w _ hx193_0)).trans hx193_0
         replace hx193_1 := (HB.out.cell (World.block_lt_of_cell? w _ hx193_1)).trans hx193_1
         replace p193 := eq_true p193
         replace q193 := eq_true q193
         have p194 : 0 ≤ (x6_1 : Int) := of_decide_eq_true (by assumption)
         have q194 : x6_1 < (l1.length : Int) := of_decide_eq_true (by assumption)
         obtain ⟨ad194, e194, hx194_0, hx194_1⟩ := at_T42 HR1.out x6_1 p194 q194
         obtain rfl : ad193 = ad194 := (by injection e194)
         replace hx194_0 := (HB.out.cell (World.block_lt_of_cell? w _ hx194_0)).trans hx194_0
         replace hx194_1 := (HB.out.cell (World.block_lt_of_cell? w _ hx194_1)).trans hx194_1
         replace p194 := eq_true p194
         replace q194 := eq_true q194
         have p195 : 0 ≤ (x6_1 : Int) := of_decide_eq_true (by assumption)
         have q195 : x6_1 < (l1.length : Int) := of_decide_eq_true (by assumption)
         obtain ⟨ad195, e195, hx195_0, hx195_1⟩ := at_T42 HR1.out x6_1 p195 q195
         obtain rfl : ad193 = ad195 := (by injection e195)
         replace hx195_0 := (HB.out.cell (World.block_lt_of_cell? w _ hx195_0)).trans hx195_0
         replace hx195_1 := (HB.out.cell (World.block_lt_of_cell? w _ hx195_1)).trans hx195_1
         replace p195 := eq_true p195
         replace q195 := eq_true q195
         go_wp2
         repeat (go_quiet (fail); try go_wp2)
         go_meet
         case rel => exact ⟨_, (true), (by first | rfl | (simp; done) | (simp [*]; done)), H', ⟨by have := HK1.out; first | omega | exact Nat.le_refl _⟩, ⟨by (with_reducible repeat (first | apply Kd.R_alloc | apply Kd.R_drewN | apply Kd.R_drew)); exact HO_5.out⟩, ⟨HB.out⟩⟩
        ·rw [if_neg c11] at H
         have c11b0 : decide (((rd_T42 l1 x6_1).f1) < a0) = false := decide_eq_false c11
         clear c11
         have H' := Aside0.mk H
         clear H
         have p193 : 0 ≤ (x6_1 : Int) := of_decide_eq_true (by assumption)
         have q193 : x6_1 < (l1.length : Int) := of_decide_eq_true (by assumption)
         obtain ⟨ad193, e193, hx193_0, hx193_1⟩ := at_T42 HR1.out x6_1 p193 q193
         cases e193
         replace hx193_0 := (HB.out.cell (World.block_lt_of_cell? w _ hx193_0)).trans hx193_0
         replace hx193_1 := (HB.out.cell (World.block_lt_of_cell? w _ hx193_1)).trans hx193_1
         replace p193 := eq_true p193
         replace q193 := eq_true q193
         have p194 : 0 ≤ (x6_1 : Int) := of_decide_eq_true (by assumption)
         have q194 : x6_1 < (l1.length : Int) := of_decide_eq_true (by assumption)
         obtain ⟨ad194, e194, hx194_0, hx194_1⟩ := at_T42 HR1.out x6_1 p194 q194
         obtain rfl : ad193 = ad194 := (by injection e194)
         replace hx194_0 := (HB.out.cell (World.block_lt_of_cell? w _ hx194_0)).trans hx194_0
         replace hx194_1 := (HB.out.cell (World.block_lt_of_cell? w _ hx194_1)).trans hx194_1
         replace p194 := eq_true p194
         replace q194 := eq_true q194
         have p195 : 0 ≤ (x6_1 : Int) := of_decide_eq_true (by assumption)
         have q195 : x6_1 < (l1.length : Int) := of_decide_eq_true (by assumption)
         obtain ⟨ad195, e195, hx195_0, hx195_1⟩ := at_T42 HR1.out x6_1 p195 q195
         obtain rfl : ad193 = ad195 := (by injection e195)
         replace hx195_0 := (HB.out.cell (World.block_lt_of_cell? w _ hx195_0)).trans hx195_0
         replace hx195_1 := (HB.out.cell (World.block_lt_of_cell? w _ hx195_1)).trans hx195_1
         replace p195 := eq_true p195
         replace q195 := eq_true q195
         have p196 : 0 ≤ (x6_1 : Int) := of_decide_eq_true (by assumption)
         have q196 : x6_1 < (l1.length : Int) := of_decide_eq_true (by assumption)
         obtain ⟨ad196, e196, hx196_0, hx196_1⟩ := at_T42 HR1.out x6_1 p196 q196
         obtain rfl : ad193 = ad196 := (by injection e196)
         replace hx196_0 := (HB.out.cell (World.block_lt_of_cell? w _ hx196_0)).trans hx196_0
         replace hx196_1 := (HB.out.cell (World.block_lt_of_cell? w _ hx196_1)).trans hx196_1
         replace p196 := eq_true p196
         replace q196 := eq_true q196
         go_wp2
         repeat (go_quiet (fail); try go_wp2)
         go_meet
         case rel => exact ⟨_, ((((rd_T42 l1 x6_1).f0) == 1 && (((rd_T42 l1 x6_1).f1) == 0))), (by first | rfl | (simp; done) | (simp [*]; done)), H', ⟨by have := HK1.out; first | omega | exact Nat.le_refl _⟩, ⟨by (with_reducible repeat (first | apply Kd.R_alloc | apply Kd.R_drewN | apply Kd.R_drew)); exact HO_5.out⟩, ⟨HB.out⟩⟩
       ·rw [if_neg c10] at H
        have c10b0 : decide (0 ≤ ((rd_T42 l1 x6_1).f1)) = false := decide_eq_false c10
        clear c10
        have H' := Aside0.mk H
        clear H
        have p193 : 0 ≤ (x6_1 : Int) := of_decide_eq_true (by assumption)
        have q193 : x6_1 < (l1.length : Int) := of_decide_eq_true (by assumption)
        obtain ⟨ad193, e193, hx193_0, hx193_1⟩ := at_T42 HR1.out x6_1 p193 q193
        cases e193
        replace hx193_0 := (HB.out.cell (World.block_lt_of_cell? w _ hx193_0)).trans hx193_0
        replace hx193_1 := (HB.out.cell (World.block_lt_of_cell? w _ hx193_1)).trans hx193_1
        replace p193 := eq_true p193
        replace q193 := eq_true q193
        have p194 : 0 ≤ (x6_1 : Int) := of_decide_eq_true (by assumption)
        have q194 : x6_1 < (l1.length : Int) := of_decide_eq_true (by assumption)
        obtain ⟨ad194, e194, hx194_0, hx194_1⟩ := at_T42 HR1.out x6_1 p194 q194
        obtain rfl : ad193 = ad194 := (by injection e194)
        replace hx194_0 := (HB.out.cell (World.block_lt_of_cell? w _ hx194_0)).trans hx194_0
        replace hx194_1 := (HB.out.cell (World.block_lt_of_cell? w _ hx194_1)).trans hx194_1
        replace p194 := eq_true p194
        replace q194 := eq_true q194
        have p197 : 0 ≤ (x6_1 : Int) := of_decide_eq_true (by assumption)
        have q197 : x6_1 < (l1.length : Int) := of_decide_eq_true (by assumption)
        obtain ⟨ad197, e197, hx197_0, hx197_1⟩ := at_T42 HR1.out x6_1 p197 q197
        obtain rfl : ad193 = ad197 := (by injection e197)
        replace hx197_0 := (HB.out.cell (World.block_lt_of_cell? w _ hx197_0)).trans hx197_0
        replace hx197_1 := (HB.out.cell (World.block_lt_of_cell? w _ hx197_1)).trans hx197_1
        replace p197 := eq_true p197
        replace q197 := eq_true q197
        go_wp2
        repeat (go_quiet (fail); try go_wp2)
        go_meet
        case rel => exact ⟨_, ((((rd_T42 l1 x6_1).f0) == 1 && (((rd_T42 l1 x6_1).f1) == 0))), (by first | rfl | (simp; done) | (simp [*]; done)), H', ⟨by have := HK1.out; first | omega | exact Nat.le_refl _⟩, ⟨by (with_reducible repeat (first | apply Kd.R_alloc | apply Kd.R_drewN | apply Kd.R_drew)); exact HO_5.out⟩, ⟨HB.out⟩⟩
      ·rw [if_neg c9] at H
       have c9b0 : (((rd_T42 l1 x6_1).f0) == 0) = false := beq_eq_false_iff_ne.mpr c9
       have c9b1 : (((rd_T42 l1 x6_1).f0) != 0) = true := bne_iff_ne.mpr c9
       have H' := Aside0.mk H
       clear H
       have p193 : 0 ≤ (x6_1 : Int) := of_decide_eq_true (by assumption)
       have q193 : x6_1 < (l1.length : Int) := of_decide_eq_true (by assumption)
       obtain ⟨ad193, e193, hx193_0, hx193_1⟩ := at_T42 HR1.out x6_1 p193 q193
       cases e193
       replace hx193_0 := (HB.out.cell (World.block_lt_of_cell? w _ hx193_0)).trans hx193_0
       replace hx193_1 := (HB.out.cell (World.block_lt_of_cell? w _ hx193_1)).trans hx193_1
       replace p193 := eq_true p193
       replace q193 := eq_true q193
       have p198 : 0 ≤ (x6_1 : Int) := of_decide_eq_true (by assumption)
       have q198 : x6_1 < (l1.length : Int) := of_decide_eq_true (by assumption)
       obtain ⟨ad198, e198, hx198_0, hx198_1⟩ := at_T42 HR1.out x6_1 p198 q198
       obtain rfl : ad193 = ad198 := (by injection e198)
       replace hx198_0 := (HB.out.cell (World.block_lt_of_cell? w _ hx198_0)).trans hx198_0
       replace hx198_1 := (HB.out.cell (World.block_lt_of_cell? w _ hx198_1)).trans hx198_1
       replace p198 := eq_true p198
       replace q198 := eq_true q198
       go_wp2
       repeat (go_quiet (fail); try go_wp2)
       go_meet
       case rel => exact ⟨_, ((((rd_T42 l1 x6_1).f0) == 1 && (((rd_T42 l1 x6_1).f1) == 0))), (by first | rfl | (simp; done) | (simp [*]; done)), H', ⟨by have := HK1.out; first | omega | exact Nat.le_refl _⟩, ⟨by (with_reducible repeat (first | apply Kd.R_alloc | apply Kd.R_drewN | apply Kd.R_drew)); exact HO_5.out⟩, ⟨HB.out⟩⟩
     ·rw [if_neg c8] at H
      exact absurd H (by simp)
    case rest =>
     clear HC6
     try clear c1
     try clear p1
     try clear q1
     try clear hx1
     try clear p2
     try clear c4
     try clear c5
     try clear c5b0
     try clear p6
     try clear c8
     try clear c8b0
     try clear c9
     try clear c9b0
     try clear c9b1
     try clear c10
     try clear c10b0
     try clear c11
     try clear c11b0
     try clear hx193_0
     try clear hx193_1
     try clear hx194_0
     try clear hx194_1
     try clear hx195_0
     try clear hx195_1
     try clear hx196_0
     try clear hx196_1
     try clear hx197_0
     try clear hx197_1
     try clear hx198_0
     try clear hx198_1
     try clear p193
     try clear p194
     try clear p195
     try clear p196
     try clear p197
     try clear p198
     try clear p2
     try clear q193
     try clear q194
     try clear q195
     try clear q196
     try clear q197
     try clear q198
     obtain ⟨kq, x19_5, rfl, HA, HJ5, HO_5, HB⟩ := hcut
     cases kq with
     | zero => exact absurd HA.out (by simp [spec_TermOk.j1])
     | succ kj5 =>
      have H := HA.out
      clear HA
      simp only [spec_TermOk.j1] at H
      by_cases c12 : x19_5 = true
      ·subst c12
       have H1 : (if x5_1.length < 17592186044416 then (spec_TermOk.l0 kj5 a0 l1 (x5_1 ++ [1]) (wrap64 (x6_1 + 1))) else (none)) = some r := by rw [if_pos rfl] at H; exact H
       clear H
       have H := H1
       clear H1
       by_cases c13 : x5_1.length < 17592186044416
       ·rw [if_pos c13] at H
        have LMc13 := Aside0.mk c13
        clear c13
        obtain ⟨y199, hy199⟩ : ∃ y_ : List Int, y_ = (x5_1 ++ [1]) := ⟨_, rfl⟩
        replace H : (spec_TermOk.l0 kj5 a0 l1 y199 (wrap64 (x6_1 + 1))) = some r := by first | (rw [hy199]; with_reducible exact H) | (have H2_ := (Option.bind_some _ _).symm.trans H; rw [hy199]; with_reducible exact H2_) | (have H2_ := (Option.bind_some _ _).symm.trans H; with_reducible exact H2_) | with_reducible exact H | (rw [hy199]; exact H) | exact H
        have Ny199 := Aside0.mk hy199
        clear hy199
        have H' := Aside0.mk H
        clear H
        go_wp2_with (first | ((with_reducible refine gate_builtin (b := .append) (xs := #[.tmp 51, .tmp 52]) rfl ?_); (try (refine gate_guard (by rfl) ?_; dsimp only)); at_builtin; refine Kd.R_append (Kd.int .i64) (w0 := w) w.heap.size rfl (.tmp 51) (.tmp 52) 22 3 (.int .i64 0) 8 rfl Try.underlying22 info3 rfl (by decide) (by omega) (.slice Ao7 x5_1.length co7) x5_1 1 [.int .i64 1] (fun _ => True) (fun _ => False) rfl rfl ?aP (fun _ hk => hk.elim) ?aF ?aO ?aB ?aS ?aL ?_; (case aP => exact rfl); (case aB => exact (HB.out)); (case aF => exact (fun _ _ => trivial)); (case aO => exact (by (with_reducible repeat (first | apply Kd.R_alloc | apply Kd.R_drewN | apply Kd.R_drew)); exact HO_5.out)); (case aS => exact (below_size (HB.out))); (case aL => have := LMc13.out; omega); intro v200 w14 ho hb hg hat; rw [← Ny199.out] at ho; have n0_ := Aside0.mk (hb); have n1_ := Aside0.mk (ho); clear HB; clear HO_5; have HB := n0_; have HO201 := n1_; clear n0_ n1_; clear ho hb hg hat))
        go_roundg kj5
        case measure => have := HK1.out; have := HJ5.out; omega
        case rel => exact ⟨(y199), (wrap64 (x6_1 + 1)), (by first | rfl | (simp; done) | (simp [*]; done)), H', ⟨by have := HK1.out; have := HJ5.out; omega⟩, ⟨by (with_reducible repeat (first | apply Kd.R_alloc | apply Kd.R_drewN | apply Kd.R_drew)); exact HO201.out⟩, ⟨by repeat first | with_reducible exact HB.out | apply below_alloc | apply pw_below_drewN | apply below_drew1⟩⟩
       ·rw [if_neg c13] at H
        exact absurd H (by simp)
      ·replace c12 := Bool.eq_false_iff.mpr c12
       subst c12
       have H1 : (if 0 ≤ x6_1 then (if x6_1 < (l1.length : Int) then (if (((rd_T42 l1 x6_1).f0) == 2 && (((rd_T42 l1 x6_1).f1) == 0)) = true then (if (wrap64 ((x5_1.length : Int) - 1)) ≥ 1 then (if 0 ≤ (wrap64 ((wrap64 ((x5_1.length : Int) - 1)) - 1)) then (if (wrap64 ((wrap64 ((x5_1.length : Int) - 1)) - 1)) < (x5_1.length : Int) then (if 0 ≤ (wrap64 ((x5_1.length : Int) - 1)) then (if (wrap64 ((x5_1.length : Int) - 1)) < (x5_1.length : Int) then (spec_TermOk.j2 kj5 a0 l1 x5_1 x6_1 (wrap64 ((x5_1.length : Int) - 1)) (decide ((wrap64 ((rd x5_1 (wrap64 ((wrap64 ((x5_1.length : Int) - 1)) - 1))) + (rd x5_1 (wrap64 ((x5_1.length : Int) - 1))))) ≤ 6))) else (none)) else (none)) else (none)) else (none)) else (spec_TermOk.j2 kj5 a0 l1 x5_1 x6_1 (wrap64 ((x5_1.length : Int) - 1)) false)) else (spec_TermOk.j2 kj5 a0 l1 x5_1 x6_1 (wrap64 ((x5_1.length : Int) - 1)) false)) else (none)) else (none)) = some r := by rw [if_neg (show ¬ (false = true) by decide)] at H; exact H
       clear H
       have H := H1
       clear H1
       have HC15 := Aside0.mk H
       clear H
       go_upto_region 9 with (fail)
       repeat (go_quiet (fail); go_upto_region 9 with (fail))
       go_cut [54] (fun v54 wc => ∃ (kq : Nat) (x54_14 : Bool), v54 = .bool x54_14 ∧ Aside0 (spec_TermOk.j2 kq a0 l1 x5_1 x6_1 (wrap64 ((x5_1.length : Int) - 1)) x54_14 = some r) ∧ Aside0 (kq ≤ kj5) ∧ Aside0 (Kd.R (Kd.int .i64) 3 wc w.heap.size (fun _ => True) (.slice Ao7 x5_1.length co7) x5_1) ∧ Aside0 (Below w.heap.size w wc))
       case first =>
        have H := HC15.out
        clear HC15
        by_cases c16 : 0 ≤ x6_1
        ·rw [if_pos c16] at H
         have c16b0 : decide (0 ≤ x6_1) = true := decide_eq_true c16
         clear c16
         (first | rw [c16b0] | (simp only [i64_w, i32_w]; rw [c16b0]) | skip)
         by_cases c17 : x6_1 < (l1.length : Int)
         ·rw [if_pos c17] at H
          have c17b0 : decide (x6_1 < (l1.length : Int)) = true := decide_eq_true c17
          clear c17
          by_cases c18 : (((rd_T42 l1 x6_1).f0) == 2 && (((rd_T42 l1 x6_1).f1) == 0)) = true
          ·rw [if_pos c18] at H
           have c18b0 : (((rd_T42 l1 x6_1).f0) == 2 && (((rd_T42 l1 x6_1).f1) == 0)) = true := c18
           (try (have c18b1 : decide (((rd_T42 l1 x6_1).f0) = 2 && (((rd_T42 l1 x6_1).f1) == 0)) = true := by simpa using c18))
           (try (have c18b2 : (((rd_T42 l1 x6_1).f0) == 2 && (((rd_T42 l1 x6_1).f1) == 0)) = true := by simpa using c18))
           clear c18
           by_cases c19 : (wrap64 ((x5_1.length : Int) - 1)) ≥ 1
           ·rw [if_pos c19] at H
            have c19b0 : decide (1 ≤ (wrap64 ((x5_1.length : Int) - 1))) = true := decide_eq_true c19
            clear c19
            obtain ⟨ji20, hji20⟩ : ∃ j_ : Int, (wrap64 ((wrap64 ((x5_1.length : Int) - 1)) - 1)) = j_ := ⟨_, rfl⟩
            replace H : (if 0 ≤ (ji20) then (if (ji20) < (x5_1.length : Int) then (if 0 ≤ (wrap64 ((x5_1.length : Int) - 1)) then (if (wrap64 ((x5_1.length : Int) - 1)) < (x5_1.length : Int) then (spec_TermOk.j2 kj5 a0 l1 x5_1 x6_1 (wrap64 ((x5_1.length : Int) - 1)) (decide ((wrap64 ((rd x5_1 (ji20)) + (rd x5_1 (wrap64 ((x5_1.length : Int) - 1))))) ≤ 6))) else (none)) else (none)) else (none)) else (none)) = some r := by first | (rw [hji20] at H; exact H) | (simp only [hji20] at H ⊢; exact H)
            have hji20w : (IntKind.i64.wrap ((wrap64 ((x5_1.length : Int) - 1)) - 1)) = ji20 := (i64_w _).trans hji20
            by_cases c21 : 0 ≤ (ji20)
            ·rw [if_pos c21] at H
             have c21b0 : decide (0 ≤ (ji20)) = true := decide_eq_true c21
             clear c21
             by_cases c22 : (ji20) < (x5_1.length : Int)
             ·rw [if_pos c22] at H
              have c22b0 : decide ((ji20) < (x5_1.length : Int)) = true := decide_eq_true c22
              clear c22
              obtain ⟨ji23, hji23⟩ : ∃ j_ : Int, (wrap64 ((x5_1.length : Int) - 1)) = j_ := ⟨_, rfl⟩
              have hji20_ji23 : (wrap64 (ji23 - 1)) = ji20 := by rw [← hji23]; exact hji20
              have hji20_ji23w : (IntKind.i64.wrap (ji23 - 1)) = ji20 := (i64_w _).trans hji20_ji23
              replace H : (if 0 ≤ (ji23) then (if (ji23) < (x5_1.length : Int) then (spec_TermOk.j2 kj5 a0 l1 x5_1 x6_1 (ji23) (decide ((wrap64 ((rd x5_1 (ji20)) + (rd x5_1 (ji23)))) ≤ 6))) else (none)) else (none)) = some r := by first | (rw [hji23] at H; exact H) | (simp only [hji23] at H ⊢; exact H)
              (try rw [hji23] at c19b0)
              have hji23w : (IntKind.i64.wrap ((x5_1.length : Int) - 1)) = ji23 := (i64_w _).trans hji23
              by_cases c24 : 0 ≤ (ji23)
              ·rw [if_pos c24] at H
               have c24b0 : decide (0 ≤ (ji23)) = true := decide_eq_true c24
               clear c24
               by_cases c25 : (ji23) < (x5_1.length : Int)
               ·rw [if_pos c25] at H
                have c25b0 : decide ((ji23) < (x5_1.length : Int)) = true := decide_eq_true c25
                clear c25
                have H' := Aside0.mk H
                clear H
                have p202 : 0 ≤ (x6_1 : Int) := of_decide_eq_true (by assumption)
                have q202 : x6_1 < (l1.length : Int) := of_decide_eq_true (by assumption)
                obtain ⟨ad202, e202, hx202_0, hx202_1⟩ := at_T42 HR1.out x6_1 p202 q202
                cases e202
                replace hx202_0 := (HB.out.cell (World.block_lt_of_cell? w _ hx202_0)).trans hx202_0
                replace hx202_1 := (HB.out.cell (World.block_lt_of_cell? w _ hx202_1)).trans hx202_1
                replace p202 := eq_true p202
                replace q202 := eq_true q202
                have p203 : 0 ≤ ((ji20) : Int) := of_decide_eq_true (by assumption)
                have q203 : (ji20) < (x5_1.length : Int) := of_decide_eq_true (by assumption)
                obtain ⟨ad203, e203, hx203_0⟩ := Kd.at_int (Kd.R_reads' HO_5.out).2.2 (ji20) p203 q203
                cases e203
                replace p203 := eq_true p203
                replace q203 := eq_true q203
                have p204 : 0 ≤ ((ji23) : Int) := of_decide_eq_true (by assumption)
                have q204 : (ji23) < (x5_1.length : Int) := of_decide_eq_true (by assumption)
                obtain ⟨ad204, e204, hx204_0⟩ := Kd.at_int (Kd.R_reads' HO_5.out).2.2 (ji23) p204 q204
                obtain rfl : ad203 = ad204 := (by injection e204)
                replace p204 := eq_true p204
                replace q204 := eq_true q204
                go_wp2
                repeat (go_quiet (fail); try go_wp2)
                (try simp only [← hji23])
                go_meet
                case rel => exact ⟨_, (decide ((wrap64 ((rd x5_1 (ji20)) + (rd x5_1 (ji23)))) ≤ 6)), (by first | rfl | (simp; done) | (simp only [← hji20, ← hji23] <;> (first | rfl | simp)) | (simp [*]; done)), (by first | exact H' | (rw [hji23]; exact H')), ⟨by have := HK1.out; have := HJ5.out; first | omega | exact Nat.le_refl _⟩, ⟨by (with_reducible repeat (first | apply Kd.R_alloc | apply Kd.R_drewN | apply Kd.R_drew)); exact HO_5.out⟩, ⟨by repeat first | with_reducible exact HB.out | apply below_alloc | apply pw_below_drewN | apply below_drew1⟩⟩
               ·rw [if_neg c25] at H
                exact absurd H (by simp)
              ·rw [if_neg c24] at H
               exact absurd H (by simp)
             ·rw [if_neg c22] at H
              exact absurd H (by simp)
            ·rw [if_neg c21] at H
             exact absurd H (by simp)
           ·rw [if_neg c19] at H
            have c19b0 : decide (1 ≤ (wrap64 ((x5_1.length : Int) - 1))) = false := decide_eq_false c19
            clear c19
            have H' := Aside0.mk H
            clear H
            have p202 : 0 ≤ (x6_1 : Int) := of_decide_eq_true (by assumption)
            have q202 : x6_1 < (l1.length : Int) := of_decide_eq_true (by assumption)
            obtain ⟨ad202, e202, hx202_0, hx202_1⟩ := at_T42 HR1.out x6_1 p202 q202
            cases e202
            replace hx202_0 := (HB.out.cell (World.block_lt_of_cell? w _ hx202_0)).trans hx202_0
            replace hx202_1 := (HB.out.cell (World.block_lt_of_cell? w _ hx202_1)).trans hx202_1
            replace p202 := eq_true p202
            replace q202 := eq_true q202
            go_wp2
            repeat (go_quiet (fail); try go_wp2)
            go_meet
            case rel => exact ⟨_, (false), (by first | rfl | (simp; done) | (simp [*]; done)), H', ⟨by have := HK1.out; have := HJ5.out; first | omega | exact Nat.le_refl _⟩, ⟨by (with_reducible repeat (first | apply Kd.R_alloc | apply Kd.R_drewN | apply Kd.R_drew)); exact HO_5.out⟩, ⟨by repeat first | with_reducible exact HB.out | apply below_alloc | apply pw_below_drewN | apply below_drew1⟩⟩
          ·rw [if_neg c18] at H
           have c18b0 : (((rd_T42 l1 x6_1).f0) == 2 && (((rd_T42 l1 x6_1).f1) == 0)) = false := by simpa using c18
           (try (have c18b1 : decide (((rd_T42 l1 x6_1).f0) = 2 && (((rd_T42 l1 x6_1).f1) == 0)) = false := by simpa using c18))
           (try (have c18b2 : (((rd_T42 l1 x6_1).f0) == 2 && (((rd_T42 l1 x6_1).f1) == 0)) = false := by simpa using c18))
           (try (have c18b3 : ¬ (((rd_T42 l1 x6_1).f0) = 2 && (((rd_T42 l1 x6_1).f1) == 0)) := by simpa using c18))
           clear c18
           have H' := Aside0.mk H
           clear H
           have p202 : 0 ≤ (x6_1 : Int) := of_decide_eq_true (by assumption)
           have q202 : x6_1 < (l1.length : Int) := of_decide_eq_true (by assumption)
           obtain ⟨ad202, e202, hx202_0, hx202_1⟩ := at_T42 HR1.out x6_1 p202 q202
           cases e202
           replace hx202_0 := (HB.out.cell (World.block_lt_of_cell? w _ hx202_0)).trans hx202_0
           replace hx202_1 := (HB.out.cell (World.block_lt_of_cell? w _ hx202_1)).trans hx202_1
           replace p202 := eq_true p202
           replace q202 := eq_true q202
           go_wp2
           repeat (go_quiet (fail); try go_wp2)
           go_meet
           case rel => exact ⟨_, (false), (by first | rfl | (simp; done) | (simp [*]; done)), H', ⟨by have := HK1.out; have := HJ5.out; first | omega | exact Nat.le_refl _⟩, ⟨by (with_reducible repeat (first | apply Kd.R_alloc | apply Kd.R_drewN | apply Kd.R_drew)); exact HO_5.out⟩, ⟨by repeat first | with_reducible exact HB.out | apply below_alloc | apply pw_below_drewN | apply below_drew1⟩⟩
         ·rw [if_neg c17] at H
          exact absurd H (by simp)
        ·rw [if_neg c16] at H
         exact absurd H (by simp)
       case rest =>
        clear HC15
        try clear c1
        try clear p1
        try clear q1
        try clear hx1
        try clear c2
        try clear p2
        try clear q2
        try clear hx2
        try clear c4
        try clear c5
        try clear c5b0
        try clear p6
        try clear c8
        try clear c8b0
        try clear c9
        try clear c9b0
        try clear c9b1
        try clear c10
        try clear c10b0
        try clear c11
        try clear c11b0
        try clear c12
        try clear c13
        try clear c16
        try clear c16b0
        try clear c17
        try clear c17b0
        try clear c18
        try clear c18b0
        try clear c18b1
        try clear c18b2
        try clear c19
        try clear c19b0
        try clear p19
        try clear q19
        try clear hx19
        try clear p20
        try clear q20
        try clear hx20
        try clear c21
        try clear c21b0
        try clear c22
        try clear c22b0
        try clear c24
        try clear c24b0
        try clear c25
        try clear c25b0
        try clear hx193_0
        try clear hx193_1
        try clear hx194_0
        try clear hx194_1
        try clear hx195_0
        try clear hx195_1
        try clear hx196_0
        try clear hx196_1
        try clear hx197_0
        try clear hx197_1
        try clear hx198_0
        try clear hx198_1
        try clear hx202_0
        try clear hx202_1
        try clear hx203_0
        try clear hx204_0
        try clear p1
        try clear p193
        try clear p194
        try clear p195
        try clear p196
        try clear p197
        try clear p198
        try clear p2
        try clear p202
        try clear p203
        try clear p204
        try clear p6
        try clear q1
        try clear q193
        try clear q194
        try clear q195
        try clear q196
        try clear q197
        try clear q198
        try clear q202
        try clear q203
        try clear q204
        obtain ⟨kq, x54_14, rfl, HA, HJ14, HO_5, HB⟩ := hcut
        cases kq with
        | zero => exact absurd HA.out (by simp [spec_TermOk.j2])
        | succ kj14 =>
         have H := HA.out
         clear HA
         simp only [spec_TermOk.j2] at H
         by_cases c26 : x54_14 = true
         ·subst c26
          have H1 : (if 0 ≤ (wrap64 ((wrap64 ((x5_1.length : Int) - 1)) - 1)) then (if (wrap64 ((wrap64 ((x5_1.length : Int) - 1)) - 1)) < (x5_1.length : Int) then (if 0 ≤ (wrap64 ((x5_1.length : Int) - 1)) then (if (wrap64 ((x5_1.length : Int) - 1)) < (x5_1.length : Int) then ((some (([] : List Int) : List Int)).bind fun y207 => (if (wrap64 ((wrap64 ((x5_1.length : Int) - 1)) - 1)) ≤ (x5_1.length : Int) then ((some (x5_1.take ((wrap64 ((wrap64 ((x5_1.length : Int) - 1)) - 1)) : Int).toNat : List Int)).bind fun y210 => (if y207.length + y210.length < 17592186044416 then ((some (y207 ++ y210 : List Int)).bind fun y214 => (if y214.length < 17592186044416 then (spec_TermOk.l0 kj14 a0 l1 (y214 ++ [wrap64 ((rd x5_1 (wrap64 ((wrap64 ((x5_1.length : Int) - 1)) - 1))) + (rd x5_1 (wrap64 ((x5_1.length : Int) - 1))))]) (wrap64 (x6_1 + 1))) else (none))) else (none))) else (none))) else (none)) else (none)) else (none)) else (none)) = some r := by rw [if_pos rfl] at H; exact H
          clear H
          have H := H1
          clear H1
          obtain ⟨ji27, hji27⟩ : ∃ j_ : Int, (wrap64 ((wrap64 ((x5_1.length : Int) - 1)) - 1)) = j_ := ⟨_, rfl⟩
          replace H : (if 0 ≤ (ji27) then (if (ji27) < (x5_1.length : Int) then (if 0 ≤ (wrap64 ((x5_1.length : Int) - 1)) then (if (wrap64 ((x5_1.length : Int) - 1)) < (x5_1.length : Int) then ((some (([] : List Int) : List Int)).bind fun y207 => (if (ji27) ≤ (x5_1.length : Int) then ((some (x5_1.take ((ji27) : Int).toNat : List Int)).bind fun y210 => (if y207.length + y210.length < 17592186044416 then ((some (y207 ++ y210 : List Int)).bind fun y214 => (if y214.length < 17592186044416 then (spec_TermOk.l0 kj14 a0 l1 (y214 ++ [wrap64 ((rd x5_1 (ji27)) + (rd x5_1 (wrap64 ((x5_1.length : Int) - 1))))]) (wrap64 (x6_1 + 1))) else (none))) else (none))) else (none))) else (none)) else (none)) else (none)) else (none)) = some r := by first | (rw [hji27] at H; exact H) | (simp only [hji27] at H ⊢; exact H)
          have hji27w : (IntKind.i64.wrap ((wrap64 ((x5_1.length : Int) - 1)) - 1)) = ji27 := (i64_w _).trans hji27
          by_cases c28 : 0 ≤ (ji27)
          ·rw [if_pos c28] at H
           have c28b0 : decide (0 ≤ (ji27)) = true := decide_eq_true c28
           clear c28
           by_cases c29 : (ji27) < (x5_1.length : Int)
           ·rw [if_pos c29] at H
            have c29b0 : decide ((ji27) < (x5_1.length : Int)) = true := decide_eq_true c29
            clear c29
            obtain ⟨ji30, hji30⟩ : ∃ j_ : Int, (wrap64 ((x5_1.length : Int) - 1)) = j_ := ⟨_, rfl⟩
            have hji27_ji30 : (wrap64 (ji30 - 1)) = ji27 := by rw [← hji30]; exact hji27
            have hji27_ji30w : (IntKind.i64.wrap (ji30 - 1)) = ji27 := (i64_w _).trans hji27_ji30
            replace H : (if 0 ≤ (ji30) then (if (ji30) < (x5_1.length : Int) then ((some (([] : List Int) : List Int)).bind fun y207 => (if (ji27) ≤ (x5_1.length : Int) then ((some (x5_1.take ((ji27) : Int).toNat : List Int)).bind fun y210 => (if y207.length + y210.length < 17592186044416 then ((some (y207 ++ y210 : List Int)).bind fun y214 => (if y214.length < 17592186044416 then (spec_TermOk.l0 kj14 a0 l1 (y214 ++ [wrap64 ((rd x5_1 (ji27)) + (rd x5_1 (ji30)))]) (wrap64 (x6_1 + 1))) else (none))) else (none))) else (none))) else (none)) else (none)) = some r := by first | (rw [hji30] at H; exact H) | (simp only [hji30] at H ⊢; exact H)
            have hji30w : (IntKind.i64.wrap ((x5_1.length : Int) - 1)) = ji30 := (i64_w _).trans hji30
            by_cases c31 : 0 ≤ (ji30)
            ·rw [if_pos c31] at H
             have c31b0 : decide (0 ≤ (ji30)) = true := decide_eq_true c31
             clear c31
             by_cases c32 : (ji30) < (x5_1.length : Int)
             ·rw [if_pos c32] at H
              have c32b0 : decide ((ji30) < (x5_1.length : Int)) = true := decide_eq_true c32
              clear c32
              obtain ⟨y207, hy207⟩ : ∃ y_ : List Int, y_ = (([] : List Int)) := ⟨_, rfl⟩
              replace H : (if (ji27) ≤ (x5_1.length : Int) then ((some (x5_1.take ((ji27) : Int).toNat : List Int)).bind fun y210 => (if y207.length + y210.length < 17592186044416 then ((some (y207 ++ y210 : List Int)).bind fun y214 => (if y214.length < 17592186044416 then (spec_TermOk.l0 kj14 a0 l1 (y214 ++ [wrap64 ((rd x5_1 (ji27)) + (rd x5_1 (ji30)))]) (wrap64 (x6_1 + 1))) else (none))) else (none))) else (none)) = some r := by first | (rw [hy207]; with_reducible exact H) | (have H2_ := (Option.bind_some _ _).symm.trans H; rw [hy207]; with_reducible exact H2_) | (have H2_ := (Option.bind_some _ _).symm.trans H; with_reducible exact H2_) | with_reducible exact H | (rw [hy207]; exact H) | exact H
              have Ny207 := Aside0.mk hy207
              clear hy207
              have c33b0 := eq_true (of_decide_eq_true (by assumption) : 0 ≤ (ji27))
              by_cases c34 : (ji27) ≤ (x5_1.length : Int)
              ·rw [if_pos c34] at H
               have c34b0 := eq_true c34
               have c34b1 : decide ((ji27) ≤ (x5_1.length : Int)) = true := decide_eq_true c34
               clear c34
               obtain ⟨y210, hy210⟩ : ∃ y_ : List Int, y_ = (x5_1.take ((ji27) : Int).toNat) := ⟨_, rfl⟩
               replace H : (if y207.length + y210.length < 17592186044416 then ((some (y207 ++ y210 : List Int)).bind fun y214 => (if y214.length < 17592186044416 then (spec_TermOk.l0 kj14 a0 l1 (y214 ++ [wrap64 ((rd x5_1 (ji27)) + (rd x5_1 (ji30)))]) (wrap64 (x6_1 + 1))) else (none))) else (none)) = some r := by first | (rw [hy210]; with_reducible exact H) | (have H2_ := (Option.bind_some _ _).symm.trans H; rw [hy210]; with_reducible exact H2_) | (have H2_ := (Option.bind_some _ _).symm.trans H; with_reducible exact H2_) | with_reducible exact H | (rw [hy210]; exact H) | exact H
               have Ny210 := Aside0.mk hy210
               clear hy210
               by_cases c35 : y207.length + y210.length < 17592186044416
               ·rw [if_pos c35] at H
                have LMc35 := Aside0.mk c35
                clear c35
                obtain ⟨y214, hy214⟩ : ∃ y_ : List Int, y_ = (y207 ++ y210) := ⟨_, rfl⟩
                replace H : (if y214.length < 17592186044416 then (spec_TermOk.l0 kj14 a0 l1 (y214 ++ [wrap64 ((rd x5_1 (ji27)) + (rd x5_1 (ji30)))]) (wrap64 (x6_1 + 1))) else (none)) = some r := by first | (rw [hy214]; with_reducible exact H) | (have H2_ := (Option.bind_some _ _).symm.trans H; rw [hy214]; with_reducible exact H2_) | (have H2_ := (Option.bind_some _ _).symm.trans H; with_reducible exact H2_) | with_reducible exact H | (rw [hy214]; exact H) | exact H
                have Ny214 := Aside0.mk hy214
                clear hy214
                by_cases c36 : y214.length < 17592186044416
                ·rw [if_pos c36] at H
                 have LMc36 := Aside0.mk c36
                 clear c36
                 obtain ⟨y217, hy217⟩ : ∃ y_ : List Int, y_ = (y214 ++ [wrap64 ((rd x5_1 (ji27)) + (rd x5_1 (ji30)))]) := ⟨_, rfl⟩
                 replace H : (spec_TermOk.l0 kj14 a0 l1 y217 (wrap64 (x6_1 + 1))) = some r := by first | (rw [hy217]; with_reducible exact H) | (have H2_ := (Option.bind_some _ _).symm.trans H; rw [hy217]; with_reducible exact H2_) | (have H2_ := (Option.bind_some _ _).symm.trans H; with_reducible exact H2_) | with_reducible exact H | (rw [hy217]; exact H) | exact H
                 have Ny217 := Aside0.mk hy217
                 clear hy217
                 have H' := Aside0.mk H
                 clear H
                 have p205 : 0 ≤ ((ji27) : Int) := of_decide_eq_true (by assumption)
                 have q205 : (ji27) < (x5_1.length : Int) := of_decide_eq_true (by assumption)
                 obtain ⟨ad205, e205, hx205_0⟩ := Kd.at_int (Kd.R_reads' HO_5.out).2.2 (ji27) p205 q205
                 cases e205
                 replace p205 := eq_true p205
                 replace q205 := eq_true q205
                 have p206 : 0 ≤ ((ji30) : Int) := of_decide_eq_true (by assumption)
                 have q206 : (ji30) < (x5_1.length : Int) := of_decide_eq_true (by assumption)
                 obtain ⟨ad206, e206, hx206_0⟩ := Kd.at_int (Kd.R_reads' HO_5.out).2.2 (ji30) p206 q206
                 obtain rfl : ad205 = ad206 := (by injection e206)
                 replace p206 := eq_true p206
                 replace q206 := eq_true q206
                 go_wp2_with (first | ((with_reducible refine gate_dst (N := 88) rfl ?_); (try (refine gate_guard (by rfl) ?_; dsimp only)); refine Kd.R_lit (Kd.int .i64) _ 3 ?hg (N := 88) ?hd (xs := ([] : List Int)) (inner := []) (ok := fun _ => True) (okp := fun _ => True) ?hr ?hp (fun _ hk => hk) trivial (Below.refl _ _) (Nat.le_refl _) (by simp) ?_; (case hd => rfl); (case hg => rfl); (case hr => first | (go_simp; done) | (go_simp; rfl)); (case hp => exact (Reps.none _ _)); intro v208 w37 ho38 hb hg_ hnew_; clear hg_ hnew_; (first | rw [← Ny207.out] at ho38 | (simp only [Int.reduceToNat] at ho38; rw [← Ny207.out] at ho38)); have n0_ := Aside0.mk (Kd.R_elder' (by (with_reducible repeat (first | apply Kd.R_alloc | apply Kd.R_drewN | apply Kd.R_drew)); exact HO_5.out) (Kd.R_base ho38) hb); have n1_ := Aside0.mk (Kd.R_lower (Kd.R_new' ho38 (Kd.R_lt (by (with_reducible repeat (first | apply Kd.R_alloc | apply Kd.R_drewN | apply Kd.R_drew)); exact HO_5.out))) (below_size (by repeat first | with_reducible exact HB.out | apply below_alloc | apply pw_below_drewN | apply below_drew1))); have n2_ := Aside0.mk (below_step (by repeat first | with_reducible exact HB.out | apply below_alloc | apply pw_below_drewN | apply below_drew1) hb); clear HO_5; clear HB; have HO_5 := n0_; have HO209 := n1_; have HB := n2_; clear n0_ n1_ n2_; clear hb ho38; have q39 : ((ji27) : Int) ≤ ((x5_1.length : Int) : Int) := of_decide_eq_true (by first | (with_reducible assumption) | assumption); obtain ⟨i039, hi039, _, hsz39, _⟩ := info_parts info3; have hroom39 : x5_1.length ≤ co7 := (Kd.R_reads' HO_5.out).2.1; have hC39 : Kd.C (Kd.int .i64) _ (some ad205) x5_1.length x5_1 := (Kd.R_reads' HO_5.out).2.2; have hcut39 := cut_to (P := Try.prog) 22 3 .i64 Try.underlying22 hi039 (some ad205) x5_1.length co7 (ji27) (of_decide_eq_true (by first | (with_reducible assumption) | assumption)) q39 hroom39; have hr39 := Kd.C_take (m := ((ji27) : Int).toNat) hC39 (by omega); have hy39 : y210.length = ((ji27) : Int).toNat := (by rw [Ny210.out, List.length_take]; omega); rw [← Ny210.out] at hr39; rw [← hy39] at hcut39; have HR213 := Aside0.mk hr39; have HC213 := Aside0.mk (show y210.length ≤ co7 from by omega); clear hr39 hC39 hroom39 hi039 hsz39; have KY39 := Aside0.mk hy39; clear hy39; have KL39 := Aside0.mk (show ((ji27) : Int).toNat ≤ x5_1.length from by omega); replace q39 := eq_true q39) | ((with_reducible refine gate_builtin (b := .append) (xs := #[.tmp 88, .tmp 92]) rfl ?_); (try (refine gate_guard (by rfl) ?_; dsimp only)); at_builtin; refine Kd.R_append_rows (Kd.int .i64) (w0 := w) w.heap.size rfl (.tmp 88) (.tmp 92) 22 3 (.int .i64 0) 8 rfl Try.underlying22 info3 rfl (by decide) (by omega) v208 y207 y210 _ _ _ (fun k_ => some k_ ≠ (.slice (some ad205) x5_1.length co7 : Value).ownBlock) (fun _ => False) rfl rfl ?aO ?aR (fun _ _ h => h) (fun _ h => h.elim) ?aF ?aB ?aS ?aL ?_; (case aR => repeat (first | exact (by repeat (first | (with_reducible exact HR213.out) | (with_reducible refine Kd.C_alloc ?_ _) | (with_reducible refine Kd.C_drewN ?_ _) | (with_reducible refine Kd.C_drew ?_) | exact HR213.out)) | (with_reducible refine Kd.C_alloc ?_ _) | (with_reducible refine Kd.C_drewN ?_ _) | (with_reducible refine Kd.C_drew ?_))); (case aB => exact (by repeat first | with_reducible exact HB.out | apply below_alloc | apply pw_below_drewN | apply below_drew1)); (case aF => exact (fun k_ hk => Kd.fresh' (Kd.R_lt (by (with_reducible repeat (first | apply Kd.R_alloc | apply Kd.R_drewN | apply Kd.R_drew)); exact HO_5.out)) k_ hk)); (case aO => exact (by (with_reducible repeat (first | apply Kd.R_alloc | apply Kd.R_drewN | apply Kd.R_drew)); exact Kd.R_mono HO209.out (fun _ hk => hk.2))); (case aS => exact (below_size (by repeat first | with_reducible exact HB.out | apply below_alloc | apply pw_below_drewN | apply below_drew1))); (case aL => have := LMc35.out; omega); intro v215 w40 ho hb hg hat; rw [← Ny214.out] at ho; have n0_ := Aside0.mk (Kd.R_after (ok := (fun _ => True)) (by (with_reducible repeat (first | apply Kd.R_alloc | apply Kd.R_drewN | apply Kd.R_drew)); exact HO_5.out) hg hat); have n1_ := Aside0.mk (hb); have n2_ := Aside0.mk ((show Kd.C (Kd.int .i64) w40 (some ad205) y210.length y210 from by rw [Ny210.out]; exact Kd.C_take (m := ((ji27) : Int).toNat) ((Kd.R_reads' (Kd.R_after (ok := (fun _ => True)) (by (with_reducible repeat (first | apply Kd.R_alloc | apply Kd.R_drewN | apply Kd.R_drew)); exact HO_5.out) hg hat)).2.2) KL39.out)); have n3_ := Aside0.mk (ho); clear HO_5; clear HB; clear HR213; clear HO209; have HO_5 := n0_; have HB := n1_; have HR213 := n2_; have HO216 := n3_; clear n0_ n1_ n2_ n3_; clear ho hb hg hat) | ((with_reducible refine gate_builtin (b := .append) (xs := #[.tmp 93, .tmp 95]) rfl ?_); (try (refine gate_guard (by rfl) ?_; dsimp only)); at_builtin; refine Kd.R_append (Kd.int .i64) (w0 := w) w.heap.size rfl (.tmp 93) (.tmp 95) 22 3 (.int .i64 0) 8 rfl Try.underlying22 info3 rfl (by decide) (by omega) v215 y214 (wrap64 ((rd x5_1 (ji27)) + (rd x5_1 (ji30)))) [.int .i64 (wrap64 ((rd x5_1 (ji27)) + (rd x5_1 (ji30))))] (fun k_ => some k_ ≠ (.slice (some ad205) x5_1.length co7 : Value).ownBlock) (fun _ => False) rfl rfl ?aP (fun _ hk => hk.elim) ?aF ?aO ?aB ?aS ?aL ?_; (case aP => exact rfl); (case aB => exact (by repeat first | with_reducible exact HB.out | apply below_alloc | apply pw_below_drewN | apply below_drew1)); (case aF => exact (fun k_ hk => Kd.fresh' (Kd.R_lt (by (with_reducible repeat (first | apply Kd.R_alloc | apply Kd.R_drewN | apply Kd.R_drew)); exact HO_5.out)) k_ hk)); (case aO => exact (by (with_reducible repeat (first | apply Kd.R_alloc | apply Kd.R_drewN | apply Kd.R_drew)); exact HO216.out)); (case aS => exact (below_size (by repeat first | with_reducible exact HB.out | apply below_alloc | apply pw_below_drewN | apply below_drew1))); (case aL => have := LMc36.out; omega); intro v218 w41 ho hb hg hat; rw [← Ny217.out] at ho; have n0_ := Aside0.mk (Kd.R_after (ok := (fun _ => True)) (by (with_reducible repeat (first | apply Kd.R_alloc | apply Kd.R_drewN | apply Kd.R_drew)); exact HO_5.out) hg hat); have n1_ := Aside0.mk (hb); have n2_ := Aside0.mk ((show Kd.C (Kd.int .i64) w41 (some ad205) y210.length y210 from by rw [Ny210.out]; exact Kd.C_take (m := ((ji27) : Int).toNat) ((Kd.R_reads' (Kd.R_after (ok := (fun _ => True)) (by (with_reducible repeat (first | apply Kd.R_alloc | apply Kd.R_drewN | apply Kd.R_drew)); exact HO_5.out) hg hat)).2.2) KL39.out)); have n3_ := Aside0.mk (ho); clear HO_5; clear HB; clear HR213; clear HO216; have HO_5 := n0_; have HB := n1_; have HR213 := n2_; have HO219 := n3_; clear n0_ n1_ n2_ n3_; clear ho hb hg hat))
                 repeat (go_quiet (first | ((with_reducible refine gate_dst (N := 88) rfl ?_); (try (refine gate_guard (by rfl) ?_; dsimp only)); refine Kd.R_lit (Kd.int .i64) _ 3 ?hg (N := 88) ?hd (xs := ([] : List Int)) (inner := []) (ok := fun _ => True) (okp := fun _ => True) ?hr ?hp (fun _ hk => hk) trivial (Below.refl _ _) (Nat.le_refl _) (by simp) ?_; (case hd => rfl); (case hg => rfl); (case hr => first | (go_simp; done) | (go_simp; rfl)); (case hp => exact (Reps.none _ _)); intro v208 w37 ho38 hb hg_ hnew_; clear hg_ hnew_; (first | rw [← Ny207.out] at ho38 | (simp only [Int.reduceToNat] at ho38; rw [← Ny207.out] at ho38)); have n0_ := Aside0.mk (Kd.R_elder' (by (with_reducible repeat (first | apply Kd.R_alloc | apply Kd.R_drewN | apply Kd.R_drew)); exact HO_5.out) (Kd.R_base ho38) hb); have n1_ := Aside0.mk (Kd.R_lower (Kd.R_new' ho38 (Kd.R_lt (by (with_reducible repeat (first | apply Kd.R_alloc | apply Kd.R_drewN | apply Kd.R_drew)); exact HO_5.out))) (below_size (by repeat first | with_reducible exact HB.out | apply below_alloc | apply pw_below_drewN | apply below_drew1))); have n2_ := Aside0.mk (below_step (by repeat first | with_reducible exact HB.out | apply below_alloc | apply pw_below_drewN | apply below_drew1) hb); clear HO_5; clear HB; have HO_5 := n0_; have HO209 := n1_; have HB := n2_; clear n0_ n1_ n2_; clear hb ho38; have q39 : ((ji27) : Int) ≤ ((x5_1.length : Int) : Int) := of_decide_eq_true (by first | (with_reducible assumption) | assumption); obtain ⟨i039, hi039, _, hsz39, _⟩ := info_parts info3; have hroom39 : x5_1.length ≤ co7 := (Kd.R_reads' HO_5.out).2.1; have hC39 : Kd.C (Kd.int .i64) _ (some ad205) x5_1.length x5_1 := (Kd.R_reads' HO_5.out).2.2; have hcut39 := cut_to (P := Try.prog) 22 3 .i64 Try.underlying22 hi039 (some ad205) x5_1.length co7 (ji27) (of_decide_eq_true (by first | (with_reducible assumption) | assumption)) q39 hroom39; have hr39 := Kd.C_take (m := ((ji27) : Int).toNat) hC39 (by omega); have hy39 : y210.length = ((ji27) : Int).toNat := (by rw [Ny210.out, List.length_take]; omega); rw [← Ny210.out] at hr39; rw [← hy39] at hcut39; have HR213 := Aside0.mk hr39; have HC213 := Aside0.mk (show y210.length ≤ co7 from by omega); clear hr39 hC39 hroom39 hi039 hsz39; have KY39 := Aside0.mk hy39; clear hy39; have KL39 := Aside0.mk (show ((ji27) : Int).toNat ≤ x5_1.length from by omega); replace q39 := eq_true q39) | ((with_reducible refine gate_builtin (b := .append) (xs := #[.tmp 88, .tmp 92]) rfl ?_); (try (refine gate_guard (by rfl) ?_; dsimp only)); at_builtin; refine Kd.R_append_rows (Kd.int .i64) (w0 := w) w.heap.size rfl (.tmp 88) (.tmp 92) 22 3 (.int .i64 0) 8 rfl Try.underlying22 info3 rfl (by decide) (by omega) v208 y207 y210 _ _ _ (fun k_ => some k_ ≠ (.slice (some ad205) x5_1.length co7 : Value).ownBlock) (fun _ => False) rfl rfl ?aO ?aR (fun _ _ h => h) (fun _ h => h.elim) ?aF ?aB ?aS ?aL ?_; (case aR => repeat (first | exact (by repeat (first | (with_reducible exact HR213.out) | (with_reducible refine Kd.C_alloc ?_ _) | (with_reducible refine Kd.C_drewN ?_ _) | (with_reducible refine Kd.C_drew ?_) | exact HR213.out)) | (with_reducible refine Kd.C_alloc ?_ _) | (with_reducible refine Kd.C_drewN ?_ _) | (with_reducible refine Kd.C_drew ?_))); (case aB => exact (by repeat first | with_reducible exact HB.out | apply below_alloc | apply pw_below_drewN | apply below_drew1)); (case aF => exact (fun k_ hk => Kd.fresh' (Kd.R_lt (by (with_reducible repeat (first | apply Kd.R_alloc | apply Kd.R_drewN | apply Kd.R_drew)); exact HO_5.out)) k_ hk)); (case aO => exact (by (with_reducible repeat (first | apply Kd.R_alloc | apply Kd.R_drewN | apply Kd.R_drew)); exact Kd.R_mono HO209.out (fun _ hk => hk.2))); (case aS => exact (below_size (by repeat first | with_reducible exact HB.out | apply below_alloc | apply pw_below_drewN | apply below_drew1))); (case aL => have := LMc35.out; omega); intro v215 w40 ho hb hg hat; rw [← Ny214.out] at ho; have n0_ := Aside0.mk (Kd.R_after (ok := (fun _ => True)) (by (with_reducible repeat (first | apply Kd.R_alloc | apply Kd.R_drewN | apply Kd.R_drew)); exact HO_5.out) hg hat); have n1_ := Aside0.mk (hb); have n2_ := Aside0.mk ((show Kd.C (Kd.int .i64) w40 (some ad205) y210.length y210 from by rw [Ny210.out]; exact Kd.C_take (m := ((ji27) : Int).toNat) ((Kd.R_reads' (Kd.R_after (ok := (fun _ => True)) (by (with_reducible repeat (first | apply Kd.R_alloc | apply Kd.R_drewN | apply Kd.R_drew)); exact HO_5.out) hg hat)).2.2) KL39.out)); have n3_ := Aside0.mk (ho); clear HO_5; clear HB; clear HR213; clear HO209; have HO_5 := n0_; have HB := n1_; have HR213 := n2_; have HO216 := n3_; clear n0_ n1_ n2_ n3_; clear ho hb hg hat) | ((with_reducible refine gate_builtin (b := .append) (xs := #[.tmp 93, .tmp 95]) rfl ?_); (try (refine gate_guard (by rfl) ?_; dsimp only)); at_builtin; refine Kd.R_append (Kd.int .i64) (w0 := w) w.heap.size rfl (.tmp 93) (.tmp 95) 22 3 (.int .i64 0) 8 rfl Try.underlying22 info3 rfl (by decide) (by omega) v215 y214 (wrap64 ((rd x5_1 (ji27)) + (rd x5_1 (ji30)))) [.int .i64 (wrap64 ((rd x5_1 (ji27)) + (rd x5_1 (ji30))))] (fun k_ => some k_ ≠ (.slice (some ad205) x5_1.length co7 : Value).ownBlock) (fun _ => False) rfl rfl ?aP (fun _ hk => hk.elim) ?aF ?aO ?aB ?aS ?aL ?_; (case aP => exact rfl); (case aB => exact (by repeat first | with_reducible exact HB.out | apply below_alloc | apply pw_below_drewN | apply below_drew1)); (case aF => exact (fun k_ hk => Kd.fresh' (Kd.R_lt (by (with_reducible repeat (first | apply Kd.R_alloc | apply Kd.R_drewN | apply Kd.R_drew)); exact HO_5.out)) k_ hk)); (case aO => exact (by (with_reducible repeat (first | apply Kd.R_alloc | apply Kd.R_drewN | apply Kd.R_drew)); exact HO216.out)); (case aS => exact (below_size (by repeat first | with_reducible exact HB.out | apply below_alloc | apply pw_below_drewN | apply below_drew1))); (case aL => have := LMc36.out; omega); intro v218 w41 ho hb hg hat; rw [← Ny217.out] at ho; have n0_ := Aside0.mk (Kd.R_after (ok := (fun _ => True)) (by (with_reducible repeat (first | apply Kd.R_alloc | apply Kd.R_drewN | apply Kd.R_drew)); exact HO_5.out) hg hat); have n1_ := Aside0.mk (hb); have n2_ := Aside0.mk ((show Kd.C (Kd.int .i64) w41 (some ad205) y210.length y210 from by rw [Ny210.out]; exact Kd.C_take (m := ((ji27) : Int).toNat) ((Kd.R_reads' (Kd.R_after (ok := (fun _ => True)) (by (with_reducible repeat (first | apply Kd.R_alloc | apply Kd.R_drewN | apply Kd.R_drew)); exact HO_5.out) hg hat)).2.2) KL39.out)); have n3_ := Aside0.mk (ho); clear HO_5; clear HB; clear HR213; clear HO216; have HO_5 := n0_; have HB := n1_; have HR213 := n2_; have HO219 := n3_; clear n0_ n1_ n2_ n3_; clear ho hb hg hat)); try go_wp2_with (first | ((with_reducible refine gate_dst (N := 88) rfl ?_); (try (refine gate_guard (by rfl) ?_; dsimp only)); refine Kd.R_lit (Kd.int .i64) _ 3 ?hg (N := 88) ?hd (xs := ([] : List Int)) (inner := []) (ok := fun _ => True) (okp := fun _ => True) ?hr ?hp (fun _ hk => hk) trivial (Below.refl _ _) (Nat.le_refl _) (by simp) ?_; (case hd => rfl); (case hg => rfl); (case hr => first | (go_simp; done) | (go_simp; rfl)); (case hp => exact (Reps.none _ _)); intro v208 w37 ho38 hb hg_ hnew_; clear hg_ hnew_; (first | rw [← Ny207.out] at ho38 | (simp only [Int.reduceToNat] at ho38; rw [← Ny207.out] at ho38)); have n0_ := Aside0.mk (Kd.R_elder' (by (with_reducible repeat (first | apply Kd.R_alloc | apply Kd.R_drewN | apply Kd.R_drew)); exact HO_5.out) (Kd.R_base ho38) hb); have n1_ := Aside0.mk (Kd.R_lower (Kd.R_new' ho38 (Kd.R_lt (by (with_reducible repeat (first | apply Kd.R_alloc | apply Kd.R_drewN | apply Kd.R_drew)); exact HO_5.out))) (below_size (by repeat first | with_reducible exact HB.out | apply below_alloc | apply pw_below_drewN | apply below_drew1))); have n2_ := Aside0.mk (below_step (by repeat first | with_reducible exact HB.out | apply below_alloc | apply pw_below_drewN | apply below_drew1) hb); clear HO_5; clear HB; have HO_5 := n0_; have HO209 := n1_; have HB := n2_; clear n0_ n1_ n2_; clear hb ho38; have q39 : ((ji27) : Int) ≤ ((x5_1.length : Int) : Int) := of_decide_eq_true (by first | (with_reducible assumption) | assumption); obtain ⟨i039, hi039, _, hsz39, _⟩ := info_parts info3; have hroom39 : x5_1.length ≤ co7 := (Kd.R_reads' HO_5.out).2.1; have hC39 : Kd.C (Kd.int .i64) _ (some ad205) x5_1.length x5_1 := (Kd.R_reads' HO_5.out).2.2; have hcut39 := cut_to (P := Try.prog) 22 3 .i64 Try.underlying22 hi039 (some ad205) x5_1.length co7 (ji27) (of_decide_eq_true (by first | (with_reducible assumption) | assumption)) q39 hroom39; have hr39 := Kd.C_take (m := ((ji27) : Int).toNat) hC39 (by omega); have hy39 : y210.length = ((ji27) : Int).toNat := (by rw [Ny210.out, List.length_take]; omega); rw [← Ny210.out] at hr39; rw [← hy39] at hcut39; have HR213 := Aside0.mk hr39; have HC213 := Aside0.mk (show y210.length ≤ co7 from by omega); clear hr39 hC39 hroom39 hi039 hsz39; have KY39 := Aside0.mk hy39; clear hy39; have KL39 := Aside0.mk (show ((ji27) : Int).toNat ≤ x5_1.length from by omega); replace q39 := eq_true q39) | ((with_reducible refine gate_builtin (b := .append) (xs := #[.tmp 88, .tmp 92]) rfl ?_); (try (refine gate_guard (by rfl) ?_; dsimp only)); at_builtin; refine Kd.R_append_rows (Kd.int .i64) (w0 := w) w.heap.size rfl (.tmp 88) (.tmp 92) 22 3 (.int .i64 0) 8 rfl Try.underlying22 info3 rfl (by decide) (by omega) v208 y207 y210 _ _ _ (fun k_ => some k_ ≠ (.slice (some ad205) x5_1.length co7 : Value).ownBlock) (fun _ => False) rfl rfl ?aO ?aR (fun _ _ h => h) (fun _ h => h.elim) ?aF ?aB ?aS ?aL ?_; (case aR => repeat (first | exact (by repeat (first | (with_reducible exact HR213.out) | (with_reducible refine Kd.C_alloc ?_ _) | (with_reducible refine Kd.C_drewN ?_ _) | (with_reducible refine Kd.C_drew ?_) | exact HR213.out)) | (with_reducible refine Kd.C_alloc ?_ _) | (with_reducible refine Kd.C_drewN ?_ _) | (with_reducible refine Kd.C_drew ?_))); (case aB => exact (by repeat first | with_reducible exact HB.out | apply below_alloc | apply pw_below_drewN | apply below_drew1)); (case aF => exact (fun k_ hk => Kd.fresh' (Kd.R_lt (by (with_reducible repeat (first | apply Kd.R_alloc | apply Kd.R_drewN | apply Kd.R_drew)); exact HO_5.out)) k_ hk)); (case aO => exact (by (with_reducible repeat (first | apply Kd.R_alloc | apply Kd.R_drewN | apply Kd.R_drew)); exact Kd.R_mono HO209.out (fun _ hk => hk.2))); (case aS => exact (below_size (by repeat first | with_reducible exact HB.out | apply below_alloc | apply pw_below_drewN | apply below_drew1))); (case aL => have := LMc35.out; omega); intro v215 w40 ho hb hg hat; rw [← Ny214.out] at ho; have n0_ := Aside0.mk (Kd.R_after (ok := (fun _ => True)) (by (with_reducible repeat (first | apply Kd.R_alloc | apply Kd.R_drewN | apply Kd.R_drew)); exact HO_5.out) hg hat); have n1_ := Aside0.mk (hb); have n2_ := Aside0.mk ((show Kd.C (Kd.int .i64) w40 (some ad205) y210.length y210 from by rw [Ny210.out]; exact Kd.C_take (m := ((ji27) : Int).toNat) ((Kd.R_reads' (Kd.R_after (ok := (fun _ => True)) (by (with_reducible repeat (first | apply Kd.R_alloc | apply Kd.R_drewN | apply Kd.R_drew)); exact HO_5.out) hg hat)).2.2) KL39.out)); have n3_ := Aside0.mk (ho); clear HO_5; clear HB; clear HR213; clear HO209; have HO_5 := n0_; have HB := n1_; have HR213 := n2_; have HO216 := n3_; clear n0_ n1_ n2_ n3_; clear ho hb hg hat) | ((with_reducible refine gate_builtin (b := .append) (xs := #[.tmp 93, .tmp 95]) rfl ?_); (try (refine gate_guard (by rfl) ?_; dsimp only)); at_builtin; refine Kd.R_append (Kd.int .i64) (w0 := w) w.heap.size rfl (.tmp 93) (.tmp 95) 22 3 (.int .i64 0) 8 rfl Try.underlying22 info3 rfl (by decide) (by omega) v215 y214 (wrap64 ((rd x5_1 (ji27)) + (rd x5_1 (ji30)))) [.int .i64 (wrap64 ((rd x5_1 (ji27)) + (rd x5_1 (ji30))))] (fun k_ => some k_ ≠ (.slice (some ad205) x5_1.length co7 : Value).ownBlock) (fun _ => False) rfl rfl ?aP (fun _ hk => hk.elim) ?aF ?aO ?aB ?aS ?aL ?_; (case aP => exact rfl); (case aB => exact (by repeat first | with_reducible exact HB.out | apply below_alloc | apply pw_below_drewN | apply below_drew1)); (case aF => exact (fun k_ hk => Kd.fresh' (Kd.R_lt (by (with_reducible repeat (first | apply Kd.R_alloc | apply Kd.R_drewN | apply Kd.R_drew)); exact HO_5.out)) k_ hk)); (case aO => exact (by (with_reducible repeat (first | apply Kd.R_alloc | apply Kd.R_drewN | apply Kd.R_drew)); exact HO216.out)); (case aS => exact (below_size (by repeat first | with_reducible exact HB.out | apply below_alloc | apply pw_below_drewN | apply below_drew1))); (case aL => have := LMc36.out; omega); intro v218 w41 ho hb hg hat; rw [← Ny217.out] at ho; have n0_ := Aside0.mk (Kd.R_after (ok := (fun _ => True)) (by (with_reducible repeat (first | apply Kd.R_alloc | apply Kd.R_drewN | apply Kd.R_drew)); exact HO_5.out) hg hat); have n1_ := Aside0.mk (hb); have n2_ := Aside0.mk ((show Kd.C (Kd.int .i64) w41 (some ad205) y210.length y210 from by rw [Ny210.out]; exact Kd.C_take (m := ((ji27) : Int).toNat) ((Kd.R_reads' (Kd.R_after (ok := (fun _ => True)) (by (with_reducible repeat (first | apply Kd.R_alloc | apply Kd.R_drewN | apply Kd.R_drew)); exact HO_5.out) hg hat)).2.2) KL39.out)); have n3_ := Aside0.mk (ho); clear HO_5; clear HB; clear HR213; clear HO216; have HO_5 := n0_; have HB := n1_; have HR213 := n2_; have HO219 := n3_; clear n0_ n1_ n2_ n3_; clear ho hb hg hat)))
                 go_roundg kj14
                 case measure => have := HK1.out; have := HJ5.out; have := HJ14.out; omega
                 case rel => exact ⟨(y217), (wrap64 (x6_1 + 1)), (by first | rfl | (simp; done) | (simp [*]; done)), H', ⟨by have := HK1.out; have := HJ5.out; have := HJ14.out; omega⟩, ⟨by (with_reducible repeat (first | apply Kd.R_alloc | apply Kd.R_drewN | apply Kd.R_drew)); exact Kd.R_mono HO219.out (fun _ hk => trivial)⟩, ⟨by repeat first | with_reducible exact HB.out | apply below_alloc | apply pw_below_drewN | apply below_drew1⟩⟩
                ·rw [if_neg c36] at H
                 exact absurd H (by simp)
               ·rw [if_neg c35] at H
                exact absurd H (by simp)
              ·rw [if_neg c34] at H
               exact absurd H (by simp)
             ·rw [if_neg c32] at H
              exact absurd H (by simp)
            ·rw [if_neg c31] at H
             exact absurd H (by simp)
           ·rw [if_neg c29] at H
            exact absurd H (by simp)
          ·rw [if_neg c28] at H
           exact absurd H (by simp)
         ·replace c26 := Bool.eq_false_iff.mpr c26
          subst c26
          have H1 : (if 0 ≤ x6_1 then (if x6_1 < (l1.length : Int) then (if (((rd_T42 l1 x6_1).f0) == 3 && (((rd_T42 l1 x6_1).f1) == 0)) = true then (if (wrap64 ((x5_1.length : Int) - 1)) ≥ 1 then (if 0 ≤ (wrap64 ((wrap64 ((x5_1.length : Int) - 1)) - 1)) then (if (wrap64 ((wrap64 ((x5_1.length : Int) - 1)) - 1)) < (x5_1.length : Int) then (if 0 ≤ (wrap64 ((x5_1.length : Int) - 1)) then (if (wrap64 ((x5_1.length : Int) - 1)) < (x5_1.length : Int) then (if (rd x5_1 (wrap64 ((wrap64 ((x5_1.length : Int) - 1)) - 1))) = (rd x5_1 (wrap64 ((x5_1.length : Int) - 1))) then (if (wrap64 ((x5_1.length : Int) - 1)) ≤ (x5_1.length : Int) then (spec_TermOk.l0 kj14 a0 l1 (x5_1.take ((wrap64 ((x5_1.length : Int) - 1)) : Int).toNat) (wrap64 (x6_1 + 1))) else (none)) else (some false)) else (none)) else (none)) else (none)) else (none)) else (some false)) else (some false)) else (none)) else (none)) = some r := by rw [if_neg (show ¬ (false = true) by decide)] at H; exact H
          clear H
          have H := H1
          clear H1
          by_cases c42 : 0 ≤ x6_1
          ·rw [if_pos c42] at H
           have c42b0 : decide (0 ≤ x6_1) = true := decide_eq_true c42
           clear c42
           by_cases c43 : x6_1 < (l1.length : Int)
           ·rw [if_pos c43] at H
            have c43b0 : decide (x6_1 < (l1.length : Int)) = true := decide_eq_true c43
            clear c43
            by_cases c44 : (((rd_T42 l1 x6_1).f0) == 3 && (((rd_T42 l1 x6_1).f1) == 0)) = true
            ·rw [if_pos c44] at H
             have c44b0 : (((rd_T42 l1 x6_1).f0) == 3 && (((rd_T42 l1 x6_1).f1) == 0)) = true := c44
             (try (have c44b1 : decide (((rd_T42 l1 x6_1).f0) = 3 && (((rd_T42 l1 x6_1).f1) == 0)) = true := by simpa using c44))
             (try (have c44b2 : (((rd_T42 l1 x6_1).f0) == 3 && (((rd_T42 l1 x6_1).f1) == 0)) = true := by simpa using c44))
             clear c44
             by_cases c45 : (wrap64 ((x5_1.length : Int) - 1)) ≥ 1
             ·rw [if_pos c45] at H
              have c45b0 : decide (1 ≤ (wrap64 ((x5_1.length : Int) - 1))) = true := decide_eq_true c45
              clear c45
              obtain ⟨ji46, hji46⟩ : ∃ j_ : Int, (wrap64 ((wrap64 ((x5_1.length : Int) - 1)) - 1)) = j_ := ⟨_, rfl⟩
              replace H : (if 0 ≤ (ji46) then (if (ji46) < (x5_1.length : Int) then (if 0 ≤ (wrap64 ((x5_1.length : Int) - 1)) then (if (wrap64 ((x5_1.length : Int) - 1)) < (x5_1.length : Int) then (if (rd x5_1 (ji46)) = (rd x5_1 (wrap64 ((x5_1.length : Int) - 1))) then (if (wrap64 ((x5_1.length : Int) - 1)) ≤ (x5_1.length : Int) then (spec_TermOk.l0 kj14 a0 l1 (x5_1.take ((wrap64 ((x5_1.length : Int) - 1)) : Int).toNat) (wrap64 (x6_1 + 1))) else (none)) else (some false)) else (none)) else (none)) else (none)) else (none)) = some r := by first | (rw [hji46] at H; exact H) | (simp only [hji46] at H ⊢; exact H)
              have hji46w : (IntKind.i64.wrap ((wrap64 ((x5_1.length : Int) - 1)) - 1)) = ji46 := (i64_w _).trans hji46
              by_cases c47 : 0 ≤ (ji46)
              ·rw [if_pos c47] at H
               have c47b0 : decide (0 ≤ (ji46)) = true := decide_eq_true c47
               clear c47
               by_cases c48 : (ji46) < (x5_1.length : Int)
               ·rw [if_pos c48] at H
                have c48b0 : decide ((ji46) < (x5_1.length : Int)) = true := decide_eq_true c48
                clear c48
                obtain ⟨ji49, hji49⟩ : ∃ j_ : Int, (wrap64 ((x5_1.length : Int) - 1)) = j_ := ⟨_, rfl⟩
                have hji46_ji49 : (wrap64 (ji49 - 1)) = ji46 := by rw [← hji49]; exact hji46
                have hji46_ji49w : (IntKind.i64.wrap (ji49 - 1)) = ji46 := (i64_w _).trans hji46_ji49
                replace H : (if 0 ≤ (ji49) then (if (ji49) < (x5_1.length : Int) then (if (rd x5_1 (ji46)) = (rd x5_1 (ji49)) then (if (ji49) ≤ (x5_1.length : Int) then (spec_TermOk.l0 kj14 a0 l1 (x5_1.take ((ji49) : Int).toNat) (wrap64 (x6_1 + 1))) else (none)) else (some false)) else (none)) else (none)) = some r := by first | (rw [hji49] at H; exact H) | (simp only [hji49] at H ⊢; exact H)
                (try rw [hji49] at c45b0)
                have hji49w : (IntKind.i64.wrap ((x5_1.length : Int) - 1)) = ji49 := (i64_w _).trans hji49
                by_cases c50 : 0 ≤ (ji49)
                ·rw [if_pos c50] at H
                 have c50b0 : decide (0 ≤ (ji49)) = true := decide_eq_true c50
                 clear c50
                 by_cases c51 : (ji49) < (x5_1.length : Int)
                 ·rw [if_pos c51] at H
                  have c51b0 : decide ((ji49) < (x5_1.length : Int)) = true := decide_eq_true c51
                  clear c51
                  by_cases c52 : (rd x5_1 (ji46)) = (rd x5_1 (ji49))
                  ·rw [if_pos c52] at H
                   have c52b0 : ((rd x5_1 (ji46)) == (rd x5_1 (ji49))) = true := beq_iff_eq.mpr c52
                   have c52b1 : ((rd x5_1 (ji46)) != (rd x5_1 (ji49))) = false := bne_eq_false_iff_eq.mpr c52
                   clear c52
                   by_cases c53 : (ji49) ≤ (x5_1.length : Int)
                   ·rw [if_pos c53] at H
                    have c53b0 := eq_true c53
                    have c53b1 : decide ((ji49) ≤ (x5_1.length : Int)) = true := decide_eq_true c53
                    clear c53
                    obtain ⟨y223, hy223⟩ : ∃ y_ : List Int, y_ = (x5_1.take ((ji49) : Int).toNat) := ⟨_, rfl⟩
                    replace H : (spec_TermOk.l0 kj14 a0 l1 y223 (wrap64 (x6_1 + 1))) = some r := by first | (rw [hy223]; with_reducible exact H) | (have H2_ := (Option.bind_some _ _).symm.trans H; rw [hy223]; with_reducible exact H2_) | (have H2_ := (Option.bind_some _ _).symm.trans H; with_reducible exact H2_) | with_reducible exact H | (rw [hy223]; exact H) | exact H
                    have Ny223 := Aside0.mk hy223
                    clear hy223
                    have H' := Aside0.mk H
                    clear H
                    have p220 : 0 ≤ (x6_1 : Int) := of_decide_eq_true (by assumption)
                    have q220 : x6_1 < (l1.length : Int) := of_decide_eq_true (by assumption)
                    obtain ⟨ad220, e220, hx220_0, hx220_1⟩ := at_T42 HR1.out x6_1 p220 q220
                    cases e220
                    replace hx220_0 := (HB.out.cell (World.block_lt_of_cell? w _ hx220_0)).trans hx220_0
                    replace hx220_1 := (HB.out.cell (World.block_lt_of_cell? w _ hx220_1)).trans hx220_1
                    replace p220 := eq_true p220
                    replace q220 := eq_true q220
                    have p221 : 0 ≤ ((ji46) : Int) := of_decide_eq_true (by assumption)
                    have q221 : (ji46) < (x5_1.length : Int) := of_decide_eq_true (by assumption)
                    obtain ⟨ad221, e221, hx221_0⟩ := Kd.at_int (Kd.R_reads' HO_5.out).2.2 (ji46) p221 q221
                    cases e221
                    replace p221 := eq_true p221
                    replace q221 := eq_true q221
                    have p222 : 0 ≤ ((ji49) : Int) := of_decide_eq_true (by assumption)
                    have q222 : (ji49) < (x5_1.length : Int) := of_decide_eq_true (by assumption)
                    obtain ⟨ad222, e222, hx222_0⟩ := Kd.at_int (Kd.R_reads' HO_5.out).2.2 (ji49) p222 q222
                    obtain rfl : ad221 = ad222 := (by injection e222)
                    replace p222 := eq_true p222
                    replace q222 := eq_true q222
                    have q54 : ((ji49) : Int) ≤ ((x5_1.length : Int) : Int) := of_decide_eq_true (by assumption)
                    obtain ⟨i054, hi054, _, hsz54, _⟩ := info_parts info3
                    have hcut54 := cut_to (P := Try.prog) 22 3 .i64 Try.underlying22 hi054 (some ad221) x5_1.length co7 (ji49) (of_decide_eq_true (by assumption)) q54 (Kd.R_reads' HO_5.out).2.1
                    have hr54 := Kd.R_take (m := ((ji49) : Int).toNat) HO_5.out (by omega)
                    have hy54 : y223.length = ((ji49) : Int).toNat := (by rw [Ny223.out, List.length_take]; omega)
                    rw [← Ny223.out] at hr54
                    rw [← hy54] at hr54 hcut54
                    clear hy54 hi054 hsz54 HO_5
                    have HO225 := Aside0.mk hr54
                    clear hr54
                    replace q54 := eq_true q54
                    go_wp2
                    repeat (go_quiet (fail); try go_wp2)
                    go_roundg kj14
                    case measure => have := HK1.out; have := HJ5.out; have := HJ14.out; omega
                    case rel => exact ⟨(y223), (wrap64 (x6_1 + 1)), (by first | rfl | (simp; done) | (simp [*]; done)), H', ⟨by have := HK1.out; have := HJ5.out; have := HJ14.out; omega⟩, ⟨by (with_reducible repeat (first | apply Kd.R_alloc | apply Kd.R_drewN | apply Kd.R_drew)); exact HO225.out⟩, ⟨by repeat first | with_reducible exact HB.out | apply below_alloc | apply pw_below_drewN | apply below_drew1⟩⟩
                   ·rw [if_neg c53] at H
                    exact absurd H (by simp)
                  ·rw [if_neg c52] at H
                   have c52b0 : ((rd x5_1 (ji46)) == (rd x5_1 (ji49))) = false := beq_eq_false_iff_ne.mpr c52
                   have c52b1 : ((rd x5_1 (ji46)) != (rd x5_1 (ji49))) = true := bne_iff_ne.mpr c52
                   obtain rfl := Option.some.inj H
                   have p220 : 0 ≤ (x6_1 : Int) := of_decide_eq_true (by assumption)
                   have q220 : x6_1 < (l1.length : Int) := of_decide_eq_true (by assumption)
                   obtain ⟨ad220, e220, hx220_0, hx220_1⟩ := at_T42 HR1.out x6_1 p220 q220
                   cases e220
                   replace hx220_0 := (HB.out.cell (World.block_lt_of_cell? w _ hx220_0)).trans hx220_0
                   replace hx220_1 := (HB.out.cell (World.block_lt_of_cell? w _ hx220_1)).trans hx220_1
                   replace p220 := eq_true p220
                   replace q220 := eq_true q220
                   have p221 : 0 ≤ ((ji46) : Int) := of_decide_eq_true (by assumption)
                   have q221 : (ji46) < (x5_1.length : Int) := of_decide_eq_true (by assumption)
                   obtain ⟨ad221, e221, hx221_0⟩ := Kd.at_int (Kd.R_reads' HO_5.out).2.2 (ji46) p221 q221
                   cases e221
                   replace p221 := eq_true p221
                   replace q221 := eq_true q221
                   have p222 : 0 ≤ ((ji49) : Int) := of_decide_eq_true (by assumption)
                   have q222 : (ji49) < (x5_1.length : Int) := of_decide_eq_true (by assumption)
                   obtain ⟨ad222, e222, hx222_0⟩ := Kd.at_int (Kd.R_reads' HO_5.out).2.2 (ji49) p222 q222
                   obtain rfl : ad221 = ad222 := (by injection e222)
                   replace p222 := eq_true p222
                   replace q222 := eq_true q222
                   go_wp2
                   repeat (go_quiet (fail); try go_wp2)
                   go_ret
                   exact ⟨by first | rfl | (simp [errW_none, errW_some] <;> rfl) | (simp only [← hji46, ← hji49]; first | rfl | (simp [errW_none, errW_some] <;> rfl)) | (simp [*, errW_none, errW_some] <;> rfl), by repeat first | with_reducible exact HB.out | apply below_alloc | apply pw_below_drewN | apply below_drew1⟩
                 ·rw [if_neg c51] at H
                  exact absurd H (by simp)
                ·rw [if_neg c50] at H
                 exact absurd H (by simp)
               ·rw [if_neg c48] at H
                exact absurd H (by simp)
              ·rw [if_neg c47] at H
               exact absurd H (by simp)
             ·rw [if_neg c45] at H
              have c45b0 : decide (1 ≤ (wrap64 ((x5_1.length : Int) - 1))) = false := decide_eq_false c45
              clear c45
              obtain rfl := Option.some.inj H
              have p220 : 0 ≤ (x6_1 : Int) := of_decide_eq_true (by assumption)
              have q220 : x6_1 < (l1.length : Int) := of_decide_eq_true (by assumption)
              obtain ⟨ad220, e220, hx220_0, hx220_1⟩ := at_T42 HR1.out x6_1 p220 q220
              cases e220
              replace hx220_0 := (HB.out.cell (World.block_lt_of_cell? w _ hx220_0)).trans hx220_0
              replace hx220_1 := (HB.out.cell (World.block_lt_of_cell? w _ hx220_1)).trans hx220_1
              replace p220 := eq_true p220
              replace q220 := eq_true q220
              go_wp2
              repeat (go_quiet (fail); try go_wp2)
              go_ret
              exact ⟨by first | rfl | (simp [errW_none, errW_some] <;> rfl) | (simp [*, errW_none, errW_some] <;> rfl), by repeat first | with_reducible exact HB.out | apply below_alloc | apply pw_below_drewN | apply below_drew1⟩
            ·rw [if_neg c44] at H
             have c44b0 : (((rd_T42 l1 x6_1).f0) == 3 && (((rd_T42 l1 x6_1).f1) == 0)) = false := by simpa using c44
             (try (have c44b1 : decide (((rd_T42 l1 x6_1).f0) = 3 && (((rd_T42 l1 x6_1).f1) == 0)) = false := by simpa using c44))
             (try (have c44b2 : (((rd_T42 l1 x6_1).f0) == 3 && (((rd_T42 l1 x6_1).f1) == 0)) = false := by simpa using c44))
             (try (have c44b3 : ¬ (((rd_T42 l1 x6_1).f0) = 3 && (((rd_T42 l1 x6_1).f1) == 0)) := by simpa using c44))
             clear c44
             obtain rfl := Option.some.inj H
             have p220 : 0 ≤ (x6_1 : Int) := of_decide_eq_true (by assumption)
             have q220 : x6_1 < (l1.length : Int) := of_decide_eq_true (by assumption)
             obtain ⟨ad220, e220, hx220_0, hx220_1⟩ := at_T42 HR1.out x6_1 p220 q220
             cases e220
             replace hx220_0 := (HB.out.cell (World.block_lt_of_cell? w _ hx220_0)).trans hx220_0
             replace hx220_1 := (HB.out.cell (World.block_lt_of_cell? w _ hx220_1)).trans hx220_1
             replace p220 := eq_true p220
             replace q220 := eq_true q220
             go_wp2
             repeat (go_quiet (fail); try go_wp2)
             go_ret
             exact ⟨by first | rfl | (simp [errW_none, errW_some] <;> rfl) | (simp [*, errW_none, errW_some] <;> rfl), by repeat first | with_reducible exact HB.out | apply below_alloc | apply pw_below_drewN | apply below_drew1⟩
           ·rw [if_neg c43] at H
            exact absurd H (by simp)
          ·rw [if_neg c42] at H
           exact absurd H (by simp)
   ·rw [if_neg c5] at H
    have c5b0 : decide (x6_1 < (l1.length : Int)) = false := decide_eq_false c5
    clear c5
    replace H := Option.bind_eq_some_iff.mp H
    obtain ⟨t192, A550, H⟩ := H
    replace H : (if t192 = true then (if (x5_1.length : Int) = 1 then (some (decide ((l1.length : Int) ≤ 15))) else (some false)) else (some false)) = some r := H
    have A55 := Aside0.mk A550
    clear A550
    by_cases c56 : t192 = true
    ·subst c56
     have H1 : (if (x5_1.length : Int) = 1 then (some (decide ((l1.length : Int) ≤ 15))) else (some false)) = some r := by rw [if_pos rfl] at H; exact H
     clear H
     have H := H1
     clear H1
     by_cases c57 : (x5_1.length : Int) = 1
     ·rw [if_pos c57] at H
      have c57b0 : ((x5_1.length : Int) == 1) = true := beq_iff_eq.mpr c57
      have c57b1 : ((x5_1.length : Int) != 1) = false := bne_eq_false_iff_eq.mpr c57
      clear c57
      obtain rfl := Option.some.inj H
      go_wp2_with (first | (go_at_call 75; (with_reducible refine (spec_l1In.calls a0 1 3 true _ A55.out).mono ?_); rintro e w' ⟨rfl, ⟨nd, rfl⟩⟩; (try first | exact ⟨rfl, _, World.drewN_drewN _ _ _⟩ | exact ⟨rfl, _, Eq.trans (World.drewN_drewN _ _ _) (congrArg (World.drewN _) (Nat.add_assoc _ _ _))⟩); obtain ⟨Ao58, co58, eo58⟩ := Kd.R_slice HO_5.out; subst eo58))
      go_ret
      exact ⟨by first | rfl | (simp [errW_none, errW_some] <;> rfl) | (simp [*, errW_none, errW_some] <;> rfl), by repeat first | with_reducible exact HB.out | apply below_alloc | apply pw_below_drewN | apply below_drew1⟩
     ·rw [if_neg c57] at H
      have c57b0 : ((x5_1.length : Int) == 1) = false := beq_eq_false_iff_ne.mpr c57
      have c57b1 : ((x5_1.length : Int) != 1) = true := bne_iff_ne.mpr c57
      obtain rfl := Option.some.inj H
      go_wp2_with (first | (go_at_call 75; (with_reducible refine (spec_l1In.calls a0 1 3 true _ A55.out).mono ?_); rintro e w' ⟨rfl, ⟨nd, rfl⟩⟩; (try first | exact ⟨rfl, _, World.drewN_drewN _ _ _⟩ | exact ⟨rfl, _, Eq.trans (World.drewN_drewN _ _ _) (congrArg (World.drewN _) (Nat.add_assoc _ _ _))⟩); obtain ⟨Ao59, co59, eo59⟩ := Kd.R_slice HO_5.out; subst eo59))
      go_ret
      exact ⟨by first | rfl | (simp [errW_none, errW_some] <;> rfl) | (simp [*, errW_none, errW_some] <;> rfl), by repeat first | with_reducible exact HB.out | apply below_alloc | apply pw_below_drewN | apply below_drew1⟩
    ·replace c56 := Bool.eq_false_iff.mpr c56
     subst c56
     have H1 : (some false) = some r := by rw [if_neg (show ¬ (false = true) by decide)] at H; exact H
     clear H
     have H := H1
     clear H1
     obtain rfl := Option.some.inj H
     go_wp2_with (first | (go_at_call 75; (with_reducible refine (spec_l1In.calls a0 1 3 false _ A55.out).mono ?_); rintro e w' ⟨rfl, ⟨nd, rfl⟩⟩; (try first | exact ⟨rfl, _, World.drewN_drewN _ _ _⟩ | exact ⟨rfl, _, Eq.trans (World.drewN_drewN _ _ _) (congrArg (World.drewN _) (Nat.add_assoc _ _ _))⟩)))
     go_ret
     exact ⟨by first | rfl | (simp [errW_none, errW_some] <;> rfl) | (simp [*, errW_none, errW_some] <;> rfl), by repeat first | with_reducible exact HB.out | apply below_alloc | apply pw_below_drewN | apply below_drew1⟩

end Go.Proofs.Ytojaioejdfibhaa.PFnTermWays
