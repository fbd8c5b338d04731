/- Walks of the functions that the law FnTermWays reaches, written by a program of this session. No condition but those that each states. -/
import Derived.Test.YtojaioejdfibhaaOFnTermWaysx0
import Derived.Test.YtojaioejdfibhaaOFnTermWaysx7
namespace Go.Proofs.Ytojaioejdfibhaa.PFnTermWays
open Go.RowKit Go.Proofs.YtojaioejdfibhaaW.PrintWords Go.Proofs.YtojaioejdfibhaaW.PrintLast Go.Proofs.YtojaioejdfibhaaW.PrintMore
attribute [local go_sem] max2_int min2_int max_two min_two max_three min_three max_four min_four   -- for this text's walks alone
set_option linter.unusedVariables false
set_option linter.unusedSimpArgs false

/-! ### impl_TermOk: function 49 -/
mutual
def impl_TermOk.j0 : Nat → Int → List (S42) → Bool → Option (Bool)
 | 0, _, _, _ => none
 | k + 1, x0, x1, x21 => if x21 = true then (some false) else (impl_TermOk.l0 k x0 (([] : List Int)) x1 (x1.length : Int) 0)
def impl_TermOk.l0 : Nat → Int → List Int → List (S42) → Int → Int → Option (Bool)
 | 0, _, _, _, _, _ => none
 | k + 1, x0, x5, x23, x24, x25 => if x25 < x24 then (if 0 ≤ x25 then (if x25 < (x23.length : Int) then (if ((rd_T42 x23 x25).f0) = 0 then (if ((rd_T42 x23 x25).f1) < 0 then (impl_TermOk.j2 k x0 x5 x23 x24 x25 true) else (impl_TermOk.j2 k x0 x5 x23 x24 x25 (decide (((rd_T42 x23 x25).f1) ≥ x0)))) else (if ((rd_T42 x23 x25).f0) = 1 then (if x5.length < 17592186044416 then (if ((rd_T42 x23 x25).f1) = 0 then (impl_TermOk.l0 k x0 (x5 ++ [1]) x23 x24 (wrap64 (x25 + 1))) else (some false)) else (none)) else (if ((rd_T42 x23 x25).f0) = 2 then (if (wrap64 ((x5.length : Int) - 1)) < 1 then (impl_TermOk.j3 k x0 x5 (wrap64 ((x5.length : Int) - 1)) x23 x24 x25 true ((rd_T42 x23 x25).f0) ((rd_T42 x23 x25).f1)) else (if 0 ≤ (wrap64 ((wrap64 ((x5.length : Int) - 1)) - 1)) then (if (wrap64 ((wrap64 ((x5.length : Int) - 1)) - 1)) < (x5.length : Int) then (if 0 ≤ (wrap64 ((x5.length : Int) - 1)) then (if (wrap64 ((x5.length : Int) - 1)) < (x5.length : Int) then (impl_TermOk.j3 k x0 x5 (wrap64 ((x5.length : Int) - 1)) x23 x24 x25 (decide ((wrap64 ((rd x5 (wrap64 ((wrap64 ((x5.length : Int) - 1)) - 1))) + (rd x5 (wrap64 ((x5.length : Int) - 1))))) > 6)) ((rd_T42 x23 x25).f0) ((rd_T42 x23 x25).f1)) else (none)) else (none)) else (none)) else (none))) else (if ((rd_T42 x23 x25).f0) = 3 then (if (wrap64 ((x5.length : Int) - 1)) < 1 then (impl_TermOk.j4 k x0 x5 (wrap64 ((x5.length : Int) - 1)) x23 x24 x25 true ((rd_T42 x23 x25).f0) ((rd_T42 x23 x25).f1)) else (if 0 ≤ (wrap64 ((wrap64 ((x5.length : Int) - 1)) - 1)) then (if (wrap64 ((wrap64 ((x5.length : Int) - 1)) - 1)) < (x5.length : Int) then (if 0 ≤ (wrap64 ((x5.length : Int) - 1)) then (if (wrap64 ((x5.length : Int) - 1)) < (x5.length : Int) then (impl_TermOk.j4 k x0 x5 (wrap64 ((x5.length : Int) - 1)) x23 x24 x25 ((rd x5 (wrap64 ((wrap64 ((x5.length : Int) - 1)) - 1))) != (rd x5 (wrap64 ((x5.length : Int) - 1)))) ((rd_T42 x23 x25).f0) ((rd_T42 x23 x25).f1)) else (none)) else (none)) else (none)) else (none))) else (some false))))) else (none)) else (none)) else (some ((x5.length : Int) == 1))
def impl_TermOk.j2 : Nat → Int → List Int → List (S42) → Int → Int → Bool → Option (Bool)
 | 0, _, _, _, _, _, _ => none
 | k + 1, x0, x5, x23, x24, x25, x44 => if x44 = true then (some false) else (if x5.length < 17592186044416 then (impl_TermOk.l0 k x0 (x5 ++ [1]) x23 x24 (wrap64 (x25 + 1))) else (none))
def impl_TermOk.j3 : Nat → Int → List Int → Int → List (S42) → Int → Int → Bool → Int → Int → Option (Bool)
 | 0, _, _, _, _, _, _, _, _, _ => none
 | k + 1, x0, x5, x8, x23, x24, x25, x69, x337000, x337001 => if x69 = true then (some false) else (if 0 ≤ (wrap64 (x8 - 1)) then (if (wrap64 (x8 - 1)) < (x5.length : Int) then (if 0 ≤ x8 then (if x8 < (x5.length : Int) then (if x8 ≤ (x5.length : Int) then (if x337001 = 0 then (impl_TermOk.l0 k x0 ((x5.set ((wrap64 (x8 - 1)) : Int).toNat (wrap64 ((rd x5 (wrap64 (x8 - 1))) + (rd x5 x8)))).take (x8 : Int).toNat) x23 x24 (wrap64 (x25 + 1))) else (some false)) else (none)) else (none)) else (none)) else (none)) else (none))
def impl_TermOk.j4 : Nat → Int → List Int → Int → List (S42) → Int → Int → Bool → Int → Int → Option (Bool)
 | 0, _, _, _, _, _, _, _, _, _ => none
 | k + 1, x0, x5, x8, x23, x24, x25, x99, x337000, x337001 => if x99 = true then (some false) else (if 0 ≤ x8 then (if x8 ≤ (x5.length : Int) then (if x337001 = 0 then (impl_TermOk.l0 k x0 (x5.take (x8 : Int).toNat) x23 x24 (wrap64 (x25 + 1))) else (some false)) else (none)) else (none))
end
def impl_TermOk.f (k : Nat) (a0 : Int) (l1 : List (S42)) : Option (Bool) := (impl_coloursOk.f a0).bind fun t331 => (if t331 = true then (if (l1.length : Int) < 1 then (impl_TermOk.j0 k a0 l1 true) else (impl_TermOk.j0 k a0 l1 (decide ((l1.length : Int) > 15)))) else (impl_TermOk.j0 k a0 l1 true))
def impl_TermOk.T17 : Bool × List (List Nat × List Nat) := (true, [([], []), ([0], [0]), ([1], [1]), ([2], [2]), ([2], [2]), ([4, 2], [2, 4]), ([3, 5, 2], [2, 3, 5]), ([6, 2], [2, 6]), ([2], [2]), ([2], [2]), ([8, 9, 2], [2, 8, 9]), ([10, 2], [2, 10]), ([7, 11, 2], [2, 7, 11]), ([12, 2], [2, 12]), ([2, 13], [2, 13])])
def impl_TermOk.B17 : List Nat := [0, 1, 3, 7, 7, 23, 63, 127, 7, 7, 775, 1799, 4095, 8191, 16383]
theorem impl_TermOk.tab17 : rtab .any (opsOf Try.f49 17) = impl_TermOk.T17 := by kernel_rfl
theorem impl_TermOk.bits17 : waitsOk impl_TermOk.T17.2 impl_TermOk.B17 = true := by kernel_rfl
def impl_TermOk.T19 : Bool × List (List Nat × List Nat) := (true, [([], []), ([], []), ([1], [1]), ([0, 2], [0, 2]), ([3], [3]), ([], []), ([], []), ([5, 6], [5, 6]), ([7], [7]), ([4, 8], [4, 8]), ([0, 2, 0, 1, 2, 3, 4, 5, 6, 7, 8, 9], [0, 2]), ([10, 9, 0, 1, 2, 3, 4, 5, 6, 7, 8, 9], [9, 10])])
def impl_TermOk.B19 : List Nat := [0, 0, 2, 7, 15, 0, 0, 96, 224, 511, 1023, 2047]
theorem impl_TermOk.tab19 : rtab .any (opsOf Try.f49 19) = impl_TermOk.T19 := by kernel_rfl
theorem impl_TermOk.bits19 : waitsOk impl_TermOk.T19.2 impl_TermOk.B19 = true := by kernel_rfl
def impl_TermOk.T22 : Bool × List (List Nat × List Nat) := (true, [([], []), ([0], [0]), ([1], [1]), ([2], [2]), ([2], [2]), ([4, 2], [2, 4]), ([3, 5, 2], [2, 3, 5]), ([6, 2], [2, 6]), ([2], [2]), ([2], [2]), ([8, 9, 2], [2, 8, 9]), ([10, 2], [2, 10]), ([7, 11, 2], [2, 7, 11]), ([2, 12], [2, 12])])
def impl_TermOk.B22 : List Nat := [0, 1, 3, 7, 7, 23, 63, 127, 7, 7, 775, 1799, 4095, 8191]
theorem impl_TermOk.tab22 : rtab .any (opsOf Try.f49 22) = impl_TermOk.T22 := by kernel_rfl
theorem impl_TermOk.bits22 : waitsOk impl_TermOk.T22.2 impl_TermOk.B22 = true := by kernel_rfl
set_option maxHeartbeats 8000000 in
set_option maxRecDepth 100000 in
theorem impl_TermOk.calls (k : Nat) (a0 : Int) (A1 : Option Addr) (c1 : Nat) (l1 : List (S42)) (r : Bool) (w : World) (hr1 : Kd.C k42 w A1 l1.length l1) (hc1 : l1.length ≤ c1) (h : impl_TermOk.f k a0 l1 = some r) :
  Calls Try.prog 49 #[.int .i64 a0, .slice A1 l1.length c1] w fun e w' => e = .returned (.bool r) ∧ Below w.heap.size w w' := by
 have hu42 := Try.underlying42
 have HR1 := Aside0.mk hr1
 have HC1 := Aside0.mk hc1
 clear hr1 hc1
 have HB := Aside0.mk (Below.refl w.heap.size w)
 have H : ((impl_coloursOk.f a0).bind fun t331 => (if t331 = true then (if (l1.length : Int) < 1 then (impl_TermOk.j0 k a0 l1 true) else (impl_TermOk.j0 k a0 l1 (decide ((l1.length : Int) > 15)))) else (impl_TermOk.j0 k a0 l1 true))) = some r := h
 clear h
 have HC3 := Aside0.mk H
 clear H
 go_enter Try.func49, Try.ntmps49
 go_upto_region 1 with (fail)
 go_cut [21] (fun v21 wc => ∃ (kq : Nat) (x21_2 : Bool), v21 = .bool x21_2 ∧ Aside0 (impl_TermOk.j0 kq a0 l1 x21_2 = some r) ∧ Aside0 (kq ≤ k) ∧ Aside0 (Below w.heap.size w wc))
 case first =>
  have H := HC3.out
  clear HC3
  replace H := Option.bind_eq_some_iff.mp H
  obtain ⟨t331, A40, H⟩ := H
  replace H : (if t331 = true then (if (l1.length : Int) < 1 then (impl_TermOk.j0 k a0 l1 true) else (impl_TermOk.j0 k a0 l1 (decide ((l1.length : Int) > 15)))) else (impl_TermOk.j0 k a0 l1 true)) = some r := H
  have A4 := Aside0.mk A40
  clear A40
  by_cases c5 : t331 = true
  ·subst c5
   have H1 : (if (l1.length : Int) < 1 then (impl_TermOk.j0 k a0 l1 true) else (impl_TermOk.j0 k a0 l1 (decide ((l1.length : Int) > 15)))) = some r := by rw [if_pos rfl] at H; exact H
   clear H
   have H := H1
   clear H1
   by_cases c6 : (l1.length : Int) < 1
   ·rw [if_pos c6] at H
    have c6b0 : decide ((l1.length : Int) < 1) = true := decide_eq_true c6
    have c6b1 : decide (l1.length < 1) = true := decide_eq_true (by omega)
    clear c6
    (first | rw [c6b0] | (simp only [i64_w, i32_w]; rw [c6b0]) | skip)
    have H' := Aside0.mk H
    clear H
    go_wp2_with (first | ((with_reducible refine gate_callee (f := 62) rfl ?_); refine goesL_ (some 10) rfl rfl Try.func62 (by kernel_rfl) rfl #[.int .i64 a0] rfl (by (try simp only [List.map_toArray, List.map_cons, List.map_nil]); first | done | rfl) ?_; (with_reducible refine (impl_coloursOk.calls a0 true _ A4.out).mono ?_); rintro e w' ⟨rfl, ⟨nd, rfl⟩⟩; refine ⟨_, rfl, ?_⟩))
    go_meet
    case rel => exact ⟨_, (true), (by first | rfl | (simp; done) | (simp [*]; done)), H', ⟨by first | omega | exact Nat.le_refl _⟩, ⟨by repeat first | with_reducible exact HB.out | apply below_alloc | apply pw_below_drewN | apply below_drew1⟩⟩
   ·rw [if_neg c6] at H
    have c6b0 : decide ((l1.length : Int) < 1) = false := decide_eq_false c6
    have c6b1 : decide (l1.length < 1) = false := decide_eq_false (by omega)
    clear c6
    (first | rw [c6b0] | (simp only [i64_w, i32_w]; rw [c6b0]) | skip)
    have H' := Aside0.mk H
    clear H
    go_wp2_with (first | ((with_reducible refine gate_callee (f := 62) rfl ?_); refine goesL_ (some 10) rfl rfl Try.func62 (by kernel_rfl) rfl #[.int .i64 a0] rfl (by (try simp only [List.map_toArray, List.map_cons, List.map_nil]); first | done | rfl) ?_; (with_reducible refine (impl_coloursOk.calls a0 true _ A4.out).mono ?_); rintro e w' ⟨rfl, ⟨nd, rfl⟩⟩; refine ⟨_, rfl, ?_⟩))
    go_meet
    case rel => exact ⟨_, (decide ((l1.length : Int) > 15)), (by first | rfl | (simp; done) | (simp [*]; done)), H', ⟨by first | omega | exact Nat.le_refl _⟩, ⟨by repeat first | with_reducible exact HB.out | apply below_alloc | apply pw_below_drewN | apply below_drew1⟩⟩
  ·replace c5 := Bool.eq_false_iff.mpr c5
   subst c5
   have H1 : (impl_TermOk.j0 k a0 l1 true) = some r := by rw [if_neg (show ¬ (false = true) by decide)] at H; exact H
   clear H
   have H := H1
   clear H1
   have H' := Aside0.mk H
   clear H
   go_wp2_with (first | ((with_reducible refine gate_callee (f := 62) rfl ?_); refine goesL_ (some 10) rfl rfl Try.func62 (by kernel_rfl) rfl #[.int .i64 a0] rfl (by (try simp only [List.map_toArray, List.map_cons, List.map_nil]); first | done | rfl) ?_; (with_reducible refine (impl_coloursOk.calls a0 false _ A4.out).mono ?_); rintro e w' ⟨rfl, ⟨nd, rfl⟩⟩; refine ⟨_, rfl, ?_⟩))
   go_meet
   case rel => exact ⟨_, (true), (by first | rfl | (simp; done) | (simp [*]; done)), H', ⟨by first | omega | exact Nat.le_refl _⟩, ⟨by repeat first | with_reducible exact HB.out | apply below_alloc | apply pw_below_drewN | apply below_drew1⟩⟩
 case rest =>
  clear HC3
  try clear c1
  try clear p2
  try clear c4
  try clear c5
  try clear c6
  try clear c6b0
  try clear c6b1
  obtain ⟨kq, x21_2, rfl, HA, HJ2, HB⟩ := hcut
  cases kq with
  | zero => exact absurd HA.out (by simp [impl_TermOk.j0])
  | succ kj2 =>
   have H := HA.out
   clear HA
   simp only [impl_TermOk.j0] at H
   by_cases c7 : x21_2 = true
   ·subst c7
    have H1 : (some false) = some r := by rw [if_pos rfl] at H; exact H
    clear H
    have H := H1
    clear H1
    obtain rfl := Option.some.inj H
    go_wp2
    go_ret
    exact ⟨by first | rfl | (simp [errW_none, errW_some] <;> rfl) | (simp [*, errW_none, errW_some] <;> rfl), by repeat first | with_reducible exact HB.out | apply below_alloc | apply pw_below_drewN | apply below_drew1⟩
   ·replace c7 := Bool.eq_false_iff.mpr c7
    subst c7
    have H1 : (impl_TermOk.l0 kj2 a0 (([] : List Int)) l1 (l1.length : Int) 0) = some r := by rw [if_neg (show ¬ (false = true) by decide)] at H; exact H
    clear H
    have H := H1
    clear H1
    obtain ⟨y332, hy332⟩ : ∃ y_ : List Int, y_ = (([] : List Int)) := ⟨_, rfl⟩
    replace H : (impl_TermOk.l0 kj2 a0 y332 l1 (l1.length : Int) 0) = some r := by first | (rw [hy332]; with_reducible exact H) | (have H2_ := (Option.bind_some _ _).symm.trans H; rw [hy332]; with_reducible exact H2_) | (have H2_ := (Option.bind_some _ _).symm.trans H; with_reducible exact H2_) | with_reducible exact H | (rw [hy332]; exact H) | exact H
    have Ny332 := Aside0.mk hy332
    clear hy332
    have H' := Aside0.mk H
    clear H
    go_wp2_with (first | ((with_reducible refine gate_dst (N := 22) rfl ?_); (try (refine gate_guard (by rfl) ?_; dsimp only)); refine Kd.R_lit (Kd.int .i64) _ 3 ?hg (N := 22) ?hd (xs := ([] : List Int)) (inner := []) (ok := fun _ => True) (okp := fun _ => True) ?hr ?hp (fun _ hk => hk) trivial (Below.refl _ _) (Nat.le_refl _) (by simp) ?_; (case hd => rfl); (case hg => rfl); (case hr => first | (go_simp; done) | (go_simp; rfl)); (case hp => exact (Reps.none _ _)); intro v333 w8 ho9 hb hg_ hnew_; clear hg_ hnew_; (first | rw [← Ny332.out] at ho9 | (simp only [Int.reduceToNat] at ho9; rw [← Ny332.out] at ho9)); have n0_ := Aside0.mk (Kd.R_lower ho9 (below_size (by repeat first | with_reducible exact HB.out | apply below_alloc | apply pw_below_drewN | apply below_drew1))); have n1_ := Aside0.mk (below_step (by repeat first | with_reducible exact HB.out | apply below_alloc | apply pw_below_drewN | apply below_drew1) hb); clear HB; have HO334 := n0_; have HB := n1_; clear n0_ n1_; clear hb ho9))
    go_loopg [5, 25] kj2 (fun kq v5 v25 w' => ∃ (x5_2 : List Int) (x25_2 : Int), v25 = .int .i64 x25_2 ∧ Aside0 (impl_TermOk.l0 kq a0 x5_2 l1 (l1.length : Int) x25_2 = some r) ∧ Aside0 (kq ≤ kj2) ∧ Aside0 (Kd.R (Kd.int .i64) 3 w' w.heap.size (fun _ => True) v5 x5_2) ∧ Aside0 (Below w.heap.size w w'))
    case atStart => exact ⟨(y332), (0), (by first | rfl | (simp; done) | (simp [*]; done)), H', ⟨Nat.le_refl _⟩, ⟨by (with_reducible repeat (first | apply Kd.R_alloc | apply Kd.R_drewN | apply Kd.R_drew)); exact HO334.out⟩, ⟨by repeat first | with_reducible exact HB.out | apply below_alloc | apply pw_below_drewN | apply below_drew1⟩⟩
    case round =>
     clear H'
     try clear c1
     try clear p2
     try clear c4
     try clear c5
     try clear c6
     try clear c6b0
     try clear c6b1
     try clear c7
     try clear p2
     obtain ⟨x5_2, x25_2, rfl, HA, HK2, HO_5, HB⟩ := hrel
     cases gk with
     | zero => exact absurd HA.out (by simp [impl_TermOk.l0])
     | succ k2 =>
      have H := HA.out
      clear HA
      simp only [impl_TermOk.l0] at H
      by_cases c10 : x25_2 < (l1.length : Int)
      ·rw [if_pos c10] at H
       have c10b0 : decide (x25_2 < (l1.length : Int)) = true := decide_eq_true c10
       clear c10
       by_cases c11 : 0 ≤ x25_2
       ·rw [if_pos c11] at H
        have c11b0 : decide (0 ≤ x25_2) = true := decide_eq_true c11
        clear c11
        by_cases c12 : x25_2 < (l1.length : Int)
        ·rw [if_pos c12] at H
         have c12b0 : decide (x25_2 < (l1.length : Int)) = true := decide_eq_true c12
         clear c12
         by_cases c13 : ((rd_T42 l1 x25_2).f0) = 0
         ·rw [if_pos c13] at H
          have c13b0 : (((rd_T42 l1 x25_2).f0) == 0) = true := beq_iff_eq.mpr c13
          have c13b1 : (((rd_T42 l1 x25_2).f0) != 0) = false := bne_eq_false_iff_eq.mpr c13
          clear c13
          have HC14 := Aside0.mk H
          clear H
          have p335 : 0 ≤ (x25_2 : Int) := of_decide_eq_true (by assumption)
          have q335 : x25_2 < (l1.length : Int) := of_decide_eq_true (by assumption)
          obtain ⟨ad335, e335, hx335_0, hx335_1⟩ := at_T42 HR1.out x25_2 p335 q335
          cases e335
          replace hx335_0 := (HB.out.cell (World.block_lt_of_cell? w _ hx335_0)).trans hx335_0
          replace hx335_1 := (HB.out.cell (World.block_lt_of_cell? w _ hx335_1)).trans hx335_1
          replace p335 := eq_true p335
          replace q335 := eq_true q335
          go_upto_region 11 with (first | ((with_reducible refine gate_dst (N := 7) rfl ?_); (try (refine gate_guard (by rfl) ?_; dsimp only)); refine box_event ?hg (N := 7) ?hd (cs := #[.int .i64 0, .int .i64 0]) (t := 42) ?hr ?_; (case hd => rfl); (case hg => rfl); (case hr => first | (go_simp; done) | (go_simp; rfl)); intro gb336 hg w15 hbox hb; have n0_ := Aside0.mk (Kd.R_below (by (with_reducible repeat (first | apply Kd.R_alloc | apply Kd.R_drewN | apply Kd.R_drew)); exact HO_5.out) hb); have n1_ := Aside0.mk (below_step (by repeat first | with_reducible exact HB.out | apply below_alloc | apply pw_below_drewN | apply below_drew1) hb); have n2_ := Aside0.mk (hbox); have n3_ := Aside0.mk ((by rw [hg]; exact (below_size (by repeat first | with_reducible exact HB.out | apply below_alloc | apply pw_below_drewN | apply below_drew1)) : w.heap.size ≤ gb336)); have n4_ := Aside0.mk ((by rw [hg]; exact (below_size (by repeat first | with_reducible exact HB.out | apply below_alloc | apply pw_below_drewN | apply below_drew1)) : w.heap.size ≤ gb336)); clear HO_5; clear HB; have HO_5 := n0_; have HB := n1_; have BK336 := n2_; have GW336 := n3_; have GE336 := n4_; clear n0_ n1_ n2_ n3_ n4_; clear hb hbox hg; have hcz16_0 : w15.cell? ⟨gb336, 0, none⟩ = some (.int .i64 0) := (blk_cell BK336.out 0).trans rfl; have hcz16_1 : w15.cell? ⟨gb336, 1, none⟩ = some (.int .i64 0) := (blk_cell BK336.out 1).trans rfl; have hfz16_0 := blk_frozen BK336.out 0; have hfz16_1 := blk_frozen BK336.out 1; obtain ⟨Ao17, co17, eo17⟩ := Kd.R_slice HO_5.out; subst eo17))
          (try simp only [Act.put, List.setIfInBounds_toArray, List.set_cons_zero, List.set_cons_succ])
          go_cut [44] (fun v44 wc => ∃ (kq : Nat) (x44_13 : Bool), v44 = .bool x44_13 ∧ Aside0 (impl_TermOk.j2 kq a0 x5_2 l1 (l1.length : Int) x25_2 x44_13 = some r) ∧ Aside0 (kq ≤ k2) ∧ Aside0 (Kd.R (Kd.int .i64) 3 wc w.heap.size (fun _ => True) (.slice Ao17 x5_2.length co17) x5_2) ∧ Aside0 (wc.heap[gb336]? = some (.cells #[.int .i64 ((rd_T42 l1 x25_2).f0), .int .i64 ((rd_T42 l1 x25_2).f1)] 42 (0, 0))) ∧ Aside0 (Below w.heap.size w wc))
          case first =>
           have H := HC14.out
           clear HC14
           by_cases c18 : ((rd_T42 l1 x25_2).f1) < 0
           ·rw [if_pos c18] at H
            have c18b0 : decide (((rd_T42 l1 x25_2).f1) < 0) = true := decide_eq_true c18
            clear c18
            (first | rw [c18b0] | (simp only [i64_w, i32_w]; rw [c18b0]) | skip)
            have H' := Aside0.mk H
            clear H
            have hcz19_0 : w15.cell? ⟨gb336, 0, none⟩ = some (.int .i64 0) := (blk_cell BK336.out 0).trans rfl
            have hcz19_1 : w15.cell? ⟨gb336, 1, none⟩ = some (.int .i64 0) := (blk_cell BK336.out 1).trans rfl
            have hfz19_0 := blk_frozen BK336.out 0
            have hfz19_1 := blk_frozen BK336.out 1
            go_wp2
            go_meet
            case rel => exact ⟨_, (true), (by first | rfl | (simp; done) | (simp [*]; done)), H', ⟨by have := HJ2.out; have := HK2.out; first | omega | exact Nat.le_refl _⟩, ⟨by (with_reducible repeat (first | apply Kd.R_alloc | apply Kd.R_drewN | apply Kd.R_drew)); exact Kd.R_mono (Kd.R_far (p := ⟨gb336, 1, none⟩) (Kd.R_far (p := ⟨gb336, 0, none⟩) (Kd.R_types HO_5.out BK336.out (by decide)) (fun _ hk => hk.2) (.int .i64 ((rd_T42 l1 x25_2).f0))) (fun _ hk => hk.2) (.int .i64 ((rd_T42 l1 x25_2).f1))) (fun _ hk => trivial)⟩, ⟨by (with_reducible repeat (first | refine blk_drewN ?_ _ | refine blk_drew ?_ | refine blk_alloc ?_ _)); refine blk_put (cs := #[.int .i64 ((rd_T42 l1 x25_2).f0), .int .i64 0]) ?_ 1 _ rfl; (with_reducible repeat (first | refine blk_drewN ?_ _ | refine blk_drew ?_ | refine blk_alloc ?_ _)); refine blk_put (cs := #[.int .i64 0, .int .i64 0]) ?_ 0 _ rfl; (with_reducible repeat (first | refine blk_drewN ?_ _ | refine blk_drew ?_ | refine blk_alloc ?_ _)); exact BK336.out⟩, ⟨by repeat (first | (with_reducible first | exact HB.out | apply below_alloc | apply pw_below_drewN | apply below_drew1 | refine below_set ?_ GE336.out) | exact HB.out)⟩⟩
           ·rw [if_neg c18] at H
            have c18b0 : decide (((rd_T42 l1 x25_2).f1) < 0) = false := decide_eq_false c18
            clear c18
            (first | rw [c18b0] | (simp only [i64_w, i32_w]; rw [c18b0]) | skip)
            have H' := Aside0.mk H
            clear H
            have hcz20_0 : w15.cell? ⟨gb336, 0, none⟩ = some (.int .i64 0) := (blk_cell BK336.out 0).trans rfl
            have hcz20_1 : w15.cell? ⟨gb336, 1, none⟩ = some (.int .i64 0) := (blk_cell BK336.out 1).trans rfl
            have hfz20_0 := blk_frozen BK336.out 0
            have hfz20_1 := blk_frozen BK336.out 1
            go_wp2
            go_meet
            case rel => exact ⟨_, (decide (((rd_T42 l1 x25_2).f1) ≥ a0)), (by first | rfl | (simp; done) | (simp [*]; done)), H', ⟨by have := HJ2.out; have := HK2.out; first | omega | exact Nat.le_refl _⟩, ⟨by (with_reducible repeat (first | apply Kd.R_alloc | apply Kd.R_drewN | apply Kd.R_drew)); exact Kd.R_mono (Kd.R_far (p := ⟨gb336, 1, none⟩) (Kd.R_far (p := ⟨gb336, 0, none⟩) (Kd.R_types HO_5.out BK336.out (by decide)) (fun _ hk => hk.2) (.int .i64 ((rd_T42 l1 x25_2).f0))) (fun _ hk => hk.2) (.int .i64 ((rd_T42 l1 x25_2).f1))) (fun _ hk => trivial)⟩, ⟨by (with_reducible repeat (first | refine blk_drewN ?_ _ | refine blk_drew ?_ | refine blk_alloc ?_ _)); refine blk_put (cs := #[.int .i64 ((rd_T42 l1 x25_2).f0), .int .i64 0]) ?_ 1 _ rfl; (with_reducible repeat (first | refine blk_drewN ?_ _ | refine blk_drew ?_ | refine blk_alloc ?_ _)); refine blk_put (cs := #[.int .i64 0, .int .i64 0]) ?_ 0 _ rfl; (with_reducible repeat (first | refine blk_drewN ?_ _ | refine blk_drew ?_ | refine blk_alloc ?_ _)); exact BK336.out⟩, ⟨by repeat (first | (with_reducible first | exact HB.out | apply below_alloc | apply pw_below_drewN | apply below_drew1 | refine below_set ?_ GE336.out) | exact HB.out)⟩⟩
          case rest =>
           clear HC14
           try clear c1
           try clear p2
           try clear p3
           try clear q3
           try clear hx3
           try clear c4
           try clear c5
           try clear c6
           try clear c6b0
           try clear c6b1
           try clear c7
           try clear c10
           try clear c10b0
           try clear c11
           try clear c11b0
           try clear c12
           try clear c12b0
           try clear c13
           try clear c13b0
           try clear c13b1
           try clear c18
           try clear c18b0
           try clear hcz16_0
           try clear hcz16_1
           try clear hcz19_0
           try clear hcz19_1
           try clear hcz20_0
           try clear hcz20_1
           try clear hfz16_0
           try clear hfz16_1
           try clear hfz19_0
           try clear hfz19_1
           try clear hfz20_0
           try clear hfz20_1
           try clear hx335_0
           try clear hx335_1
           try clear p2
           try clear p335
           try clear q335
           obtain ⟨kq, x44_13, rfl, HA, HJ13, HO_5, BK336, HB⟩ := hcut
           cases kq with
           | zero => exact absurd HA.out (by simp [impl_TermOk.j2])
           | succ kj13 =>
            have H := HA.out
            clear HA
            simp only [impl_TermOk.j2] at H
            by_cases c21 : x44_13 = true
            ·subst c21
             have H1 : (some false) = some r := by rw [if_pos rfl] at H; exact H
             clear H
             have H := H1
             clear H1
             obtain rfl := Option.some.inj H
             go_wp2
             go_ret
             exact ⟨by first | rfl | (simp [errW_none, errW_some] <;> rfl) | (simp [*, errW_none, errW_some] <;> rfl), by repeat (first | (with_reducible first | exact HB.out | apply below_alloc | apply pw_below_drewN | apply below_drew1 | refine below_set ?_ GE336.out) | exact HB.out)⟩
            ·replace c21 := Bool.eq_false_iff.mpr c21
             subst c21
             have H1 : (if x5_2.length < 17592186044416 then (impl_TermOk.l0 kj13 a0 (x5_2 ++ [1]) l1 (l1.length : Int) (wrap64 (x25_2 + 1))) else (none)) = some r := by rw [if_neg (show ¬ (false = true) by decide)] at H; exact H
             clear H
             have H := H1
             clear H1
             by_cases c22 : x5_2.length < 17592186044416
             ·rw [if_pos c22] at H
              have LMc22 := Aside0.mk c22
              clear c22
              obtain ⟨y337, hy337⟩ : ∃ y_ : List Int, y_ = (x5_2 ++ [1]) := ⟨_, rfl⟩
              replace H : (impl_TermOk.l0 kj13 a0 y337 l1 (l1.length : Int) (wrap64 (x25_2 + 1))) = some r := by first | (rw [hy337]; with_reducible exact H) | (have H2_ := (Option.bind_some _ _).symm.trans H; rw [hy337]; with_reducible exact H2_) | (have H2_ := (Option.bind_some _ _).symm.trans H; with_reducible exact H2_) | with_reducible exact H | (rw [hy337]; exact H) | exact H
              have Ny337 := Aside0.mk hy337
              clear hy337
              have H' := Aside0.mk H
              clear H
              go_wp2_with (first | ((with_reducible refine gate_builtin (b := .append) (xs := #[.tmp 45, .tmp 46]) rfl ?_); (try (refine gate_guard (by rfl) ?_; dsimp only)); at_builtin; refine Kd.R_append (Kd.int .i64) (w0 := w) w.heap.size rfl (.tmp 45) (.tmp 46) 22 3 (.int .i64 0) 8 rfl Try.underlying22 info3 rfl (by decide) (by omega) (.slice Ao17 x5_2.length co17) x5_2 1 [.int .i64 1] (fun _ => True) (fun _ => False) rfl rfl ?aP (fun _ hk => hk.elim) ?aF ?aO ?aB ?aS ?aL ?_; (case aP => exact rfl); (case aB => exact (by repeat (first | (with_reducible first | exact HB.out | apply below_alloc | apply pw_below_drewN | apply below_drew1 | refine below_set ?_ GE336.out) | exact HB.out))); (case aF => exact (fun _ _ => trivial)); (case aO => exact (by (with_reducible repeat (first | apply Kd.R_alloc | apply Kd.R_drewN | apply Kd.R_drew)); exact HO_5.out)); (case aS => exact (below_size (by repeat (first | (with_reducible first | exact HB.out | apply below_alloc | apply pw_below_drewN | apply below_drew1 | refine below_set ?_ GE336.out) | exact HB.out)))); (case aL => have := LMc22.out; omega); intro v338 w23 ho hb hg hat; rw [← Ny337.out] at ho; have n0_ := Aside0.mk (blk_grown (g := gb336) (o := .cells #[.int .i64 ((rd_T42 l1 x25_2).f0), .int .i64 ((rd_T42 l1 x25_2).f1)] 42 (0, 0)) (by (with_reducible repeat (first | refine blk_drewN ?_ _ | refine blk_drew ?_ | refine blk_alloc ?_ _)); exact BK336.out) hg (Kd.R_ne HO_5.out BK336.out (by decide))); have n1_ := Aside0.mk (hb); have n2_ := Aside0.mk (ho); clear BK336; clear HB; clear HO_5; have BK336 := n0_; have HB := n1_; have HO339 := n2_; clear n0_ n1_ n2_; clear ho hb hg hat))
              go_roundg kj13
              case measure => have := HJ2.out; have := HK2.out; have := HJ13.out; omega
              case rel => exact ⟨(y337), (wrap64 (x25_2 + 1)), (by first | rfl | (simp; done) | (simp [*]; done)), H', ⟨by have := HJ2.out; have := HK2.out; have := HJ13.out; omega⟩, ⟨by (with_reducible repeat (first | apply Kd.R_alloc | apply Kd.R_drewN | apply Kd.R_drew)); exact HO339.out⟩, ⟨by repeat (first | (with_reducible first | exact HB.out | apply below_alloc | apply pw_below_drewN | apply below_drew1 | refine below_set ?_ GE336.out) | exact HB.out)⟩⟩
             ·rw [if_neg c22] at H
              exact absurd H (by simp)
         ·rw [if_neg c13] at H
          have c13b0 : (((rd_T42 l1 x25_2).f0) == 0) = false := beq_eq_false_iff_ne.mpr c13
          have c13b1 : (((rd_T42 l1 x25_2).f0) != 0) = true := bne_iff_ne.mpr c13
          by_cases c24 : ((rd_T42 l1 x25_2).f0) = 1
          ·rw [if_pos c24] at H
           have c24b0 : (((rd_T42 l1 x25_2).f0) == 1) = true := beq_iff_eq.mpr c24
           have c24b1 : (((rd_T42 l1 x25_2).f0) != 1) = false := bne_eq_false_iff_eq.mpr c24
           clear c24
           by_cases c25 : x5_2.length < 17592186044416
           ·rw [if_pos c25] at H
            have LMc25 := Aside0.mk c25
            clear c25
            obtain ⟨y340, hy340⟩ : ∃ y_ : List Int, y_ = (x5_2 ++ [1]) := ⟨_, rfl⟩
            replace H : (if ((rd_T42 l1 x25_2).f1) = 0 then (impl_TermOk.l0 k2 a0 y340 l1 (l1.length : Int) (wrap64 (x25_2 + 1))) else (some false)) = some r := by first | (rw [hy340]; with_reducible exact H) | (have H2_ := (Option.bind_some _ _).symm.trans H; rw [hy340]; with_reducible exact H2_) | (have H2_ := (Option.bind_some _ _).symm.trans H; with_reducible exact H2_) | with_reducible exact H | (rw [hy340]; exact H) | exact H
            have Ny340 := Aside0.mk hy340
            clear hy340
            by_cases c26 : ((rd_T42 l1 x25_2).f1) = 0
            ·rw [if_pos c26] at H
             have c26b0 : (((rd_T42 l1 x25_2).f1) == 0) = true := beq_iff_eq.mpr c26
             have c26b1 : (((rd_T42 l1 x25_2).f1) != 0) = false := bne_eq_false_iff_eq.mpr c26
             clear c26
             have H' := Aside0.mk H
             clear H
             have p335 : 0 ≤ (x25_2 : Int) := of_decide_eq_true (by assumption)
             have q335 : x25_2 < (l1.length : Int) := of_decide_eq_true (by assumption)
             obtain ⟨ad335, e335, hx335_0, hx335_1⟩ := at_T42 HR1.out x25_2 p335 q335
             cases e335
             replace hx335_0 := (HB.out.cell (World.block_lt_of_cell? w _ hx335_0)).trans hx335_0
             replace hx335_1 := (HB.out.cell (World.block_lt_of_cell? w _ hx335_1)).trans hx335_1
             replace p335 := eq_true p335
             replace q335 := eq_true q335
             go_wp2_with (first | ((with_reducible refine gate_dst (N := 7) rfl ?_); (try (refine gate_guard (by rfl) ?_; dsimp only)); refine box_event ?hg (N := 7) ?hd (cs := #[.int .i64 0, .int .i64 0]) (t := 42) ?hr ?_; (case hd => rfl); (case hg => rfl); (case hr => first | (go_simp; done) | (go_simp; rfl)); intro gb336 hg w27 hbox hb; have n0_ := Aside0.mk (Kd.R_below (by (with_reducible repeat (first | apply Kd.R_alloc | apply Kd.R_drewN | apply Kd.R_drew)); exact HO_5.out) hb); have n1_ := Aside0.mk (below_step (by repeat first | with_reducible exact HB.out | apply below_alloc | apply pw_below_drewN | apply below_drew1) hb); have n2_ := Aside0.mk (hbox); have n3_ := Aside0.mk ((by rw [hg]; exact (below_size (by repeat first | with_reducible exact HB.out | apply below_alloc | apply pw_below_drewN | apply below_drew1)) : w.heap.size ≤ gb336)); have n4_ := Aside0.mk ((by rw [hg]; exact (below_size (by repeat first | with_reducible exact HB.out | apply below_alloc | apply pw_below_drewN | apply below_drew1)) : w.heap.size ≤ gb336)); clear HO_5; clear HB; have HO_5 := n0_; have HB := n1_; have BK336 := n2_; have GW336 := n3_; have GE336 := n4_; clear n0_ n1_ n2_ n3_ n4_; clear hb hbox hg; have hcz28_0 : w27.cell? ⟨gb336, 0, none⟩ = some (.int .i64 0) := (blk_cell BK336.out 0).trans rfl; have hcz28_1 : w27.cell? ⟨gb336, 1, none⟩ = some (.int .i64 0) := (blk_cell BK336.out 1).trans rfl; have hfz28_0 := blk_frozen BK336.out 0; have hfz28_1 := blk_frozen BK336.out 1; obtain ⟨Ao29, co29, eo29⟩ := Kd.R_slice HO_5.out; subst eo29) | ((with_reducible refine gate_builtin (b := .append) (xs := #[.tmp 50, .tmp 51]) rfl ?_); (try (refine gate_guard (by rfl) ?_; dsimp only)); at_builtin; refine Kd.R_append (Kd.int .i64) (w0 := w) w.heap.size rfl (.tmp 50) (.tmp 51) 22 3 (.int .i64 0) 8 rfl Try.underlying22 info3 rfl (by decide) (by omega) (.slice Ao29 x5_2.length co29) x5_2 1 [.int .i64 1] (fun _ => True) (fun _ => False) rfl (by first | (go_simp; done) | (go_simp; rfl)) ?aP (fun _ hk => hk.elim) ?aF ?aO ?aB ?aS ?aL ?_; (case aP => exact rfl); (case aB => exact (by repeat (first | (with_reducible first | exact HB.out | apply below_alloc | apply pw_below_drewN | apply below_drew1 | refine below_set ?_ GE336.out) | exact HB.out))); (case aF => exact (fun _ _ => trivial)); (case aO => exact (by (with_reducible repeat (first | apply Kd.R_alloc | apply Kd.R_drewN | apply Kd.R_drew)); exact Kd.R_mono (Kd.R_far (p := ⟨gb336, 1, none⟩) (Kd.R_far (p := ⟨gb336, 0, none⟩) (Kd.R_types HO_5.out BK336.out (by decide)) (fun _ hk => hk.2) (.int .i64 ((rd_T42 l1 x25_2).f0))) (fun _ hk => hk.2) (.int .i64 ((rd_T42 l1 x25_2).f1))) (fun _ hk => trivial))); (case aS => exact (below_size (by repeat (first | (with_reducible first | exact HB.out | apply below_alloc | apply pw_below_drewN | apply below_drew1 | refine below_set ?_ GE336.out) | exact HB.out)))); (case aL => have := LMc25.out; omega); intro v341 w30 ho hb hg hat; rw [← Ny340.out] at ho; have n0_ := Aside0.mk (blk_grown (g := gb336) (o := .cells #[.int .i64 ((rd_T42 l1 x25_2).f0), .int .i64 ((rd_T42 l1 x25_2).f1)] 42 (0, 0)) (by (with_reducible repeat (first | refine blk_drewN ?_ _ | refine blk_drew ?_ | refine blk_alloc ?_ _)); refine blk_put (cs := #[.int .i64 ((rd_T42 l1 x25_2).f0), .int .i64 0]) ?_ 1 _ rfl; (with_reducible repeat (first | refine blk_drewN ?_ _ | refine blk_drew ?_ | refine blk_alloc ?_ _)); refine blk_put (cs := #[.int .i64 0, .int .i64 0]) ?_ 0 _ rfl; (with_reducible repeat (first | refine blk_drewN ?_ _ | refine blk_drew ?_ | refine blk_alloc ?_ _)); exact BK336.out) hg (Kd.R_ne HO_5.out BK336.out (by decide))); have n1_ := Aside0.mk (hb); have n2_ := Aside0.mk (ho); clear BK336; clear HB; clear HO_5; have BK336 := n0_; have HB := n1_; have HO342 := n2_; clear n0_ n1_ n2_; clear ho hb hg hat; have hcz31_0 : w30.cell? ⟨gb336, 0, none⟩ = some (.int .i64 ((rd_T42 l1 x25_2).f0)) := (blk_cell BK336.out 0).trans rfl; have hcz31_1 : w30.cell? ⟨gb336, 1, none⟩ = some (.int .i64 ((rd_T42 l1 x25_2).f1)) := (blk_cell BK336.out 1).trans rfl; have hfz31_0 := blk_frozen BK336.out 0; have hfz31_1 := blk_frozen BK336.out 1))
             go_roundg k2
             case measure => have := HJ2.out; have := HK2.out; omega
             case rel => exact ⟨(y340), (wrap64 (x25_2 + 1)), (by first | rfl | (simp; done) | (simp [*]; done)), H', ⟨by have := HJ2.out; have := HK2.out; omega⟩, ⟨by (with_reducible repeat (first | apply Kd.R_alloc | apply Kd.R_drewN | apply Kd.R_drew)); exact HO342.out⟩, ⟨by repeat (first | (with_reducible first | exact HB.out | apply below_alloc | apply pw_below_drewN | apply below_drew1 | refine below_set ?_ GE336.out) | exact HB.out)⟩⟩
            ·rw [if_neg c26] at H
             have c26b0 : (((rd_T42 l1 x25_2).f1) == 0) = false := beq_eq_false_iff_ne.mpr c26
             have c26b1 : (((rd_T42 l1 x25_2).f1) != 0) = true := bne_iff_ne.mpr c26
             obtain rfl := Option.some.inj H
             have p335 : 0 ≤ (x25_2 : Int) := of_decide_eq_true (by assumption)
             have q335 : x25_2 < (l1.length : Int) := of_decide_eq_true (by assumption)
             obtain ⟨ad335, e335, hx335_0, hx335_1⟩ := at_T42 HR1.out x25_2 p335 q335
             cases e335
             replace hx335_0 := (HB.out.cell (World.block_lt_of_cell? w _ hx335_0)).trans hx335_0
             replace hx335_1 := (HB.out.cell (World.block_lt_of_cell? w _ hx335_1)).trans hx335_1
             replace p335 := eq_true p335
             replace q335 := eq_true q335
             go_wp2_with (first | ((with_reducible refine gate_dst (N := 7) rfl ?_); (try (refine gate_guard (by rfl) ?_; dsimp only)); refine box_event ?hg (N := 7) ?hd (cs := #[.int .i64 0, .int .i64 0]) (t := 42) ?hr ?_; (case hd => rfl); (case hg => rfl); (case hr => first | (go_simp; done) | (go_simp; rfl)); intro gb336 hg w32 hbox hb; have n0_ := Aside0.mk (Kd.R_below (by (with_reducible repeat (first | apply Kd.R_alloc | apply Kd.R_drewN | apply Kd.R_drew)); exact HO_5.out) hb); have n1_ := Aside0.mk (below_step (by repeat first | with_reducible exact HB.out | apply below_alloc | apply pw_below_drewN | apply below_drew1) hb); have n2_ := Aside0.mk (hbox); have n3_ := Aside0.mk ((by rw [hg]; exact (below_size (by repeat first | with_reducible exact HB.out | apply below_alloc | apply pw_below_drewN | apply below_drew1)) : w.heap.size ≤ gb336)); have n4_ := Aside0.mk ((by rw [hg]; exact (below_size (by repeat first | with_reducible exact HB.out | apply below_alloc | apply pw_below_drewN | apply below_drew1)) : w.heap.size ≤ gb336)); clear HO_5; clear HB; have HO_5 := n0_; have HB := n1_; have BK336 := n2_; have GW336 := n3_; have GE336 := n4_; clear n0_ n1_ n2_ n3_ n4_; clear hb hbox hg; have hcz33_0 : w32.cell? ⟨gb336, 0, none⟩ = some (.int .i64 0) := (blk_cell BK336.out 0).trans rfl; have hcz33_1 : w32.cell? ⟨gb336, 1, none⟩ = some (.int .i64 0) := (blk_cell BK336.out 1).trans rfl; have hfz33_0 := blk_frozen BK336.out 0; have hfz33_1 := blk_frozen BK336.out 1; obtain ⟨Ao34, co34, eo34⟩ := Kd.R_slice HO_5.out; subst eo34) | ((with_reducible refine gate_builtin (b := .append) (xs := #[.tmp 50, .tmp 51]) rfl ?_); (try (refine gate_guard (by rfl) ?_; dsimp only)); at_builtin; refine Kd.R_append (Kd.int .i64) (w0 := w) w.heap.size rfl (.tmp 50) (.tmp 51) 22 3 (.int .i64 0) 8 rfl Try.underlying22 info3 rfl (by decide) (by omega) (.slice Ao34 x5_2.length co34) x5_2 1 [.int .i64 1] (fun _ => True) (fun _ => False) rfl (by first | (go_simp; done) | (go_simp; rfl)) ?aP (fun _ hk => hk.elim) ?aF ?aO ?aB ?aS ?aL ?_; (case aP => exact rfl); (case aB => exact (by repeat (first | (with_reducible first | exact HB.out | apply below_alloc | apply pw_below_drewN | apply below_drew1 | refine below_set ?_ GE336.out) | exact HB.out))); (case aF => exact (fun _ _ => trivial)); (case aO => exact (by (with_reducible repeat (first | apply Kd.R_alloc | apply Kd.R_drewN | apply Kd.R_drew)); exact Kd.R_mono (Kd.R_far (p := ⟨gb336, 1, none⟩) (Kd.R_far (p := ⟨gb336, 0, none⟩) (Kd.R_types HO_5.out BK336.out (by decide)) (fun _ hk => hk.2) (.int .i64 ((rd_T42 l1 x25_2).f0))) (fun _ hk => hk.2) (.int .i64 ((rd_T42 l1 x25_2).f1))) (fun _ hk => trivial))); (case aS => exact (below_size (by repeat (first | (with_reducible first | exact HB.out | apply below_alloc | apply pw_below_drewN | apply below_drew1 | refine below_set ?_ GE336.out) | exact HB.out)))); (case aL => have := LMc25.out; omega); intro v341 w35 ho hb hg hat; rw [← Ny340.out] at ho; have n0_ := Aside0.mk (blk_grown (g := gb336) (o := .cells #[.int .i64 ((rd_T42 l1 x25_2).f0), .int .i64 ((rd_T42 l1 x25_2).f1)] 42 (0, 0)) (by (with_reducible repeat (first | refine blk_drewN ?_ _ | refine blk_drew ?_ | refine blk_alloc ?_ _)); refine blk_put (cs := #[.int .i64 ((rd_T42 l1 x25_2).f0), .int .i64 0]) ?_ 1 _ rfl; (with_reducible repeat (first | refine blk_drewN ?_ _ | refine blk_drew ?_ | refine blk_alloc ?_ _)); refine blk_put (cs := #[.int .i64 0, .int .i64 0]) ?_ 0 _ rfl; (with_reducible repeat (first | refine blk_drewN ?_ _ | refine blk_drew ?_ | refine blk_alloc ?_ _)); exact BK336.out) hg (Kd.R_ne HO_5.out BK336.out (by decide))); have n1_ := Aside0.mk (hb); have n2_ := Aside0.mk (ho); clear BK336; clear HB; clear HO_5; have BK336 := n0_; have HB := n1_; have HO342 := n2_; clear n0_ n1_ n2_; clear ho hb hg hat; have hcz36_0 : w35.cell? ⟨gb336, 0, none⟩ = some (.int .i64 ((rd_T42 l1 x25_2).f0)) := (blk_cell BK336.out 0).trans rfl; have hcz36_1 : w35.cell? ⟨gb336, 1, none⟩ = some (.int .i64 ((rd_T42 l1 x25_2).f1)) := (blk_cell BK336.out 1).trans rfl; have hfz36_0 := blk_frozen BK336.out 0; have hfz36_1 := blk_frozen BK336.out 1))
             go_ret
             exact ⟨by first | rfl | (simp [errW_none, errW_some] <;> rfl) | (simp [*, errW_none, errW_some] <;> rfl), by repeat (first | (with_reducible first | exact HB.out | apply below_alloc | apply pw_below_drewN | apply below_drew1 | refine below_set ?_ GE336.out) | exact HB.out)⟩
           ·rw [if_neg c25] at H
            exact absurd H (by simp)
          ·rw [if_neg c24] at H
           have c24b0 : (((rd_T42 l1 x25_2).f0) == 1) = false := beq_eq_false_iff_ne.mpr c24
           have c24b1 : (((rd_T42 l1 x25_2).f0) != 1) = true := bne_iff_ne.mpr c24
           by_cases c37 : ((rd_T42 l1 x25_2).f0) = 2
           ·rw [if_pos c37] at H
            have c37b0 : (((rd_T42 l1 x25_2).f0) == 2) = true := beq_iff_eq.mpr c37
            have c37b1 : (((rd_T42 l1 x25_2).f0) != 2) = false := bne_eq_false_iff_eq.mpr c37
            clear c37
            have HC38 := Aside0.mk H
            clear H
            have p335 : 0 ≤ (x25_2 : Int) := of_decide_eq_true (by assumption)
            have q335 : x25_2 < (l1.length : Int) := of_decide_eq_true (by assumption)
            obtain ⟨ad335, e335, hx335_0, hx335_1⟩ := at_T42 HR1.out x25_2 p335 q335
            cases e335
            replace hx335_0 := (HB.out.cell (World.block_lt_of_cell? w _ hx335_0)).trans hx335_0
            replace hx335_1 := (HB.out.cell (World.block_lt_of_cell? w _ hx335_1)).trans hx335_1
            replace p335 := eq_true p335
            replace q335 := eq_true q335
            go_upto_region 17 with (first | ((with_reducible refine gate_dst (N := 7) rfl ?_); (try (refine gate_guard (by rfl) ?_; dsimp only)); refine box_event ?hg (N := 7) ?hd (cs := #[.int .i64 0, .int .i64 0]) (t := 42) ?hr ?_; (case hd => rfl); (case hg => rfl); (case hr => first | (go_simp; done) | (go_simp; rfl)); intro gb336 hg w39 hbox hb; have n0_ := Aside0.mk (Kd.R_below (by (with_reducible repeat (first | apply Kd.R_alloc | apply Kd.R_drewN | apply Kd.R_drew)); exact HO_5.out) hb); have n1_ := Aside0.mk (below_step (by repeat first | with_reducible exact HB.out | apply below_alloc | apply pw_below_drewN | apply below_drew1) hb); have n2_ := Aside0.mk (hbox); have n3_ := Aside0.mk ((by rw [hg]; exact (below_size (by repeat first | with_reducible exact HB.out | apply below_alloc | apply pw_below_drewN | apply below_drew1)) : w.heap.size ≤ gb336)); have n4_ := Aside0.mk ((by rw [hg]; exact (below_size (by repeat first | with_reducible exact HB.out | apply below_alloc | apply pw_below_drewN | apply below_drew1)) : w.heap.size ≤ gb336)); clear HO_5; clear HB; have HO_5 := n0_; have HB := n1_; have BK336 := n2_; have GW336 := n3_; have GE336 := n4_; clear n0_ n1_ n2_ n3_ n4_; clear hb hbox hg; have hcz40_0 : w39.cell? ⟨gb336, 0, none⟩ = some (.int .i64 0) := (blk_cell BK336.out 0).trans rfl; have hcz40_1 : w39.cell? ⟨gb336, 1, none⟩ = some (.int .i64 0) := (blk_cell BK336.out 1).trans rfl; have hfz40_0 := blk_frozen BK336.out 0; have hfz40_1 := blk_frozen BK336.out 1; obtain ⟨Ao41, co41, eo41⟩ := Kd.R_slice HO_5.out; subst eo41))
            (try simp only [Act.put, List.setIfInBounds_toArray, List.set_cons_zero, List.set_cons_succ])
            go_cut [69] (fun v69 wc => ∃ (kq : Nat) (x69_37 : Bool), v69 = .bool x69_37 ∧ Aside0 (impl_TermOk.j3 kq a0 x5_2 (wrap64 ((x5_2.length : Int) - 1)) l1 (l1.length : Int) x25_2 x69_37 ((rd_T42 l1 x25_2).f0) ((rd_T42 l1 x25_2).f1) = some r) ∧ Aside0 (kq ≤ k2) ∧ Aside0 (Kd.R (Kd.int .i64) 3 wc w.heap.size (fun _ => True) (.slice Ao41 x5_2.length co41) x5_2) ∧ Aside0 (wc.heap[gb336]? = some (.cells #[.int .i64 ((rd_T42 l1 x25_2).f0), .int .i64 ((rd_T42 l1 x25_2).f1)] 42 (0, 0))) ∧ Aside0 (Below w.heap.size w wc))
            case first =>
             have H := HC38.out
             clear HC38
             by_cases c42 : (wrap64 ((x5_2.length : Int) - 1)) < 1
             ·rw [if_pos c42] at H
              have c42b0 : decide ((wrap64 ((x5_2.length : Int) - 1)) < 1) = true := decide_eq_true c42
              clear c42
              (first | rw [c42b0] | (simp only [i64_w, i32_w]; rw [c42b0]) | skip)
              have H' := Aside0.mk H
              clear H
              try go_wp2
              have n0_ : Aside0 (Kd.R (Kd.int .i64) 3 ((w39.setCell ⟨gb336, 0, none⟩ (.int .i64 ((rd_T42 l1 x25_2).f0))).setCell ⟨gb336, 1, none⟩ (.int .i64 ((rd_T42 l1 x25_2).f1))) w.heap.size (fun _ => True) (.slice Ao41 x5_2.length co41) x5_2) := ⟨by (with_reducible repeat (first | apply Kd.R_alloc | apply Kd.R_drewN | apply Kd.R_drew)); exact Kd.R_mono (Kd.R_far (p := ⟨gb336, 1, none⟩) (Kd.R_far (p := ⟨gb336, 0, none⟩) (Kd.R_types HO_5.out BK336.out (by decide)) (fun _ hk => hk.2) (.int .i64 ((rd_T42 l1 x25_2).f0))) (fun _ hk => hk.2) (.int .i64 ((rd_T42 l1 x25_2).f1))) (fun _ hk => trivial)⟩
              have n1_ : Aside0 (((w39.setCell ⟨gb336, 0, none⟩ (.int .i64 ((rd_T42 l1 x25_2).f0))).setCell ⟨gb336, 1, none⟩ (.int .i64 ((rd_T42 l1 x25_2).f1))).heap[gb336]? = some (.cells #[.int .i64 ((rd_T42 l1 x25_2).f0), .int .i64 ((rd_T42 l1 x25_2).f1)] 42 (0, 0))) := ⟨by (with_reducible repeat (first | refine blk_drewN ?_ _ | refine blk_drew ?_ | refine blk_alloc ?_ _)); refine blk_put (cs := #[.int .i64 ((rd_T42 l1 x25_2).f0), .int .i64 0]) ?_ 1 _ rfl; (with_reducible repeat (first | refine blk_drewN ?_ _ | refine blk_drew ?_ | refine blk_alloc ?_ _)); refine blk_put (cs := #[.int .i64 0, .int .i64 0]) ?_ 0 _ rfl; (with_reducible repeat (first | refine blk_drewN ?_ _ | refine blk_drew ?_ | refine blk_alloc ?_ _)); exact BK336.out⟩
              have n2_ : Aside0 (Below w.heap.size w ((w39.setCell ⟨gb336, 0, none⟩ (.int .i64 ((rd_T42 l1 x25_2).f0))).setCell ⟨gb336, 1, none⟩ (.int .i64 ((rd_T42 l1 x25_2).f1)))) := ⟨by repeat (first | (with_reducible first | exact HB.out | apply below_alloc | apply pw_below_drewN | apply below_drew1 | refine below_set ?_ GE336.out) | exact HB.out)⟩
              (try clear HO_5)
              (try clear BK336)
              (try clear HB)
              generalize ((w39.setCell ⟨gb336, 0, none⟩ (.int .i64 ((rd_T42 l1 x25_2).f0))).setCell ⟨gb336, 1, none⟩ (.int .i64 ((rd_T42 l1 x25_2).f1))) = w43 at n0_ n1_ n2_ ⊢
              have HO_5 := n0_
              have BK336 := n1_
              have HB := n2_
              clear n0_ n1_ n2_
              have n0_ := Aside0.mk (Kd.R_drew HO_5.out)
              have n1_ := Aside0.mk (blk_drew BK336.out)
              have n2_ := Aside0.mk (below_drew1 HB.out)
              clear HO_5
              clear BK336
              clear HB
              have HO_5 := n0_
              have BK336 := n1_
              have HB := n2_
              clear n0_ n1_ n2_
              refine start_ (n := 15) (S := fun w' => True) (ds := []) #[false, false, false, false, false, false, false, false, false, false, false, false, false, false, false] (by kernel_rfl) rfl rfl trivial (fun hHeld => ?_); refine with_tabW impl_TermOk.tab17 impl_TermOk.bits17 (fun HT_ HW_ => ?_)
              generalize w43.drew = w44 at HO_5 BK336 HB hHeld ⊢
              refine pure_ (i := 0) (N := some 55) (v := ?_) (a' := ?_) #[true, false, false, false, false, false, false, false, false, false, false, false, false, false, false] rfl rfl (any_of HT_.out (by kernel_rfl)) (fun _ _ _ h => h) (Or.inl ⟨by rfl, ?_⟩) ?_ ?_
              rotate_left
              ·intro w'
               go_simp
               with_reducible rfl
              rotate_left
              ·simp only [Act.put, List.setIfInBounds_toArray, List.set_cons_zero, List.set_cons_succ, i64_w, i32_w]
               rfl
              refine pure_ (i := 1) (N := some 56) (v := ?_) (a' := ?_) #[true, true, false, false, false, false, false, false, false, false, false, false, false, false, false] rfl rfl (any_of HT_.out (by kernel_rfl)) (fun _ _ _ h => h) (Or.inl ⟨by rfl, ?_⟩) ?_ ?_
              rotate_left
              ·intro w'
               go_simp
               with_reducible rfl
              rotate_left
              ·simp only [Act.put, List.setIfInBounds_toArray, List.set_cons_zero, List.set_cons_succ, i64_w, i32_w]
               rfl
              refine pure_ (i := 2) (N := some 57) (v := ?_) (a' := ?_) #[true, true, true, false, false, false, false, false, false, false, false, false, false, false, false] rfl rfl (any_of HT_.out (by kernel_rfl)) (fun _ _ _ h => h) (Or.inl ⟨by rfl, ?_⟩) ?_ ?_
              rotate_left
              ·intro w'
               go_simp
               with_reducible rfl
              rotate_left
              ·simp only [Act.put, List.setIfInBounds_toArray, List.set_cons_zero, List.set_cons_succ, i64_w, i32_w]
               rfl
              refine pure_ (i := 3) (N := some 58) (v := undef) (a' := ?_) #[true, true, true, true, false, false, false, false, false, false, false, false, false, false, false] rfl rfl (any_of HT_.out (by kernel_rfl)) (fun _ _ _ h => h) (Or.inr ⟨by rfl, rfl⟩) ?_ ?_
              rotate_left
              ·simp only [Act.put, List.setIfInBounds_toArray, List.set_cons_zero, List.set_cons_succ, i64_w, i32_w]
               rfl
              refine pure_ (i := 4) (N := some 59) (v := undef) (a' := ?_) #[true, true, true, true, true, false, false, false, false, false, false, false, false, false, false] rfl rfl (any_of HT_.out (by kernel_rfl)) (fun _ _ _ h => h) (Or.inr ⟨by rfl, rfl⟩) ?_ ?_
              rotate_left
              ·simp only [Act.put, List.setIfInBounds_toArray, List.set_cons_zero, List.set_cons_succ, i64_w, i32_w]
               rfl
              refine pure_ (i := 5) (N := some 60) (v := undef) (a' := ?_) #[true, true, true, true, true, true, false, false, false, false, false, false, false, false, false] rfl rfl (any_of HT_.out (by kernel_rfl)) (fun _ _ _ h => h) (Or.inr ⟨by rfl, rfl⟩) ?_ ?_
              rotate_left
              ·simp only [Act.put, List.setIfInBounds_toArray, List.set_cons_zero, List.set_cons_succ, i64_w, i32_w]
               rfl
              refine pure_ (i := 6) (N := some 61) (v := undef) (a' := ?_) #[true, true, true, true, true, true, true, false, false, false, false, false, false, false, false] rfl rfl (any_of HT_.out (by kernel_rfl)) (fun _ _ _ h => h) (Or.inr ⟨by rfl, rfl⟩) ?_ ?_
              rotate_left
              ·simp only [Act.put, List.setIfInBounds_toArray, List.set_cons_zero, List.set_cons_succ, i64_w, i32_w]
               rfl
              refine pure_ (i := 7) (N := some 62) (v := undef) (a' := ?_) #[true, true, true, true, true, true, true, true, false, false, false, false, false, false, false] rfl rfl (any_of HT_.out (by kernel_rfl)) (fun _ _ _ h => h) (Or.inr ⟨by rfl, rfl⟩) ?_ ?_
              rotate_left
              ·simp only [Act.put, List.setIfInBounds_toArray, List.set_cons_zero, List.set_cons_succ, i64_w, i32_w]
               rfl
              refine pure_ (i := 8) (N := some 63) (v := undef) (a' := ?_) #[true, true, true, true, true, true, true, true, true, false, false, false, false, false, false] rfl rfl (any_of HT_.out (by kernel_rfl)) (fun _ _ _ h => h) (Or.inr ⟨by rfl, rfl⟩) ?_ ?_
              rotate_left
              ·simp only [Act.put, List.setIfInBounds_toArray, List.set_cons_zero, List.set_cons_succ, i64_w, i32_w]
               rfl
              refine pure_ (i := 9) (N := some 64) (v := undef) (a' := ?_) #[true, true, true, true, true, true, true, true, true, true, false, false, false, false, false] rfl rfl (any_of HT_.out (by kernel_rfl)) (fun _ _ _ h => h) (Or.inr ⟨by rfl, rfl⟩) ?_ ?_
              rotate_left
              ·simp only [Act.put, List.setIfInBounds_toArray, List.set_cons_zero, List.set_cons_succ, i64_w, i32_w]
               rfl
              refine pure_ (i := 10) (N := some 65) (v := undef) (a' := ?_) #[true, true, true, true, true, true, true, true, true, true, true, false, false, false, false] rfl rfl (any_of HT_.out (by kernel_rfl)) (fun _ _ _ h => h) (Or.inr ⟨by rfl, rfl⟩) ?_ ?_
              rotate_left
              ·simp only [Act.put, List.setIfInBounds_toArray, List.set_cons_zero, List.set_cons_succ, i64_w, i32_w]
               rfl
              refine pure_ (i := 11) (N := some 66) (v := undef) (a' := ?_) #[true, true, true, true, true, true, true, true, true, true, true, true, false, false, false] rfl rfl (any_of HT_.out (by kernel_rfl)) (fun _ _ _ h => h) (Or.inr ⟨by rfl, rfl⟩) ?_ ?_
              rotate_left
              ·simp only [Act.put, List.setIfInBounds_toArray, List.set_cons_zero, List.set_cons_succ, i64_w, i32_w]
               rfl
              refine pure_ (i := 12) (N := some 67) (v := undef) (a' := ?_) #[true, true, true, true, true, true, true, true, true, true, true, true, true, false, false] rfl rfl (any_of HT_.out (by kernel_rfl)) (fun _ _ _ h => h) (Or.inr ⟨by rfl, rfl⟩) ?_ ?_
              rotate_left
              ·simp only [Act.put, List.setIfInBounds_toArray, List.set_cons_zero, List.set_cons_succ, i64_w, i32_w]
               rfl
              refine pure_ (i := 13) (N := some 68) (v := undef) (a' := ?_) #[true, true, true, true, true, true, true, true, true, true, true, true, true, true, false] rfl rfl (any_of HT_.out (by kernel_rfl)) (fun _ _ _ h => h) (Or.inr ⟨by rfl, rfl⟩) ?_ ?_
              rotate_left
              ·simp only [Act.put, List.setIfInBounds_toArray, List.set_cons_zero, List.set_cons_succ, i64_w, i32_w]
               rfl
              refine pure_ (i := 14) (N := some 69) (v := ?_) (a' := ?_) #[true, true, true, true, true, true, true, true, true, true, true, true, true, true, true] rfl rfl (any_of HT_.out (by kernel_rfl)) (fun _ _ _ h => h) (Or.inl ⟨by rfl, ?_⟩) ?_ ?_
              rotate_left
              ·intro w'
               go_simp
               with_reducible rfl
              rotate_left
              ·simp only [Act.put, List.setIfInBounds_toArray, List.set_cons_zero, List.set_cons_succ, i64_w, i32_w]
               rfl
              refine done_ (done_of HT_.out (by kernel_rfl)) ?_
              try go_wp2
              go_meet
              case rel => exact ⟨_, (true), (by first | rfl | (simp; done) | (simp [*]; done)), H', ⟨by have := HJ2.out; have := HK2.out; first | omega | exact Nat.le_refl _⟩, ⟨by (with_reducible repeat (first | apply Kd.R_alloc | apply Kd.R_drewN | apply Kd.R_drew)); exact HO_5.out⟩, ⟨by (with_reducible repeat (first | refine blk_drewN ?_ _ | refine blk_drew ?_ | refine blk_alloc ?_ _)); exact BK336.out⟩, ⟨by repeat (first | (with_reducible first | exact HB.out | apply below_alloc | apply pw_below_drewN | apply below_drew1 | refine below_set ?_ GE336.out) | exact HB.out)⟩⟩
             ·rw [if_neg c42] at H
              have c42b0 : decide ((wrap64 ((x5_2.length : Int) - 1)) < 1) = false := decide_eq_false c42
              clear c42
              (first | rw [c42b0] | (simp only [i64_w, i32_w]; rw [c42b0]) | skip)
              obtain ⟨ji45, hji45⟩ : ∃ j_ : Int, (wrap64 ((wrap64 ((x5_2.length : Int) - 1)) - 1)) = j_ := ⟨_, rfl⟩
              replace H : (if 0 ≤ (ji45) then (if (ji45) < (x5_2.length : Int) then (if 0 ≤ (wrap64 ((x5_2.length : Int) - 1)) then (if (wrap64 ((x5_2.length : Int) - 1)) < (x5_2.length : Int) then (impl_TermOk.j3 k2 a0 x5_2 (wrap64 ((x5_2.length : Int) - 1)) l1 (l1.length : Int) x25_2 (decide ((wrap64 ((rd x5_2 (ji45)) + (rd x5_2 (wrap64 ((x5_2.length : Int) - 1))))) > 6)) ((rd_T42 l1 x25_2).f0) ((rd_T42 l1 x25_2).f1)) else (none)) else (none)) else (none)) else (none)) = some r := by first | (rw [hji45] at H; exact H) | (simp only [hji45] at H ⊢; exact H)
              have hji45w : (IntKind.i64.wrap ((wrap64 ((x5_2.length : Int) - 1)) - 1)) = ji45 := (i64_w _).trans hji45
              by_cases c46 : 0 ≤ (ji45)
              ·rw [if_pos c46] at H
               have c46b0 : decide (0 ≤ (ji45)) = true := decide_eq_true c46
               clear c46
               by_cases c47 : (ji45) < (x5_2.length : Int)
               ·rw [if_pos c47] at H
                have c47b0 : decide ((ji45) < (x5_2.length : Int)) = true := decide_eq_true c47
                clear c47
                obtain ⟨ji48, hji48⟩ : ∃ j_ : Int, (wrap64 ((x5_2.length : Int) - 1)) = j_ := ⟨_, rfl⟩
                have hji45_ji48 : (wrap64 (ji48 - 1)) = ji45 := by rw [← hji48]; exact hji45
                have hji45_ji48w : (IntKind.i64.wrap (ji48 - 1)) = ji45 := (i64_w _).trans hji45_ji48
                replace H : (if 0 ≤ (ji48) then (if (ji48) < (x5_2.length : Int) then (impl_TermOk.j3 k2 a0 x5_2 ji48 l1 (l1.length : Int) x25_2 (decide ((wrap64 ((rd x5_2 (ji45)) + (rd x5_2 (ji48)))) > 6)) ((rd_T42 l1 x25_2).f0) ((rd_T42 l1 x25_2).f1)) else (none)) else (none)) = some r := by first | (rw [hji48] at H; exact H) | (simp only [hji48] at H ⊢; exact H)
                (try rw [hji48] at c42b0)
                have hji48w : (IntKind.i64.wrap ((x5_2.length : Int) - 1)) = ji48 := (i64_w _).trans hji48
                by_cases c49 : 0 ≤ (ji48)
                ·rw [if_pos c49] at H
                 have c49b0 : decide (0 ≤ (ji48)) = true := decide_eq_true c49
                 clear c49
                 by_cases c50 : (ji48) < (x5_2.length : Int)
                 ·rw [if_pos c50] at H
                  have c50b0 : decide ((ji48) < (x5_2.length : Int)) = true := decide_eq_true c50
                  clear c50
                  have H' := Aside0.mk H
                  clear H
                  try go_wp2
                  have n0_ : Aside0 (Kd.R (Kd.int .i64) 3 ((w39.setCell ⟨gb336, 0, none⟩ (.int .i64 ((rd_T42 l1 x25_2).f0))).setCell ⟨gb336, 1, none⟩ (.int .i64 ((rd_T42 l1 x25_2).f1))) w.heap.size (fun _ => True) (.slice Ao41 x5_2.length co41) x5_2) := ⟨by (with_reducible repeat (first | apply Kd.R_alloc | apply Kd.R_drewN | apply Kd.R_drew)); exact Kd.R_mono (Kd.R_far (p := ⟨gb336, 1, none⟩) (Kd.R_far (p := ⟨gb336, 0, none⟩) (Kd.R_types HO_5.out BK336.out (by decide)) (fun _ hk => hk.2) (.int .i64 ((rd_T42 l1 x25_2).f0))) (fun _ hk => hk.2) (.int .i64 ((rd_T42 l1 x25_2).f1))) (fun _ hk => trivial)⟩
                  have n1_ : Aside0 (((w39.setCell ⟨gb336, 0, none⟩ (.int .i64 ((rd_T42 l1 x25_2).f0))).setCell ⟨gb336, 1, none⟩ (.int .i64 ((rd_T42 l1 x25_2).f1))).heap[gb336]? = some (.cells #[.int .i64 ((rd_T42 l1 x25_2).f0), .int .i64 ((rd_T42 l1 x25_2).f1)] 42 (0, 0))) := ⟨by (with_reducible repeat (first | refine blk_drewN ?_ _ | refine blk_drew ?_ | refine blk_alloc ?_ _)); refine blk_put (cs := #[.int .i64 ((rd_T42 l1 x25_2).f0), .int .i64 0]) ?_ 1 _ rfl; (with_reducible repeat (first | refine blk_drewN ?_ _ | refine blk_drew ?_ | refine blk_alloc ?_ _)); refine blk_put (cs := #[.int .i64 0, .int .i64 0]) ?_ 0 _ rfl; (with_reducible repeat (first | refine blk_drewN ?_ _ | refine blk_drew ?_ | refine blk_alloc ?_ _)); exact BK336.out⟩
                  have n2_ : Aside0 (Below w.heap.size w ((w39.setCell ⟨gb336, 0, none⟩ (.int .i64 ((rd_T42 l1 x25_2).f0))).setCell ⟨gb336, 1, none⟩ (.int .i64 ((rd_T42 l1 x25_2).f1)))) := ⟨by repeat (first | (with_reducible first | exact HB.out | apply below_alloc | apply pw_below_drewN | apply below_drew1 | refine below_set ?_ GE336.out) | exact HB.out)⟩
                  (try clear HO_5)
                  (try clear BK336)
                  (try clear HB)
                  generalize ((w39.setCell ⟨gb336, 0, none⟩ (.int .i64 ((rd_T42 l1 x25_2).f0))).setCell ⟨gb336, 1, none⟩ (.int .i64 ((rd_T42 l1 x25_2).f1))) = w51 at n0_ n1_ n2_ ⊢
                  have HO_5 := n0_
                  have BK336 := n1_
                  have HB := n2_
                  clear n0_ n1_ n2_
                  have n0_ := Aside0.mk (Kd.R_drew HO_5.out)
                  have n1_ := Aside0.mk (blk_drew BK336.out)
                  have n2_ := Aside0.mk (below_drew1 HB.out)
                  clear HO_5
                  clear BK336
                  clear HB
                  have HO_5 := n0_
                  have BK336 := n1_
                  have HB := n2_
                  clear n0_ n1_ n2_
                  have p343 : 0 ≤ ((ji45) : Int) := of_decide_eq_true (by assumption)
                  have q343 : (ji45) < (x5_2.length : Int) := of_decide_eq_true (by assumption)
                  obtain ⟨ad343, e343, hx343_0⟩ := Kd.at_int (Kd.R_reads' HO_5.out).2.2 (ji45) p343 q343
                  cases e343
                  replace p343 := eq_true p343
                  replace q343 := eq_true q343
                  have p344 : 0 ≤ ((ji48) : Int) := of_decide_eq_true (by assumption)
                  have q344 : (ji48) < (x5_2.length : Int) := of_decide_eq_true (by assumption)
                  obtain ⟨ad344, e344, hx344_0⟩ := Kd.at_int (Kd.R_reads' HO_5.out).2.2 (ji48) p344 q344
                  obtain rfl : ad343 = ad344 := (by injection e344)
                  replace p344 := eq_true p344
                  replace q344 := eq_true q344
                  refine start_ (n := 15) (S := fun w' => w'.cell? (ad343.add ((ji45)).toNat) = some (.int .i64 (rd x5_2 (ji45))) ∧ w'.cell? (ad343.add ((ji48)).toNat) = some (.int .i64 (rd x5_2 (ji48)))) (ds := []) #[false, false, false, false, false, false, false, false, false, false, false, false, false, false, false] (by kernel_rfl) rfl rfl ⟨hx343_0, hx344_0⟩ (fun hHeld => ?_); refine with_tabW impl_TermOk.tab17 impl_TermOk.bits17 (fun HT_ HW_ => ?_)
                  generalize w51.drew = w52 at HO_5 BK336 HB hx343_0 hx344_0 hHeld ⊢
                  refine pure_ (i := 0) (N := some 55) (v := ?_) (a' := ?_) #[true, false, false, false, false, false, false, false, false, false, false, false, false, false, false] rfl rfl (any_of HT_.out (by kernel_rfl)) (fun _ _ _ h => h) (Or.inl ⟨by rfl, ?_⟩) ?_ ?_
                  rotate_left
                  ·intro w'
                   go_simp
                   with_reducible rfl
                  rotate_left
                  ·simp only [Act.put, List.setIfInBounds_toArray, List.set_cons_zero, List.set_cons_succ, i64_w, i32_w]
                   rfl
                  refine pure_ (i := 1) (N := some 56) (v := ?_) (a' := ?_) #[true, true, false, false, false, false, false, false, false, false, false, false, false, false, false] rfl rfl (any_of HT_.out (by kernel_rfl)) (fun _ _ _ h => h) (Or.inl ⟨by rfl, ?_⟩) ?_ ?_
                  rotate_left
                  ·intro w'
                   go_simp
                   with_reducible rfl
                  rotate_left
                  ·simp only [Act.put, List.setIfInBounds_toArray, List.set_cons_zero, List.set_cons_succ, i64_w, i32_w]
                   rfl
                  refine pure_ (i := 2) (N := some 57) (v := ?_) (a' := ?_) #[true, true, true, false, false, false, false, false, false, false, false, false, false, false, false] rfl rfl (any_of HT_.out (by kernel_rfl)) (fun _ _ _ h => h) (Or.inl ⟨by rfl, ?_⟩) ?_ ?_
                  rotate_left
                  ·intro w'
                   go_simp
                   with_reducible rfl
                  rotate_left
                  ·simp only [Act.put, List.setIfInBounds_toArray, List.set_cons_zero, List.set_cons_succ, i64_w, i32_w]
                   rfl
                  refine pure_ (i := 3) (N := some 58) (v := ?_) (a' := ?_) #[true, true, true, true, false, false, false, false, false, false, false, false, false, false, false] rfl rfl (any_of HT_.out (by kernel_rfl)) (fun _ _ _ h => h) (Or.inl ⟨by rfl, ?_⟩) ?_ ?_
                  rotate_left
                  ·intro w'
                   go_simp
                   with_reducible rfl
                  rotate_left
                  ·simp only [Act.put, List.setIfInBounds_toArray, List.set_cons_zero, List.set_cons_succ, i64_w, i32_w]
                   rfl
                  refine pure_ (i := 4) (N := some 59) (v := ?_) (a' := ?_) #[true, true, true, true, true, false, false, false, false, false, false, false, false, false, false] rfl rfl (any_of HT_.out (by kernel_rfl)) (fun _ _ _ h => h) (Or.inl ⟨by rfl, ?_⟩) ?_ ?_
                  rotate_left
                  ·intro w'
                   go_simp
                   with_reducible rfl
                  rotate_left
                  ·simp only [Act.put, List.setIfInBounds_toArray, List.set_cons_zero, List.set_cons_succ, i64_w, i32_w]
                   rfl
                  refine pure_ (i := 5) (N := some 60) (v := ?_) (a' := ?_) #[true, true, true, true, true, true, false, false, false, false, false, false, false, false, false] rfl rfl (any_of HT_.out (by kernel_rfl)) (fun _ _ _ h => h) (Or.inl ⟨by rfl, ?_⟩) ?_ ?_
                  rotate_left
                  ·intro w'
                   go_simp
                   with_reducible rfl
                  rotate_left
                  ·simp only [Act.put, List.setIfInBounds_toArray, List.set_cons_zero, List.set_cons_succ, i64_w, i32_w]
                   rfl
                  refine pure_ (i := 6) (N := some 61) (v := ?_) (a' := ?_) #[true, true, true, true, true, true, true, false, false, false, false, false, false, false, false] rfl rfl (any_of HT_.out (by kernel_rfl)) (fun _ _ _ h => h) (Or.inl ⟨by rfl, ?_⟩) ?_ ?_
                  rotate_left
                  ·intro w'
                   go_simp
                   with_reducible rfl
                  rotate_left
                  ·simp only [Act.put, List.setIfInBounds_toArray, List.set_cons_zero, List.set_cons_succ, i64_w, i32_w]
                   rfl
                  refine pure_ (i := 8) (N := some 63) (v := ?_) (a' := ?_) #[true, true, true, true, true, true, true, false, true, false, false, false, false, false, false] rfl rfl (any_of HT_.out (by kernel_rfl)) (fun _ _ _ h => h) (Or.inl ⟨by rfl, ?_⟩) ?_ ?_
                  rotate_left
                  ·intro w'
                   go_simp
                   with_reducible rfl
                  rotate_left
                  ·simp only [Act.put, List.setIfInBounds_toArray, List.set_cons_zero, List.set_cons_succ, i64_w, i32_w]
                   rfl
                  refine pure_ (i := 9) (N := some 64) (v := ?_) (a' := ?_) #[true, true, true, true, true, true, true, false, true, true, false, false, false, false, false] rfl rfl (any_of HT_.out (by kernel_rfl)) (fun _ _ _ h => h) (Or.inl ⟨by rfl, ?_⟩) ?_ ?_
                  rotate_left
                  ·intro w'
                   go_simp
                   with_reducible rfl
                  rotate_left
                  ·simp only [Act.put, List.setIfInBounds_toArray, List.set_cons_zero, List.set_cons_succ, i64_w, i32_w]
                   rfl
                  refine pure_ (i := 10) (N := some 65) (v := ?_) (a' := ?_) #[true, true, true, true, true, true, true, false, true, true, true, false, false, false, false] rfl rfl (any_of HT_.out (by kernel_rfl)) (fun _ _ _ h => h) (Or.inl ⟨by rfl, ?_⟩) ?_ ?_
                  rotate_left
                  ·intro w'
                   go_simp
                   with_reducible rfl
                  rotate_left
                  ·simp only [Act.put, List.setIfInBounds_toArray, List.set_cons_zero, List.set_cons_succ, i64_w, i32_w]
                   rfl
                  refine take_ (i := 7) (N := some 62) (v := ?_) (a' := ?_) #[true, true, true, true, true, true, true, true, true, true, true, false, false, false, false] rfl rfl (take_ofW HT_.out HW_.out (by kernel_rfl)) (fun _ _ _ h => h) (Or.inl ⟨by rfl, ?_⟩) hHeld ?_ ?_
                  rotate_left
                  ·rintro w' ⟨s0, s1⟩
                   go_simp
                   with_reducible rfl
                  rotate_left
                  ·simp only [Act.put, List.setIfInBounds_toArray, List.set_cons_zero, List.set_cons_succ, i64_w, i32_w]
                   rfl
                  refine take_ (i := 11) (N := some 66) (v := ?_) (a' := ?_) #[true, true, true, true, true, true, true, true, true, true, true, true, false, false, false] rfl rfl (take_ofW HT_.out HW_.out (by kernel_rfl)) (fun _ _ _ h => h) (Or.inl ⟨by rfl, ?_⟩) hHeld ?_ ?_
                  rotate_left
                  ·rintro w' ⟨s0, s1⟩
                   go_simp
                   with_reducible rfl
                  rotate_left
                  ·simp only [Act.put, List.setIfInBounds_toArray, List.set_cons_zero, List.set_cons_succ, i64_w, i32_w]
                   rfl
                  refine pure_ (i := 12) (N := some 67) (v := ?_) (a' := ?_) #[true, true, true, true, true, true, true, true, true, true, true, true, true, false, false] rfl rfl (any_of HT_.out (by kernel_rfl)) (fun _ _ _ h => h) (Or.inl ⟨by rfl, ?_⟩) ?_ ?_
                  rotate_left
                  ·intro w'
                   go_simp
                   with_reducible rfl
                  rotate_left
                  ·simp only [Act.put, List.setIfInBounds_toArray, List.set_cons_zero, List.set_cons_succ, i64_w, i32_w]
                   rfl
                  refine pure_ (i := 13) (N := some 68) (v := ?_) (a' := ?_) #[true, true, true, true, true, true, true, true, true, true, true, true, true, true, false] rfl rfl (any_of HT_.out (by kernel_rfl)) (fun _ _ _ h => h) (Or.inl ⟨by rfl, ?_⟩) ?_ ?_
                  rotate_left
                  ·intro w'
                   go_simp
                   with_reducible rfl
                  rotate_left
                  ·simp only [Act.put, List.setIfInBounds_toArray, List.set_cons_zero, List.set_cons_succ, i64_w, i32_w]
                   rfl
                  refine pure_ (i := 14) (N := some 69) (v := ?_) (a' := ?_) #[true, true, true, true, true, true, true, true, true, true, true, true, true, true, true] rfl rfl (any_of HT_.out (by kernel_rfl)) (fun _ _ _ h => h) (Or.inl ⟨by rfl, ?_⟩) ?_ ?_
                  rotate_left
                  ·intro w'
                   go_simp
                   with_reducible rfl
                  rotate_left
                  ·simp only [Act.put, List.setIfInBounds_toArray, List.set_cons_zero, List.set_cons_succ, i64_w, i32_w]
                   rfl
                  refine done_ (done_of HT_.out (by kernel_rfl)) ?_
                  try go_wp2
                  (try simp only [← hji48])
                  go_meet
                  case rel => exact ⟨_, (decide ((wrap64 ((rd x5_2 (ji45)) + (rd x5_2 (ji48)))) > 6)), (by first | rfl | (simp; done) | (simp only [← hji45, ← hji48] <;> (first | rfl | simp)) | (simp [*]; done)), (by first | exact H' | (rw [hji48]; exact H')), ⟨by have := HJ2.out; have := HK2.out; first | omega | exact Nat.le_refl _⟩, ⟨by (with_reducible repeat (first | apply Kd.R_alloc | apply Kd.R_drewN | apply Kd.R_drew)); exact HO_5.out⟩, ⟨by (with_reducible repeat (first | refine blk_drewN ?_ _ | refine blk_drew ?_ | refine blk_alloc ?_ _)); exact BK336.out⟩, ⟨by repeat (first | (with_reducible first | exact HB.out | apply below_alloc | apply pw_below_drewN | apply below_drew1 | refine below_set ?_ GE336.out) | exact HB.out)⟩⟩
                 ·rw [if_neg c50] at H
                  exact absurd H (by simp)
                ·rw [if_neg c49] at H
                 exact absurd H (by simp)
               ·rw [if_neg c47] at H
                exact absurd H (by simp)
              ·rw [if_neg c46] at H
               exact absurd H (by simp)
            case rest =>
             clear HC38
             try clear c1
             try clear c2
             try clear p2
             try clear c3
             try clear p3
             try clear q3
             try clear hx3
             try clear c4
             try clear c5
             try clear c6
             try clear c6b0
             try clear c6b1
             try clear p6
             try clear c7
             try clear c10
             try clear c10b0
             try clear c11
             try clear c11b0
             try clear c12
             try clear c12b0
             try clear c13
             try clear c13b0
             try clear c13b1
             try clear c18
             try clear c18b0
             try clear c21
             try clear c22
             try clear c24
             try clear c24b0
             try clear c24b1
             try clear c25
             try clear c26
             try clear c26b0
             try clear c26b1
             try clear p33
             try clear q33
             try clear hx33
             try clear p34
             try clear q34
             try clear hx34
             try clear c37
             try clear c37b0
             try clear c37b1
             try clear c42
             try clear c42b0
             try clear c46
             try clear c46b0
             try clear c47
             try clear c47b0
             try clear c49
             try clear c49b0
             try clear c50
             try clear c50b0
             try clear hcz16_0
             try clear hcz16_1
             try clear hcz19_0
             try clear hcz19_1
             try clear hcz20_0
             try clear hcz20_1
             try clear hcz28_0
             try clear hcz28_1
             try clear hcz31_0
             try clear hcz31_1
             try clear hcz33_0
             try clear hcz33_1
             try clear hcz36_0
             try clear hcz36_1
             try clear hcz40_0
             try clear hcz40_1
             try clear hfz16_0
             try clear hfz16_1
             try clear hfz19_0
             try clear hfz19_1
             try clear hfz20_0
             try clear hfz20_1
             try clear hfz28_0
             try clear hfz28_1
             try clear hfz31_0
             try clear hfz31_1
             try clear hfz33_0
             try clear hfz33_1
             try clear hfz36_0
             try clear hfz36_1
             try clear hfz40_0
             try clear hfz40_1
             try clear hx335_0
             try clear hx335_1
             try clear hx343_0
             try clear hx344_0
             try clear p2
             try clear p3
             try clear p335
             try clear p343
             try clear p344
             try clear q3
             try clear q335
             try clear q343
             try clear q344
             obtain ⟨kq, x69_37, rfl, HA, HJ37, HO_5, BK336, HB⟩ := hcut
             cases kq with
             | zero => exact absurd HA.out (by simp [impl_TermOk.j3])
             | succ kj37 =>
              have H := HA.out
              clear HA
              simp only [impl_TermOk.j3] at H
              by_cases c53 : x69_37 = true
              ·subst c53
               have H1 : (some false) = some r := by rw [if_pos rfl] at H; exact H
               clear H
               have H := H1
               clear H1
               obtain rfl := Option.some.inj H
               go_wp2
               go_ret
               exact ⟨by first | rfl | (simp [errW_none, errW_some] <;> rfl) | (simp [*, errW_none, errW_some] <;> rfl), by repeat (first | (with_reducible first | exact HB.out | apply below_alloc | apply pw_below_drewN | apply below_drew1 | refine below_set ?_ GE336.out) | exact HB.out)⟩
              ·replace c53 := Bool.eq_false_iff.mpr c53
               subst c53
               have H1 : (if 0 ≤ (wrap64 ((wrap64 ((x5_2.length : Int) - 1)) - 1)) then (if (wrap64 ((wrap64 ((x5_2.length : Int) - 1)) - 1)) < (x5_2.length : Int) then (if 0 ≤ (wrap64 ((x5_2.length : Int) - 1)) then (if (wrap64 ((x5_2.length : Int) - 1)) < (x5_2.length : Int) then (if (wrap64 ((x5_2.length : Int) - 1)) ≤ (x5_2.length : Int) then (if ((rd_T42 l1 x25_2).f1) = 0 then (impl_TermOk.l0 kj37 a0 ((x5_2.set ((wrap64 ((wrap64 ((x5_2.length : Int) - 1)) - 1)) : Int).toNat (wrap64 ((rd x5_2 (wrap64 ((wrap64 ((x5_2.length : Int) - 1)) - 1))) + (rd x5_2 (wrap64 ((x5_2.length : Int) - 1)))))).take ((wrap64 ((x5_2.length : Int) - 1)) : Int).toNat) l1 (l1.length : Int) (wrap64 (x25_2 + 1))) else (some false)) else (none)) else (none)) else (none)) else (none)) else (none)) = some r := by rw [if_neg (show ¬ (false = true) by decide)] at H; exact H
               clear H
               have H := H1
               clear H1
               obtain ⟨ji54, hji54⟩ : ∃ j_ : Int, (wrap64 ((wrap64 ((x5_2.length : Int) - 1)) - 1)) = j_ := ⟨_, rfl⟩
               replace H : (if 0 ≤ (ji54) then (if (ji54) < (x5_2.length : Int) then (if 0 ≤ (wrap64 ((x5_2.length : Int) - 1)) then (if (wrap64 ((x5_2.length : Int) - 1)) < (x5_2.length : Int) then (if (wrap64 ((x5_2.length : Int) - 1)) ≤ (x5_2.length : Int) then (if ((rd_T42 l1 x25_2).f1) = 0 then (impl_TermOk.l0 kj37 a0 ((x5_2.set ((ji54) : Int).toNat (wrap64 ((rd x5_2 (ji54)) + (rd x5_2 (wrap64 ((x5_2.length : Int) - 1)))))).take ((wrap64 ((x5_2.length : Int) - 1)) : Int).toNat) l1 (l1.length : Int) (wrap64 (x25_2 + 1))) else (some false)) else (none)) else (none)) else (none)) else (none)) else (none)) = some r := by first | (rw [hji54] at H; exact H) | (simp only [hji54] at H ⊢; exact H)
               have hji54w : (IntKind.i64.wrap ((wrap64 ((x5_2.length : Int) - 1)) - 1)) = ji54 := (i64_w _).trans hji54
               by_cases c55 : 0 ≤ (ji54)
               ·rw [if_pos c55] at H
                have c55b0 : decide (0 ≤ (ji54)) = true := decide_eq_true c55
                clear c55
                by_cases c56 : (ji54) < (x5_2.length : Int)
                ·rw [if_pos c56] at H
                 have c56b0 : decide ((ji54) < (x5_2.length : Int)) = true := decide_eq_true c56
                 clear c56
                 obtain ⟨ji57, hji57⟩ : ∃ j_ : Int, (wrap64 ((x5_2.length : Int) - 1)) = j_ := ⟨_, rfl⟩
                 have hji54_ji57 : (wrap64 (ji57 - 1)) = ji54 := by rw [← hji57]; exact hji54
                 have hji54_ji57w : (IntKind.i64.wrap (ji57 - 1)) = ji54 := (i64_w _).trans hji54_ji57
                 replace H : (if 0 ≤ (ji57) then (if (ji57) < (x5_2.length : Int) then (if (ji57) ≤ (x5_2.length : Int) then (if ((rd_T42 l1 x25_2).f1) = 0 then (impl_TermOk.l0 kj37 a0 ((x5_2.set ((ji54) : Int).toNat (wrap64 ((rd x5_2 (ji54)) + (rd x5_2 (ji57))))).take ((ji57) : Int).toNat) l1 (l1.length : Int) (wrap64 (x25_2 + 1))) else (some false)) else (none)) else (none)) else (none)) = some r := by first | (rw [hji57] at H; exact H) | (simp only [hji57] at H ⊢; exact H)
                 have hji57w : (IntKind.i64.wrap ((x5_2.length : Int) - 1)) = ji57 := (i64_w _).trans hji57
                 by_cases c58 : 0 ≤ (ji57)
                 ·rw [if_pos c58] at H
                  have c58b0 : decide (0 ≤ (ji57)) = true := decide_eq_true c58
                  clear c58
                  by_cases c59 : (ji57) < (x5_2.length : Int)
                  ·rw [if_pos c59] at H
                   have c59b0 : decide ((ji57) < (x5_2.length : Int)) = true := decide_eq_true c59
                   clear c59
                   obtain ⟨y347, hy347⟩ : ∃ y_ : List Int, y_ = (x5_2.set ((ji54) : Int).toNat (wrap64 ((rd x5_2 (ji54)) + (rd x5_2 (ji57))))) := ⟨_, rfl⟩
                   replace H : (if (ji57) ≤ (x5_2.length : Int) then (if ((rd_T42 l1 x25_2).f1) = 0 then (impl_TermOk.l0 kj37 a0 (y347.take ((ji57) : Int).toNat) l1 (l1.length : Int) (wrap64 (x25_2 + 1))) else (some false)) else (none)) = some r := by first | (rw [hy347]; with_reducible exact H) | (have H2_ := (Option.bind_some _ _).symm.trans H; rw [hy347]; with_reducible exact H2_) | (have H2_ := (Option.bind_some _ _).symm.trans H; with_reducible exact H2_) | with_reducible exact H | (rw [hy347]; exact H) | exact H
                   have Ny347 := Aside0.mk hy347
                   have hyly347 := Aside0.mk (show y347.length = x5_2.length by rw [hy347]; exact List.length_set)
                   clear hy347
                   by_cases c61 : (ji57) ≤ (x5_2.length : Int)
                   ·rw [if_pos c61] at H
                    have c61b0 := eq_true c61
                    have c61b1 : decide ((ji57) ≤ (x5_2.length : Int)) = true := decide_eq_true c61
                    clear c61
                    obtain ⟨y348, hy348⟩ : ∃ y_ : List Int, y_ = (y347.take ((ji57) : Int).toNat) := ⟨_, rfl⟩
                    replace H : (if ((rd_T42 l1 x25_2).f1) = 0 then (impl_TermOk.l0 kj37 a0 y348 l1 (l1.length : Int) (wrap64 (x25_2 + 1))) else (some false)) = some r := by first | (rw [hy348]; with_reducible exact H) | (have H2_ := (Option.bind_some _ _).symm.trans H; rw [hy348]; with_reducible exact H2_) | (have H2_ := (Option.bind_some _ _).symm.trans H; with_reducible exact H2_) | with_reducible exact H | (rw [hy348]; exact H) | exact H
                    have Ny348 := Aside0.mk hy348
                    clear hy348
                    by_cases c62 : ((rd_T42 l1 x25_2).f1) = 0
                    ·rw [if_pos c62] at H
                     have c62b0 : (((rd_T42 l1 x25_2).f1) == 0) = true := beq_iff_eq.mpr c62
                     have c62b1 : (((rd_T42 l1 x25_2).f1) != 0) = false := bne_eq_false_iff_eq.mpr c62
                     clear c62
                     have H' := Aside0.mk H
                     clear H
                     try go_wp2
                     have n0_ := Aside0.mk (Kd.R_drew HO_5.out)
                     have n1_ := Aside0.mk (blk_drew BK336.out)
                     have n2_ := Aside0.mk (below_drew1 HB.out)
                     clear HO_5
                     clear BK336
                     clear HB
                     have HO_5 := n0_
                     have BK336 := n1_
                     have HB := n2_
                     clear n0_ n1_ n2_
                     have p345 : 0 ≤ ((ji54) : Int) := of_decide_eq_true (by assumption)
                     have q345 : (ji54) < (x5_2.length : Int) := of_decide_eq_true (by assumption)
                     obtain ⟨ad345, e345, hx345_0⟩ := Kd.at_int (Kd.R_reads' HO_5.out).2.2 (ji54) p345 q345
                     cases e345
                     replace p345 := eq_true p345
                     replace q345 := eq_true q345
                     have p346 : 0 ≤ ((ji57) : Int) := of_decide_eq_true (by assumption)
                     have q346 : (ji57) < (x5_2.length : Int) := of_decide_eq_true (by assumption)
                     obtain ⟨ad346, e346, hx346_0⟩ := Kd.at_int (Kd.R_reads' HO_5.out).2.2 (ji57) p346 q346
                     obtain rfl : ad345 = ad346 := (by injection e346)
                     replace p346 := eq_true p346
                     replace q346 := eq_true q346
                     have p60 : 0 ≤ ((ji54) : Int) := of_decide_eq_true (by assumption)
                     have q60 : ((ji54) : Int) < ((x5_2.length : Int) : Int) := of_decide_eq_true (by assumption)
                     obtain ⟨go60, co60, eo60, gb60, gl60, cl60, HG60⟩ := Kd.R_form HO_5.out (by omega)
                     (first | cases eo60 | (injection eo60 with ea_ en_ ec_; (first | subst ea_ | (injection ea_ with ea_; subst ea_)); subst ec_; clear en_))
                     have GB60 := Aside0.mk gb60
                     have GG60 := Aside0.mk HG60
                     clear gb60 gl60 HG60
                     (first | simp only [add_plain] at hx345_0 | skip)
                     (first | simp only [add_plain] at hx346_0 | skip)
                     obtain ⟨hx60_0, hf60_0⟩ := Kd.R_celln 0 HO_5.out ((ji54) : Int) p60 q60
                     replace p60 := eq_true p60
                     replace q60 := eq_true q60
                     have HP64 := Kd.R_putn HO_5.out ((ji54) : Int) (wrap64 ((rd x5_2 (ji54)) + (rd x5_2 (ji57))))
                     rw [← Ny347.out] at HP64
                     have HQ64 := Aside0.mk HP64
                     clear HP64
                     refine start_ (n := 12) (S := fun w' => w'.cell? ⟨go60, ((ji54)).toNat, none⟩ = some (.int .i64 (rd x5_2 (ji54))) ∧ w'.cell? ⟨go60, ((ji57)).toNat, none⟩ = some (.int .i64 (rd x5_2 (ji57)))) (ds := [11]) #[false, false, false, false, false, false, false, false, false, false, false, false] (by kernel_rfl) rfl rfl ⟨hx345_0, hx346_0⟩ (fun hHeld => ?_); refine with_tabW impl_TermOk.tab19 impl_TermOk.bits19 (fun HT_ HW_ => ?_)
                     generalize wc.drew = w63 at HO_5 BK336 HB GG60 HQ64 hf60_0 hx345_0 hx346_0 hx60_0 hHeld ⊢
                     refine pure_ (i := 0) (N := some 70) (v := ?_) (a' := ?_) #[true, false, false, false, false, false, false, false, false, false, false, false] rfl rfl (any_of HT_.out (by kernel_rfl)) (fun _ _ _ h => h) (Or.inl ⟨by rfl, ?_⟩) ?_ ?_
                     rotate_left
                     ·intro w'
                      go_simp
                      with_reducible rfl
                     rotate_left
                     ·simp only [Act.put, List.setIfInBounds_toArray, List.set_cons_zero, List.set_cons_succ, i64_w, i32_w]
                      rfl
                     refine pure_ (i := 1) (N := some 71) (v := ?_) (a' := ?_) #[true, true, false, false, false, false, false, false, false, false, false, false] rfl rfl (any_of HT_.out (by kernel_rfl)) (fun _ _ _ h => h) (Or.inl ⟨by rfl, ?_⟩) ?_ ?_
                     rotate_left
                     ·intro w'
                      go_simp
                      with_reducible rfl
                     rotate_left
                     ·simp only [Act.put, List.setIfInBounds_toArray, List.set_cons_zero, List.set_cons_succ, i64_w, i32_w]
                      rfl
                     refine pure_ (i := 2) (N := some 72) (v := ?_) (a' := ?_) #[true, true, true, false, false, false, false, false, false, false, false, false] rfl rfl (any_of HT_.out (by kernel_rfl)) (fun _ _ _ h => h) (Or.inl ⟨by rfl, ?_⟩) ?_ ?_
                     rotate_left
                     ·intro w'
                      go_simp
                      with_reducible rfl
                     rotate_left
                     ·simp only [Act.put, List.setIfInBounds_toArray, List.set_cons_zero, List.set_cons_succ, i64_w, i32_w]
                      rfl
                     refine pure_ (i := 3) (N := some 73) (v := ?_) (a' := ?_) #[true, true, true, true, false, false, false, false, false, false, false, false] rfl rfl (any_of HT_.out (by kernel_rfl)) (fun _ _ _ h => h) (Or.inl ⟨by rfl, ?_⟩) ?_ ?_
                     rotate_left
                     ·intro w'
                      go_simp
                      with_reducible rfl
                     rotate_left
                     ·simp only [Act.put, List.setIfInBounds_toArray, List.set_cons_zero, List.set_cons_succ, i64_w, i32_w]
                      rfl
                     refine pure_ (i := 5) (N := some 75) (v := ?_) (a' := ?_) #[true, true, true, true, false, true, false, false, false, false, false, false] rfl rfl (any_of HT_.out (by kernel_rfl)) (fun _ _ _ h => h) (Or.inl ⟨by rfl, ?_⟩) ?_ ?_
                     rotate_left
                     ·intro w'
                      go_simp
                      with_reducible rfl
                     rotate_left
                     ·simp only [Act.put, List.setIfInBounds_toArray, List.set_cons_zero, List.set_cons_succ, i64_w, i32_w]
                      rfl
                     refine pure_ (i := 6) (N := some 76) (v := ?_) (a' := ?_) #[true, true, true, true, false, true, true, false, false, false, false, false] rfl rfl (any_of HT_.out (by kernel_rfl)) (fun _ _ _ h => h) (Or.inl ⟨by rfl, ?_⟩) ?_ ?_
                     rotate_left
                     ·intro w'
                      go_simp
                      with_reducible rfl
                     rotate_left
                     ·simp only [Act.put, List.setIfInBounds_toArray, List.set_cons_zero, List.set_cons_succ, i64_w, i32_w]
                      rfl
                     refine pure_ (i := 7) (N := some 77) (v := ?_) (a' := ?_) #[true, true, true, true, false, true, true, true, false, false, false, false] rfl rfl (any_of HT_.out (by kernel_rfl)) (fun _ _ _ h => h) (Or.inl ⟨by rfl, ?_⟩) ?_ ?_
                     rotate_left
                     ·intro w'
                      go_simp
                      with_reducible rfl
                     rotate_left
                     ·simp only [Act.put, List.setIfInBounds_toArray, List.set_cons_zero, List.set_cons_succ, i64_w, i32_w]
                      rfl
                     refine take_ (i := 4) (N := some 74) (v := ?_) (a' := ?_) #[true, true, true, true, true, true, true, true, false, false, false, false] rfl rfl (take_ofW HT_.out HW_.out (by kernel_rfl)) (fun _ _ _ h => h) (Or.inl ⟨by rfl, ?_⟩) hHeld ?_ ?_
                     rotate_left
                     ·rintro w' ⟨s0, s1⟩
                      go_simp
                      with_reducible rfl
                     rotate_left
                     ·simp only [Act.put, List.setIfInBounds_toArray, List.set_cons_zero, List.set_cons_succ, i64_w, i32_w]
                      rfl
                     refine take_ (i := 8) (N := some 78) (v := ?_) (a' := ?_) #[true, true, true, true, true, true, true, true, true, false, false, false] rfl rfl (take_ofW HT_.out HW_.out (by kernel_rfl)) (fun _ _ _ h => h) (Or.inl ⟨by rfl, ?_⟩) hHeld ?_ ?_
                     rotate_left
                     ·rintro w' ⟨s0, s1⟩
                      go_simp
                      with_reducible rfl
                     rotate_left
                     ·simp only [Act.put, List.setIfInBounds_toArray, List.set_cons_zero, List.set_cons_succ, i64_w, i32_w]
                      rfl
                     refine pure_ (i := 9) (N := some 79) (v := ?_) (a' := ?_) #[true, true, true, true, true, true, true, true, true, true, false, false] rfl rfl (any_of HT_.out (by kernel_rfl)) (fun _ _ _ h => h) (Or.inl ⟨by rfl, ?_⟩) ?_ ?_
                     rotate_left
                     ·intro w'
                      go_simp
                      with_reducible rfl
                     rotate_left
                     ·simp only [Act.put, List.setIfInBounds_toArray, List.set_cons_zero, List.set_cons_succ, i64_w, i32_w]
                      rfl
                     refine pure_ (i := 10) (N := some 80) (v := ?_) (a' := ?_) #[true, true, true, true, true, true, true, true, true, true, true, false] rfl rfl (any_of HT_.out (by kernel_rfl)) (fun _ _ _ h => h) (Or.inl ⟨by rfl, ?_⟩) ?_ ?_
                     rotate_left
                     ·intro w'
                      go_simp
                      with_reducible rfl
                     rotate_left
                     ·simp only [Act.put, List.setIfInBounds_toArray, List.set_cons_zero, List.set_cons_succ, i64_w, i32_w]
                      rfl
                     refine last_ (i := 11) (N := none) #[true, true, true, true, true, true, true, true, true, true, true, true] rfl rfl (one_of HT_.out (by kernel_rfl)) (by decide) (fun K hK => ?_)
                     refine skip_ (w1 := ?_) (by rfl) rfl ?_ ?_
                     rotate_left
                     ·go_simp
                      rfl
                     refine hK.out _ _ ?_
                     clear hK K
                     refine done_ (done_of HT_.out (by kernel_rfl)) ?_
                     have n0_ : Aside0 (Kd.R (Kd.int .i64) 3 (w63.setCell ⟨go60, ((ji54) : Int).toNat, none⟩ (.int .i64 (wrap64 ((rd x5_2 (ji54)) + (rd x5_2 (ji57)))))) w.heap.size (fun _ => True) (.slice (some ⟨go60, 0, none⟩) x5_2.length co41) y347) := ⟨by (with_reducible repeat (first | apply Kd.R_alloc | apply Kd.R_drewN | apply Kd.R_drew)); exact HQ64.out⟩
                     have n1_ : Aside0 ((w63.setCell ⟨go60, ((ji54) : Int).toNat, none⟩ (.int .i64 (wrap64 ((rd x5_2 (ji54)) + (rd x5_2 (ji57)))))).heap[gb336]? = some (.cells #[.int .i64 ((rd_T42 l1 x25_2).f0), .int .i64 ((rd_T42 l1 x25_2).f1)] 42 (0, 0))) := ⟨by (with_reducible repeat (first | refine blk_drewN ?_ _ | refine blk_drew ?_ | refine blk_alloc ?_ _)); refine blk_far ?_ (by have h_ := Kd.R_ne HO_5.out BK336.out (by decide); intro e_; exact h_ (by rw [e_]; rfl)) _; (with_reducible repeat (first | refine blk_drewN ?_ _ | refine blk_drew ?_ | refine blk_alloc ?_ _)); exact BK336.out⟩
                     have n2_ : Aside0 (Below w.heap.size w (w63.setCell ⟨go60, ((ji54) : Int).toNat, none⟩ (.int .i64 (wrap64 ((rd x5_2 (ji54)) + (rd x5_2 (ji57))))))) := ⟨by repeat (first | (with_reducible first | exact HB.out | apply below_alloc | apply pw_below_drewN | apply below_drew1 | refine below_set ?_ GB60.out | refine below_set ?_ GE336.out) | exact HB.out)⟩
                     (try clear HO_5)
                     (try clear BK336)
                     (try clear HB)
                     generalize (w63.setCell ⟨go60, ((ji54) : Int).toNat, none⟩ (.int .i64 (wrap64 ((rd x5_2 (ji54)) + (rd x5_2 (ji57)))))) = w65 at n0_ n1_ n2_ ⊢
                     have HO_5 := n0_
                     have BK336 := n1_
                     have HB := n2_
                     clear n0_ n1_ n2_
                     have q66 : ((ji57) : Int) ≤ ((x5_2.length : Int) : Int) := of_decide_eq_true (by assumption)
                     obtain ⟨i066, hi066, _, hsz66, _⟩ := info_parts info3
                     have hcut66 := cut_to (P := Try.prog) 22 3 .i64 Try.underlying22 hi066 (some ⟨go60, 0, none⟩) x5_2.length co41 (ji57) (of_decide_eq_true (by assumption)) q66 (Kd.R_reads' HO_5.out).2.1
                     have hr66 := Kd.R_take (m := ((ji57) : Int).toNat) HO_5.out (by have := hyly347.out; omega)
                     have hy66 : y348.length = ((ji57) : Int).toNat := (by rw [Ny348.out, List.length_take]; have := hyly347.out; omega)
                     rw [← Ny348.out] at hr66
                     rw [← hy66] at hr66 hcut66
                     clear hy66 hi066 hsz66 HO_5
                     have HO350 := Aside0.mk hr66
                     clear hr66
                     replace q66 := eq_true q66
                     have hcz67_0 : w65.cell? ⟨gb336, 0, none⟩ = some (.int .i64 ((rd_T42 l1 x25_2).f0)) := (blk_cell BK336.out 0).trans rfl
                     have hcz67_1 : w65.cell? ⟨gb336, 1, none⟩ = some (.int .i64 ((rd_T42 l1 x25_2).f1)) := (blk_cell BK336.out 1).trans rfl
                     have hfz67_0 := blk_frozen BK336.out 0
                     have hfz67_1 := blk_frozen BK336.out 1
                     try go_wp2
                     go_roundg kj37
                     case measure => have := HJ2.out; have := HK2.out; have := HJ37.out; omega
                     case rel => exact ⟨(y348), (wrap64 (x25_2 + 1)), (by first | rfl | (simp; done) | (simp [*]; done)), H', ⟨by have := HJ2.out; have := HK2.out; have := HJ37.out; omega⟩, ⟨by (with_reducible repeat (first | apply Kd.R_alloc | apply Kd.R_drewN | apply Kd.R_drew)); exact HO350.out⟩, ⟨by repeat (first | (with_reducible first | exact HB.out | apply below_alloc | apply pw_below_drewN | apply below_drew1 | refine below_set ?_ GE336.out) | exact HB.out)⟩⟩
                    ·rw [if_neg c62] at H
                     have c62b0 : (((rd_T42 l1 x25_2).f1) == 0) = false := beq_eq_false_iff_ne.mpr c62
                     have c62b1 : (((rd_T42 l1 x25_2).f1) != 0) = true := bne_iff_ne.mpr c62
                     obtain rfl := Option.some.inj H
                     try go_wp2
                     have n0_ := Aside0.mk (Kd.R_drew HO_5.out)
                     have n1_ := Aside0.mk (blk_drew BK336.out)
                     have n2_ := Aside0.mk (below_drew1 HB.out)
                     clear HO_5
                     clear BK336
                     clear HB
                     have HO_5 := n0_
                     have BK336 := n1_
                     have HB := n2_
                     clear n0_ n1_ n2_
                     have p345 : 0 ≤ ((ji54) : Int) := of_decide_eq_true (by assumption)
                     have q345 : (ji54) < (x5_2.length : Int) := of_decide_eq_true (by assumption)
                     obtain ⟨ad345, e345, hx345_0⟩ := Kd.at_int (Kd.R_reads' HO_5.out).2.2 (ji54) p345 q345
                     cases e345
                     replace p345 := eq_true p345
                     replace q345 := eq_true q345
                     have p346 : 0 ≤ ((ji57) : Int) := of_decide_eq_true (by assumption)
                     have q346 : (ji57) < (x5_2.length : Int) := of_decide_eq_true (by assumption)
                     obtain ⟨ad346, e346, hx346_0⟩ := Kd.at_int (Kd.R_reads' HO_5.out).2.2 (ji57) p346 q346
                     obtain rfl : ad345 = ad346 := (by injection e346)
                     replace p346 := eq_true p346
                     replace q346 := eq_true q346
                     have p60 : 0 ≤ ((ji54) : Int) := of_decide_eq_true (by assumption)
                     have q60 : ((ji54) : Int) < ((x5_2.length : Int) : Int) := of_decide_eq_true (by assumption)
                     obtain ⟨go60, co60, eo60, gb60, gl60, cl60, HG60⟩ := Kd.R_form HO_5.out (by omega)
                     (first | cases eo60 | (injection eo60 with ea_ en_ ec_; (first | subst ea_ | (injection ea_ with ea_; subst ea_)); subst ec_; clear en_))
                     have GB60 := Aside0.mk gb60
                     have GG60 := Aside0.mk HG60
                     clear gb60 gl60 HG60
                     (first | simp only [add_plain] at hx345_0 | skip)
                     (first | simp only [add_plain] at hx346_0 | skip)
                     obtain ⟨hx60_0, hf60_0⟩ := Kd.R_celln 0 HO_5.out ((ji54) : Int) p60 q60
                     replace p60 := eq_true p60
                     replace q60 := eq_true q60
                     have HP69 := Kd.R_putn HO_5.out ((ji54) : Int) (wrap64 ((rd x5_2 (ji54)) + (rd x5_2 (ji57))))
                     rw [← Ny347.out] at HP69
                     have HQ69 := Aside0.mk HP69
                     clear HP69
                     refine start_ (n := 12) (S := fun w' => w'.cell? ⟨go60, ((ji54)).toNat, none⟩ = some (.int .i64 (rd x5_2 (ji54))) ∧ w'.cell? ⟨go60, ((ji57)).toNat, none⟩ = some (.int .i64 (rd x5_2 (ji57)))) (ds := [11]) #[false, false, false, false, false, false, false, false, false, false, false, false] (by kernel_rfl) rfl rfl ⟨hx345_0, hx346_0⟩ (fun hHeld => ?_); refine with_tabW impl_TermOk.tab19 impl_TermOk.bits19 (fun HT_ HW_ => ?_)
                     generalize wc.drew = w68 at HO_5 BK336 HB GG60 HQ69 hf60_0 hx345_0 hx346_0 hx60_0 hHeld ⊢
                     refine pure_ (i := 0) (N := some 70) (v := ?_) (a' := ?_) #[true, false, false, false, false, false, false, false, false, false, false, false] rfl rfl (any_of HT_.out (by kernel_rfl)) (fun _ _ _ h => h) (Or.inl ⟨by rfl, ?_⟩) ?_ ?_
                     rotate_left
                     ·intro w'
                      go_simp
                      with_reducible rfl
                     rotate_left
                     ·simp only [Act.put, List.setIfInBounds_toArray, List.set_cons_zero, List.set_cons_succ, i64_w, i32_w]
                      rfl
                     refine pure_ (i := 1) (N := some 71) (v := ?_) (a' := ?_) #[true, true, false, false, false, false, false, false, false, false, false, false] rfl rfl (any_of HT_.out (by kernel_rfl)) (fun _ _ _ h => h) (Or.inl ⟨by rfl, ?_⟩) ?_ ?_
                     rotate_left
                     ·intro w'
                      go_simp
                      with_reducible rfl
                     rotate_left
                     ·simp only [Act.put, List.setIfInBounds_toArray, List.set_cons_zero, List.set_cons_succ, i64_w, i32_w]
                      rfl
                     refine pure_ (i := 2) (N := some 72) (v := ?_) (a' := ?_) #[true, true, true, false, false, false, false, false, false, false, false, false] rfl rfl (any_of HT_.out (by kernel_rfl)) (fun _ _ _ h => h) (Or.inl ⟨by rfl, ?_⟩) ?_ ?_
                     rotate_left
                     ·intro w'
                      go_simp
                      with_reducible rfl
                     rotate_left
                     ·simp only [Act.put, List.setIfInBounds_toArray, List.set_cons_zero, List.set_cons_succ, i64_w, i32_w]
                      rfl
                     refine pure_ (i := 3) (N := some 73) (v := ?_) (a' := ?_) #[true, true, true, true, false, false, false, false, false, false, false, false] rfl rfl (any_of HT_.out (by kernel_rfl)) (fun _ _ _ h => h) (Or.inl ⟨by rfl, ?_⟩) ?_ ?_
                     rotate_left
                     ·intro w'
                      go_simp
                      with_reducible rfl
                     rotate_left
                     ·simp only [Act.put, List.setIfInBounds_toArray, List.set_cons_zero, List.set_cons_succ, i64_w, i32_w]
                      rfl
                     refine pure_ (i := 5) (N := some 75) (v := ?_) (a' := ?_) #[true, true, true, true, false, true, false, false, false, false, false, false] rfl rfl (any_of HT_.out (by kernel_rfl)) (fun _ _ _ h => h) (Or.inl ⟨by rfl, ?_⟩) ?_ ?_
                     rotate_left
                     ·intro w'
                      go_simp
                      with_reducible rfl
                     rotate_left
                     ·simp only [Act.put, List.setIfInBounds_toArray, List.set_cons_zero, List.set_cons_succ, i64_w, i32_w]
                      rfl
                     refine pure_ (i := 6) (N := some 76) (v := ?_) (a' := ?_) #[true, true, true, true, false, true, true, false, false, false, false, false] rfl rfl (any_of HT_.out (by kernel_rfl)) (fun _ _ _ h => h) (Or.inl ⟨by rfl, ?_⟩) ?_ ?_
                     rotate_left
                     ·intro w'
                      go_simp
                      with_reducible rfl
                     rotate_left
                     ·simp only [Act.put, List.setIfInBounds_toArray, List.set_cons_zero, List.set_cons_succ, i64_w, i32_w]
                      rfl
                     refine pure_ (i := 7) (N := some 77) (v := ?_) (a' := ?_) #[true, true, true, true, false, true, true, true, false, false, false, false] rfl rfl (any_of HT_.out (by kernel_rfl)) (fun _ _ _ h => h) (Or.inl ⟨by rfl, ?_⟩) ?_ ?_
                     rotate_left
                     ·intro w'
                      go_simp
                      with_reducible rfl
                     rotate_left
                     ·simp only [Act.put, List.setIfInBounds_toArray, List.set_cons_zero, List.set_cons_succ, i64_w, i32_w]
                      rfl
                     refine take_ (i := 4) (N := some 74) (v := ?_) (a' := ?_) #[true, true, true, true, true, true, true, true, false, false, false, false] rfl rfl (take_ofW HT_.out HW_.out (by kernel_rfl)) (fun _ _ _ h => h) (Or.inl ⟨by rfl, ?_⟩) hHeld ?_ ?_
                     rotate_left
                     ·rintro w' ⟨s0, s1⟩
                      go_simp
                      with_reducible rfl
                     rotate_left
                     ·simp only [Act.put, List.setIfInBounds_toArray, List.set_cons_zero, List.set_cons_succ, i64_w, i32_w]
                      rfl
                     refine take_ (i := 8) (N := some 78) (v := ?_) (a' := ?_) #[true, true, true, true, true, true, true, true, true, false, false, false] rfl rfl (take_ofW HT_.out HW_.out (by kernel_rfl)) (fun _ _ _ h => h) (Or.inl ⟨by rfl, ?_⟩) hHeld ?_ ?_
                     rotate_left
                     ·rintro w' ⟨s0, s1⟩
                      go_simp
                      with_reducible rfl
                     rotate_left
                     ·simp only [Act.put, List.setIfInBounds_toArray, List.set_cons_zero, List.set_cons_succ, i64_w, i32_w]
                      rfl
                     refine pure_ (i := 9) (N := some 79) (v := ?_) (a' := ?_) #[true, true, true, true, true, true, true, true, true, true, false, false] rfl rfl (any_of HT_.out (by kernel_rfl)) (fun _ _ _ h => h) (Or.inl ⟨by rfl, ?_⟩) ?_ ?_
                     rotate_left
                     ·intro w'
                      go_simp
                      with_reducible rfl
                     rotate_left
                     ·simp only [Act.put, List.setIfInBounds_toArray, List.set_cons_zero, List.set_cons_succ, i64_w, i32_w]
                      rfl
                     refine pure_ (i := 10) (N := some 80) (v := ?_) (a' := ?_) #[true, true, true, true, true, true, true, true, true, true, true, false] rfl rfl (any_of HT_.out (by kernel_rfl)) (fun _ _ _ h => h) (Or.inl ⟨by rfl, ?_⟩) ?_ ?_
                     rotate_left
                     ·intro w'
                      go_simp
                      with_reducible rfl
                     rotate_left
                     ·simp only [Act.put, List.setIfInBounds_toArray, List.set_cons_zero, List.set_cons_succ, i64_w, i32_w]
                      rfl
                     refine last_ (i := 11) (N := none) #[true, true, true, true, true, true, true, true, true, true, true, true] rfl rfl (one_of HT_.out (by kernel_rfl)) (by decide) (fun K hK => ?_)
                     refine skip_ (w1 := ?_) (by rfl) rfl ?_ ?_
                     rotate_left
                     ·go_simp
                      rfl
                     refine hK.out _ _ ?_
                     clear hK K
                     refine done_ (done_of HT_.out (by kernel_rfl)) ?_
                     have n0_ : Aside0 (Kd.R (Kd.int .i64) 3 (w68.setCell ⟨go60, ((ji54) : Int).toNat, none⟩ (.int .i64 (wrap64 ((rd x5_2 (ji54)) + (rd x5_2 (ji57)))))) w.heap.size (fun _ => True) (.slice (some ⟨go60, 0, none⟩) x5_2.length co41) y347) := ⟨by (with_reducible repeat (first | apply Kd.R_alloc | apply Kd.R_drewN | apply Kd.R_drew)); exact HQ69.out⟩
                     have n1_ : Aside0 ((w68.setCell ⟨go60, ((ji54) : Int).toNat, none⟩ (.int .i64 (wrap64 ((rd x5_2 (ji54)) + (rd x5_2 (ji57)))))).heap[gb336]? = some (.cells #[.int .i64 ((rd_T42 l1 x25_2).f0), .int .i64 ((rd_T42 l1 x25_2).f1)] 42 (0, 0))) := ⟨by (with_reducible repeat (first | refine blk_drewN ?_ _ | refine blk_drew ?_ | refine blk_alloc ?_ _)); refine blk_far ?_ (by have h_ := Kd.R_ne HO_5.out BK336.out (by decide); intro e_; exact h_ (by rw [e_]; rfl)) _; (with_reducible repeat (first | refine blk_drewN ?_ _ | refine blk_drew ?_ | refine blk_alloc ?_ _)); exact BK336.out⟩
                     have n2_ : Aside0 (Below w.heap.size w (w68.setCell ⟨go60, ((ji54) : Int).toNat, none⟩ (.int .i64 (wrap64 ((rd x5_2 (ji54)) + (rd x5_2 (ji57))))))) := ⟨by repeat (first | (with_reducible first | exact HB.out | apply below_alloc | apply pw_below_drewN | apply below_drew1 | refine below_set ?_ GB60.out | refine below_set ?_ GE336.out) | exact HB.out)⟩
                     (try clear HO_5)
                     (try clear BK336)
                     (try clear HB)
                     generalize (w68.setCell ⟨go60, ((ji54) : Int).toNat, none⟩ (.int .i64 (wrap64 ((rd x5_2 (ji54)) + (rd x5_2 (ji57)))))) = w70 at n0_ n1_ n2_ ⊢
                     have HO_5 := n0_
                     have BK336 := n1_
                     have HB := n2_
                     clear n0_ n1_ n2_
                     have q71 : ((ji57) : Int) ≤ ((x5_2.length : Int) : Int) := of_decide_eq_true (by assumption)
                     obtain ⟨i071, hi071, _, hsz71, _⟩ := info_parts info3
                     have hcut71 := cut_to (P := Try.prog) 22 3 .i64 Try.underlying22 hi071 (some ⟨go60, 0, none⟩) x5_2.length co41 (ji57) (of_decide_eq_true (by assumption)) q71 (Kd.R_reads' HO_5.out).2.1
                     have hr71 := Kd.R_take (m := ((ji57) : Int).toNat) HO_5.out (by have := hyly347.out; omega)
                     have hy71 : y348.length = ((ji57) : Int).toNat := (by rw [Ny348.out, List.length_take]; have := hyly347.out; omega)
                     rw [← Ny348.out] at hr71
                     rw [← hy71] at hr71 hcut71
                     clear hy71 hi071 hsz71 HO_5
                     have HO350 := Aside0.mk hr71
                     clear hr71
                     replace q71 := eq_true q71
                     have hcz72_0 : w70.cell? ⟨gb336, 0, none⟩ = some (.int .i64 ((rd_T42 l1 x25_2).f0)) := (blk_cell BK336.out 0).trans rfl
                     have hcz72_1 : w70.cell? ⟨gb336, 1, none⟩ = some (.int .i64 ((rd_T42 l1 x25_2).f1)) := (blk_cell BK336.out 1).trans rfl
                     have hfz72_0 := blk_frozen BK336.out 0
                     have hfz72_1 := blk_frozen BK336.out 1
                     try go_wp2
                     go_ret
                     exact ⟨by first | rfl | (simp [errW_none, errW_some] <;> rfl) | (simp only [← hji54, ← hji57]; first | rfl | (simp [errW_none, errW_some] <;> rfl)) | (simp [*, errW_none, errW_some] <;> rfl), by repeat (first | (with_reducible first | exact HB.out | apply below_alloc | apply pw_below_drewN | apply below_drew1 | refine below_set ?_ GE336.out) | exact HB.out)⟩
                   ·rw [if_neg c61] at H
                    exact absurd H (by simp)
                  ·rw [if_neg c59] at H
                   exact absurd H (by simp)
                 ·rw [if_neg c58] at H
                  exact absurd H (by simp)
                ·rw [if_neg c56] at H
                 exact absurd H (by simp)
               ·rw [if_neg c55] at H
                exact absurd H (by simp)
           ·rw [if_neg c37] at H
            have c37b0 : (((rd_T42 l1 x25_2).f0) == 2) = false := beq_eq_false_iff_ne.mpr c37
            have c37b1 : (((rd_T42 l1 x25_2).f0) != 2) = true := bne_iff_ne.mpr c37
            by_cases c73 : ((rd_T42 l1 x25_2).f0) = 3
            ·rw [if_pos c73] at H
             have c73b0 : (((rd_T42 l1 x25_2).f0) == 3) = true := beq_iff_eq.mpr c73
             have c73b1 : (((rd_T42 l1 x25_2).f0) != 3) = false := bne_eq_false_iff_eq.mpr c73
             clear c73
             have HC74 := Aside0.mk H
             clear H
             have p335 : 0 ≤ (x25_2 : Int) := of_decide_eq_true (by assumption)
             have q335 : x25_2 < (l1.length : Int) := of_decide_eq_true (by assumption)
             obtain ⟨ad335, e335, hx335_0, hx335_1⟩ := at_T42 HR1.out x25_2 p335 q335
             cases e335
             replace hx335_0 := (HB.out.cell (World.block_lt_of_cell? w _ hx335_0)).trans hx335_0
             replace hx335_1 := (HB.out.cell (World.block_lt_of_cell? w _ hx335_1)).trans hx335_1
             replace p335 := eq_true p335
             replace q335 := eq_true q335
             go_upto_region 22 with (first | ((with_reducible refine gate_dst (N := 7) rfl ?_); (try (refine gate_guard (by rfl) ?_; dsimp only)); refine box_event ?hg (N := 7) ?hd (cs := #[.int .i64 0, .int .i64 0]) (t := 42) ?hr ?_; (case hd => rfl); (case hg => rfl); (case hr => first | (go_simp; done) | (go_simp; rfl)); intro gb336 hg w75 hbox hb; have n0_ := Aside0.mk (Kd.R_below (by (with_reducible repeat (first | apply Kd.R_alloc | apply Kd.R_drewN | apply Kd.R_drew)); exact HO_5.out) hb); have n1_ := Aside0.mk (below_step (by repeat first | with_reducible exact HB.out | apply below_alloc | apply pw_below_drewN | apply below_drew1) hb); have n2_ := Aside0.mk (hbox); have n3_ := Aside0.mk ((by rw [hg]; exact (below_size (by repeat first | with_reducible exact HB.out | apply below_alloc | apply pw_below_drewN | apply below_drew1)) : w.heap.size ≤ gb336)); have n4_ := Aside0.mk ((by rw [hg]; exact (below_size (by repeat first | with_reducible exact HB.out | apply below_alloc | apply pw_below_drewN | apply below_drew1)) : w.heap.size ≤ gb336)); clear HO_5; clear HB; have HO_5 := n0_; have HB := n1_; have BK336 := n2_; have GW336 := n3_; have GE336 := n4_; clear n0_ n1_ n2_ n3_ n4_; clear hb hbox hg; have hcz76_0 : w75.cell? ⟨gb336, 0, none⟩ = some (.int .i64 0) := (blk_cell BK336.out 0).trans rfl; have hcz76_1 : w75.cell? ⟨gb336, 1, none⟩ = some (.int .i64 0) := (blk_cell BK336.out 1).trans rfl; have hfz76_0 := blk_frozen BK336.out 0; have hfz76_1 := blk_frozen BK336.out 1; obtain ⟨Ao77, co77, eo77⟩ := Kd.R_slice HO_5.out; subst eo77))
             (try simp only [Act.put, List.setIfInBounds_toArray, List.set_cons_zero, List.set_cons_succ])
             go_cut [99] (fun v99 wc => ∃ (kq : Nat) (x99_73 : Bool), v99 = .bool x99_73 ∧ Aside0 (impl_TermOk.j4 kq a0 x5_2 (wrap64 ((x5_2.length : Int) - 1)) l1 (l1.length : Int) x25_2 x99_73 ((rd_T42 l1 x25_2).f0) ((rd_T42 l1 x25_2).f1) = some r) ∧ Aside0 (kq ≤ k2) ∧ Aside0 (Kd.R (Kd.int .i64) 3 wc w.heap.size (fun _ => True) (.slice Ao77 x5_2.length co77) x5_2) ∧ Aside0 (wc.heap[gb336]? = some (.cells #[.int .i64 ((rd_T42 l1 x25_2).f0), .int .i64 ((rd_T42 l1 x25_2).f1)] 42 (0, 0))) ∧ Aside0 (Below w.heap.size w wc))
             case first =>
              have H := HC74.out
              clear HC74
              by_cases c78 : (wrap64 ((x5_2.length : Int) - 1)) < 1
              ·rw [if_pos c78] at H
               have c78b0 : decide ((wrap64 ((x5_2.length : Int) - 1)) < 1) = true := decide_eq_true c78
               clear c78
               (first | rw [c78b0] | (simp only [i64_w, i32_w]; rw [c78b0]) | skip)
               have H' := Aside0.mk H
               clear H
               try go_wp2
               have n0_ : Aside0 (Kd.R (Kd.int .i64) 3 ((w75.setCell ⟨gb336, 0, none⟩ (.int .i64 ((rd_T42 l1 x25_2).f0))).setCell ⟨gb336, 1, none⟩ (.int .i64 ((rd_T42 l1 x25_2).f1))) w.heap.size (fun _ => True) (.slice Ao77 x5_2.length co77) x5_2) := ⟨by (with_reducible repeat (first | apply Kd.R_alloc | apply Kd.R_drewN | apply Kd.R_drew)); exact Kd.R_mono (Kd.R_far (p := ⟨gb336, 1, none⟩) (Kd.R_far (p := ⟨gb336, 0, none⟩) (Kd.R_types HO_5.out BK336.out (by decide)) (fun _ hk => hk.2) (.int .i64 ((rd_T42 l1 x25_2).f0))) (fun _ hk => hk.2) (.int .i64 ((rd_T42 l1 x25_2).f1))) (fun _ hk => trivial)⟩
               have n1_ : Aside0 (((w75.setCell ⟨gb336, 0, none⟩ (.int .i64 ((rd_T42 l1 x25_2).f0))).setCell ⟨gb336, 1, none⟩ (.int .i64 ((rd_T42 l1 x25_2).f1))).heap[gb336]? = some (.cells #[.int .i64 ((rd_T42 l1 x25_2).f0), .int .i64 ((rd_T42 l1 x25_2).f1)] 42 (0, 0))) := ⟨by (with_reducible repeat (first | refine blk_drewN ?_ _ | refine blk_drew ?_ | refine blk_alloc ?_ _)); refine blk_put (cs := #[.int .i64 ((rd_T42 l1 x25_2).f0), .int .i64 0]) ?_ 1 _ rfl; (with_reducible repeat (first | refine blk_drewN ?_ _ | refine blk_drew ?_ | refine blk_alloc ?_ _)); refine blk_put (cs := #[.int .i64 0, .int .i64 0]) ?_ 0 _ rfl; (with_reducible repeat (first | refine blk_drewN ?_ _ | refine blk_drew ?_ | refine blk_alloc ?_ _)); exact BK336.out⟩
               have n2_ : Aside0 (Below w.heap.size w ((w75.setCell ⟨gb336, 0, none⟩ (.int .i64 ((rd_T42 l1 x25_2).f0))).setCell ⟨gb336, 1, none⟩ (.int .i64 ((rd_T42 l1 x25_2).f1)))) := ⟨by repeat (first | (with_reducible first | exact HB.out | apply below_alloc | apply pw_below_drewN | apply below_drew1 | refine below_set ?_ GE336.out) | exact HB.out)⟩
               (try clear HO_5)
               (try clear BK336)
               (try clear HB)
               generalize ((w75.setCell ⟨gb336, 0, none⟩ (.int .i64 ((rd_T42 l1 x25_2).f0))).setCell ⟨gb336, 1, none⟩ (.int .i64 ((rd_T42 l1 x25_2).f1))) = w79 at n0_ n1_ n2_ ⊢
               have HO_5 := n0_
               have BK336 := n1_
               have HB := n2_
               clear n0_ n1_ n2_
               have n0_ := Aside0.mk (Kd.R_drew HO_5.out)
               have n1_ := Aside0.mk (blk_drew BK336.out)
               have n2_ := Aside0.mk (below_drew1 HB.out)
               clear HO_5
               clear BK336
               clear HB
               have HO_5 := n0_
               have BK336 := n1_
               have HB := n2_
               clear n0_ n1_ n2_
               refine start_ (n := 14) (S := fun w' => True) (ds := []) #[false, false, false, false, false, false, false, false, false, false, false, false, false, false] (by kernel_rfl) rfl rfl trivial (fun hHeld => ?_); refine with_tabW impl_TermOk.tab22 impl_TermOk.bits22 (fun HT_ HW_ => ?_)
               generalize w79.drew = w80 at HO_5 BK336 HB hHeld ⊢
               refine pure_ (i := 0) (N := some 86) (v := ?_) (a' := ?_) #[true, false, false, false, false, false, false, false, false, false, false, false, false, false] rfl rfl (any_of HT_.out (by kernel_rfl)) (fun _ _ _ h => h) (Or.inl ⟨by rfl, ?_⟩) ?_ ?_
               rotate_left
               ·intro w'
                go_simp
                with_reducible rfl
               rotate_left
               ·simp only [Act.put, List.setIfInBounds_toArray, List.set_cons_zero, List.set_cons_succ, i64_w, i32_w]
                rfl
               refine pure_ (i := 1) (N := some 87) (v := ?_) (a' := ?_) #[true, true, false, false, false, false, false, false, false, false, false, false, false, false] rfl rfl (any_of HT_.out (by kernel_rfl)) (fun _ _ _ h => h) (Or.inl ⟨by rfl, ?_⟩) ?_ ?_
               rotate_left
               ·intro w'
                go_simp
                with_reducible rfl
               rotate_left
               ·simp only [Act.put, List.setIfInBounds_toArray, List.set_cons_zero, List.set_cons_succ, i64_w, i32_w]
                rfl
               refine pure_ (i := 2) (N := some 88) (v := ?_) (a' := ?_) #[true, true, true, false, false, false, false, false, false, false, false, false, false, false] rfl rfl (any_of HT_.out (by kernel_rfl)) (fun _ _ _ h => h) (Or.inl ⟨by rfl, ?_⟩) ?_ ?_
               rotate_left
               ·intro w'
                go_simp
                with_reducible rfl
               rotate_left
               ·simp only [Act.put, List.setIfInBounds_toArray, List.set_cons_zero, List.set_cons_succ, i64_w, i32_w]
                rfl
               refine pure_ (i := 3) (N := some 89) (v := undef) (a' := ?_) #[true, true, true, true, false, false, false, false, false, false, false, false, false, false] rfl rfl (any_of HT_.out (by kernel_rfl)) (fun _ _ _ h => h) (Or.inr ⟨by rfl, rfl⟩) ?_ ?_
               rotate_left
               ·simp only [Act.put, List.setIfInBounds_toArray, List.set_cons_zero, List.set_cons_succ, i64_w, i32_w]
                rfl
               refine pure_ (i := 4) (N := some 90) (v := undef) (a' := ?_) #[true, true, true, true, true, false, false, false, false, false, false, false, false, false] rfl rfl (any_of HT_.out (by kernel_rfl)) (fun _ _ _ h => h) (Or.inr ⟨by rfl, rfl⟩) ?_ ?_
               rotate_left
               ·simp only [Act.put, List.setIfInBounds_toArray, List.set_cons_zero, List.set_cons_succ, i64_w, i32_w]
                rfl
               refine pure_ (i := 5) (N := some 91) (v := undef) (a' := ?_) #[true, true, true, true, true, true, false, false, false, false, false, false, false, false] rfl rfl (any_of HT_.out (by kernel_rfl)) (fun _ _ _ h => h) (Or.inr ⟨by rfl, rfl⟩) ?_ ?_
               rotate_left
               ·simp only [Act.put, List.setIfInBounds_toArray, List.set_cons_zero, List.set_cons_succ, i64_w, i32_w]
                rfl
               refine pure_ (i := 6) (N := some 92) (v := undef) (a' := ?_) #[true, true, true, true, true, true, true, false, false, false, false, false, false, false] rfl rfl (any_of HT_.out (by kernel_rfl)) (fun _ _ _ h => h) (Or.inr ⟨by rfl, rfl⟩) ?_ ?_
               rotate_left
               ·simp only [Act.put, List.setIfInBounds_toArray, List.set_cons_zero, List.set_cons_succ, i64_w, i32_w]
                rfl
               refine pure_ (i := 7) (N := some 93) (v := undef) (a' := ?_) #[true, true, true, true, true, true, true, true, false, false, false, false, false, false] rfl rfl (any_of HT_.out (by kernel_rfl)) (fun _ _ _ h => h) (Or.inr ⟨by rfl, rfl⟩) ?_ ?_
               rotate_left
               ·simp only [Act.put, List.setIfInBounds_toArray, List.set_cons_zero, List.set_cons_succ, i64_w, i32_w]
                rfl
               refine pure_ (i := 8) (N := some 94) (v := undef) (a' := ?_) #[true, true, true, true, true, true, true, true, true, false, false, false, false, false] rfl rfl (any_of HT_.out (by kernel_rfl)) (fun _ _ _ h => h) (Or.inr ⟨by rfl, rfl⟩) ?_ ?_
               rotate_left
               ·simp only [Act.put, List.setIfInBounds_toArray, List.set_cons_zero, List.set_cons_succ, i64_w, i32_w]
                rfl
               refine pure_ (i := 9) (N := some 95) (v := undef) (a' := ?_) #[true, true, true, true, true, true, true, true, true, true, false, false, false, false] rfl rfl (any_of HT_.out (by kernel_rfl)) (fun _ _ _ h => h) (Or.inr ⟨by rfl, rfl⟩) ?_ ?_
               rotate_left
               ·simp only [Act.put, List.setIfInBounds_toArray, List.set_cons_zero, List.set_cons_succ, i64_w, i32_w]
                rfl
               refine pure_ (i := 10) (N := some 96) (v := undef) (a' := ?_) #[true, true, true, true, true, true, true, true, true, true, true, false, false, false] rfl rfl (any_of HT_.out (by kernel_rfl)) (fun _ _ _ h => h) (Or.inr ⟨by rfl, rfl⟩) ?_ ?_
               rotate_left
               ·simp only [Act.put, List.setIfInBounds_toArray, List.set_cons_zero, List.set_cons_succ, i64_w, i32_w]
                rfl
               refine pure_ (i := 11) (N := some 97) (v := undef) (a' := ?_) #[true, true, true, true, true, true, true, true, true, true, true, true, false, false] rfl rfl (any_of HT_.out (by kernel_rfl)) (fun _ _ _ h => h) (Or.inr ⟨by rfl, rfl⟩) ?_ ?_
               rotate_left
               ·simp only [Act.put, List.setIfInBounds_toArray, List.set_cons_zero, List.set_cons_succ, i64_w, i32_w]
                rfl
               refine pure_ (i := 12) (N := some 98) (v := undef) (a' := ?_) #[true, true, true, true, true, true, true, true, true, true, true, true, true, false] rfl rfl (any_of HT_.out (by kernel_rfl)) (fun _ _ _ h => h) (Or.inr ⟨by rfl, rfl⟩) ?_ ?_
               rotate_left
               ·simp only [Act.put, List.setIfInBounds_toArray, List.set_cons_zero, List.set_cons_succ, i64_w, i32_w]
                rfl
               refine pure_ (i := 13) (N := some 99) (v := ?_) (a' := ?_) #[true, true, true, true, true, true, true, true, true, true, true, true, true, true] rfl rfl (any_of HT_.out (by kernel_rfl)) (fun _ _ _ h => h) (Or.inl ⟨by rfl, ?_⟩) ?_ ?_
               rotate_left
               ·intro w'
                go_simp
                with_reducible rfl
               rotate_left
               ·simp only [Act.put, List.setIfInBounds_toArray, List.set_cons_zero, List.set_cons_succ, i64_w, i32_w]
                rfl
               refine done_ (done_of HT_.out (by kernel_rfl)) ?_
               try go_wp2
               go_meet
               case rel => exact ⟨_, (true), (by first | rfl | (simp; done) | (simp [*]; done)), H', ⟨by have := HJ2.out; have := HK2.out; first | omega | exact Nat.le_refl _⟩, ⟨by (with_reducible repeat (first | apply Kd.R_alloc | apply Kd.R_drewN | apply Kd.R_drew)); exact HO_5.out⟩, ⟨by (with_reducible repeat (first | refine blk_drewN ?_ _ | refine blk_drew ?_ | refine blk_alloc ?_ _)); exact BK336.out⟩, ⟨by repeat (first | (with_reducible first | exact HB.out | apply below_alloc | apply pw_below_drewN | apply below_drew1 | refine below_set ?_ GE336.out) | exact HB.out)⟩⟩
              ·rw [if_neg c78] at H
               have c78b0 : decide ((wrap64 ((x5_2.length : Int) - 1)) < 1) = false := decide_eq_false c78
               clear c78
               (first | rw [c78b0] | (simp only [i64_w, i32_w]; rw [c78b0]) | skip)
               obtain ⟨ji81, hji81⟩ : ∃ j_ : Int, (wrap64 ((wrap64 ((x5_2.length : Int) - 1)) - 1)) = j_ := ⟨_, rfl⟩
               replace H : (if 0 ≤ (ji81) then (if (ji81) < (x5_2.length : Int) then (if 0 ≤ (wrap64 ((x5_2.length : Int) - 1)) then (if (wrap64 ((x5_2.length : Int) - 1)) < (x5_2.length : Int) then (impl_TermOk.j4 k2 a0 x5_2 (wrap64 ((x5_2.length : Int) - 1)) l1 (l1.length : Int) x25_2 ((rd x5_2 (ji81)) != (rd x5_2 (wrap64 ((x5_2.length : Int) - 1)))) ((rd_T42 l1 x25_2).f0) ((rd_T42 l1 x25_2).f1)) else (none)) else (none)) else (none)) else (none)) = some r := by first | (rw [hji81] at H; exact H) | (simp only [hji81] at H ⊢; exact H)
               have hji81w : (IntKind.i64.wrap ((wrap64 ((x5_2.length : Int) - 1)) - 1)) = ji81 := (i64_w _).trans hji81
               by_cases c82 : 0 ≤ (ji81)
               ·rw [if_pos c82] at H
                have c82b0 : decide (0 ≤ (ji81)) = true := decide_eq_true c82
                clear c82
                by_cases c83 : (ji81) < (x5_2.length : Int)
                ·rw [if_pos c83] at H
                 have c83b0 : decide ((ji81) < (x5_2.length : Int)) = true := decide_eq_true c83
                 clear c83
                 obtain ⟨ji84, hji84⟩ : ∃ j_ : Int, (wrap64 ((x5_2.length : Int) - 1)) = j_ := ⟨_, rfl⟩
                 have hji81_ji84 : (wrap64 (ji84 - 1)) = ji81 := by rw [← hji84]; exact hji81
                 have hji81_ji84w : (IntKind.i64.wrap (ji84 - 1)) = ji81 := (i64_w _).trans hji81_ji84
                 replace H : (if 0 ≤ (ji84) then (if (ji84) < (x5_2.length : Int) then (impl_TermOk.j4 k2 a0 x5_2 ji84 l1 (l1.length : Int) x25_2 ((rd x5_2 (ji81)) != (rd x5_2 (ji84))) ((rd_T42 l1 x25_2).f0) ((rd_T42 l1 x25_2).f1)) else (none)) else (none)) = some r := by first | (rw [hji84] at H; exact H) | (simp only [hji84] at H ⊢; exact H)
                 (try rw [hji84] at c78b0)
                 have hji84w : (IntKind.i64.wrap ((x5_2.length : Int) - 1)) = ji84 := (i64_w _).trans hji84
                 by_cases c85 : 0 ≤ (ji84)
                 ·rw [if_pos c85] at H
                  have c85b0 : decide (0 ≤ (ji84)) = true := decide_eq_true c85
                  clear c85
                  by_cases c86 : (ji84) < (x5_2.length : Int)
                  ·rw [if_pos c86] at H
                   have c86b0 : decide ((ji84) < (x5_2.length : Int)) = true := decide_eq_true c86
                   clear c86
                   have H' := Aside0.mk H
                   clear H
                   try go_wp2
                   have n0_ : Aside0 (Kd.R (Kd.int .i64) 3 ((w75.setCell ⟨gb336, 0, none⟩ (.int .i64 ((rd_T42 l1 x25_2).f0))).setCell ⟨gb336, 1, none⟩ (.int .i64 ((rd_T42 l1 x25_2).f1))) w.heap.size (fun _ => True) (.slice Ao77 x5_2.length co77) x5_2) := ⟨by (with_reducible repeat (first | apply Kd.R_alloc | apply Kd.R_drewN | apply Kd.R_drew)); exact Kd.R_mono (Kd.R_far (p := ⟨gb336, 1, none⟩) (Kd.R_far (p := ⟨gb336, 0, none⟩) (Kd.R_types HO_5.out BK336.out (by decide)) (fun _ hk => hk.2) (.int .i64 ((rd_T42 l1 x25_2).f0))) (fun _ hk => hk.2) (.int .i64 ((rd_T42 l1 x25_2).f1))) (fun _ hk => trivial)⟩
                   have n1_ : Aside0 (((w75.setCell ⟨gb336, 0, none⟩ (.int .i64 ((rd_T42 l1 x25_2).f0))).setCell ⟨gb336, 1, none⟩ (.int .i64 ((rd_T42 l1 x25_2).f1))).heap[gb336]? = some (.cells #[.int .i64 ((rd_T42 l1 x25_2).f0), .int .i64 ((rd_T42 l1 x25_2).f1)] 42 (0, 0))) := ⟨by (with_reducible repeat (first | refine blk_drewN ?_ _ | refine blk_drew ?_ | refine blk_alloc ?_ _)); refine blk_put (cs := #[.int .i64 ((rd_T42 l1 x25_2).f0), .int .i64 0]) ?_ 1 _ rfl; (with_reducible repeat (first | refine blk_drewN ?_ _ | refine blk_drew ?_ | refine blk_alloc ?_ _)); refine blk_put (cs := #[.int .i64 0, .int .i64 0]) ?_ 0 _ rfl; (with_reducible repeat (first | refine blk_drewN ?_ _ | refine blk_drew ?_ | refine blk_alloc ?_ _)); exact BK336.out⟩
                   have n2_ : Aside0 (Below w.heap.size w ((w75.setCell ⟨gb336, 0, none⟩ (.int .i64 ((rd_T42 l1 x25_2).f0))).setCell ⟨gb336, 1, none⟩ (.int .i64 ((rd_T42 l1 x25_2).f1)))) := ⟨by repeat (first | (with_reducible first | exact HB.out | apply below_alloc | apply pw_below_drewN | apply below_drew1 | refine below_set ?_ GE336.out) | exact HB.out)⟩
                   (try clear HO_5)
                   (try clear BK336)
                   (try clear HB)
                   generalize ((w75.setCell ⟨gb336, 0, none⟩ (.int .i64 ((rd_T42 l1 x25_2).f0))).setCell ⟨gb336, 1, none⟩ (.int .i64 ((rd_T42 l1 x25_2).f1))) = w87 at n0_ n1_ n2_ ⊢
                   have HO_5 := n0_
                   have BK336 := n1_
                   have HB := n2_
                   clear n0_ n1_ n2_
                   have n0_ := Aside0.mk (Kd.R_drew HO_5.out)
                   have n1_ := Aside0.mk (blk_drew BK336.out)
                   have n2_ := Aside0.mk (below_drew1 HB.out)
                   clear HO_5
                   clear BK336
                   clear HB
                   have HO_5 := n0_
                   have BK336 := n1_
                   have HB := n2_
                   clear n0_ n1_ n2_
                   have p351 : 0 ≤ ((ji81) : Int) := of_decide_eq_true (by assumption)
                   have q351 : (ji81) < (x5_2.length : Int) := of_decide_eq_true (by assumption)
                   obtain ⟨ad351, e351, hx351_0⟩ := Kd.at_int (Kd.R_reads' HO_5.out).2.2 (ji81) p351 q351
                   cases e351
                   replace p351 := eq_true p351
                   replace q351 := eq_true q351
                   have p352 : 0 ≤ ((ji84) : Int) := of_decide_eq_true (by assumption)
                   have q352 : (ji84) < (x5_2.length : Int) := of_decide_eq_true (by assumption)
                   obtain ⟨ad352, e352, hx352_0⟩ := Kd.at_int (Kd.R_reads' HO_5.out).2.2 (ji84) p352 q352
                   obtain rfl : ad351 = ad352 := (by injection e352)
                   replace p352 := eq_true p352
                   replace q352 := eq_true q352
                   refine start_ (n := 14) (S := fun w' => w'.cell? (ad351.add ((ji81)).toNat) = some (.int .i64 (rd x5_2 (ji81))) ∧ w'.cell? (ad351.add ((ji84)).toNat) = some (.int .i64 (rd x5_2 (ji84)))) (ds := []) #[false, false, false, false, false, false, false, false, false, false, false, false, false, false] (by kernel_rfl) rfl rfl ⟨hx351_0, hx352_0⟩ (fun hHeld => ?_); refine with_tabW impl_TermOk.tab22 impl_TermOk.bits22 (fun HT_ HW_ => ?_)
                   generalize w87.drew = w88 at HO_5 BK336 HB hx351_0 hx352_0 hHeld ⊢
                   refine pure_ (i := 0) (N := some 86) (v := ?_) (a' := ?_) #[true, false, false, false, false, false, false, false, false, false, false, false, false, false] rfl rfl (any_of HT_.out (by kernel_rfl)) (fun _ _ _ h => h) (Or.inl ⟨by rfl, ?_⟩) ?_ ?_
                   rotate_left
                   ·intro w'
                    go_simp
                    with_reducible rfl
                   rotate_left
                   ·simp only [Act.put, List.setIfInBounds_toArray, List.set_cons_zero, List.set_cons_succ, i64_w, i32_w]
                    rfl
                   refine pure_ (i := 1) (N := some 87) (v := ?_) (a' := ?_) #[true, true, false, false, false, false, false, false, false, false, false, false, false, false] rfl rfl (any_of HT_.out (by kernel_rfl)) (fun _ _ _ h => h) (Or.inl ⟨by rfl, ?_⟩) ?_ ?_
                   rotate_left
                   ·intro w'
                    go_simp
                    with_reducible rfl
                   rotate_left
                   ·simp only [Act.put, List.setIfInBounds_toArray, List.set_cons_zero, List.set_cons_succ, i64_w, i32_w]
                    rfl
                   refine pure_ (i := 2) (N := some 88) (v := ?_) (a' := ?_) #[true, true, true, false, false, false, false, false, false, false, false, false, false, false] rfl rfl (any_of HT_.out (by kernel_rfl)) (fun _ _ _ h => h) (Or.inl ⟨by rfl, ?_⟩) ?_ ?_
                   rotate_left
                   ·intro w'
                    go_simp
                    with_reducible rfl
                   rotate_left
                   ·simp only [Act.put, List.setIfInBounds_toArray, List.set_cons_zero, List.set_cons_succ, i64_w, i32_w]
                    rfl
                   refine pure_ (i := 3) (N := some 89) (v := ?_) (a' := ?_) #[true, true, true, true, false, false, false, false, false, false, false, false, false, false] rfl rfl (any_of HT_.out (by kernel_rfl)) (fun _ _ _ h => h) (Or.inl ⟨by rfl, ?_⟩) ?_ ?_
                   rotate_left
                   ·intro w'
                    go_simp
                    with_reducible rfl
                   rotate_left
                   ·simp only [Act.put, List.setIfInBounds_toArray, List.set_cons_zero, List.set_cons_succ, i64_w, i32_w]
                    rfl
                   refine pure_ (i := 4) (N := some 90) (v := ?_) (a' := ?_) #[true, true, true, true, true, false, false, false, false, false, false, false, false, false] rfl rfl (any_of HT_.out (by kernel_rfl)) (fun _ _ _ h => h) (Or.inl ⟨by rfl, ?_⟩) ?_ ?_
                   rotate_left
                   ·intro w'
                    go_simp
                    with_reducible rfl
                   rotate_left
                   ·simp only [Act.put, List.setIfInBounds_toArray, List.set_cons_zero, List.set_cons_succ, i64_w, i32_w]
                    rfl
                   refine pure_ (i := 5) (N := some 91) (v := ?_) (a' := ?_) #[true, true, true, true, true, true, false, false, false, false, false, false, false, false] rfl rfl (any_of HT_.out (by kernel_rfl)) (fun _ _ _ h => h) (Or.inl ⟨by rfl, ?_⟩) ?_ ?_
                   rotate_left
                   ·intro w'
                    go_simp
                    with_reducible rfl
                   rotate_left
                   ·simp only [Act.put, List.setIfInBounds_toArray, List.set_cons_zero, List.set_cons_succ, i64_w, i32_w]
                    rfl
                   refine pure_ (i := 6) (N := some 92) (v := ?_) (a' := ?_) #[true, true, true, true, true, true, true, false, false, false, false, false, false, false] rfl rfl (any_of HT_.out (by kernel_rfl)) (fun _ _ _ h => h) (Or.inl ⟨by rfl, ?_⟩) ?_ ?_
                   rotate_left
                   ·intro w'
                    go_simp
                    with_reducible rfl
                   rotate_left
                   ·simp only [Act.put, List.setIfInBounds_toArray, List.set_cons_zero, List.set_cons_succ, i64_w, i32_w]
                    rfl
                   refine pure_ (i := 8) (N := some 94) (v := ?_) (a' := ?_) #[true, true, true, true, true, true, true, false, true, false, false, false, false, false] rfl rfl (any_of HT_.out (by kernel_rfl)) (fun _ _ _ h => h) (Or.inl ⟨by rfl, ?_⟩) ?_ ?_
                   rotate_left
                   ·intro w'
                    go_simp
                    with_reducible rfl
                   rotate_left
                   ·simp only [Act.put, List.setIfInBounds_toArray, List.set_cons_zero, List.set_cons_succ, i64_w, i32_w]
                    rfl
                   refine pure_ (i := 9) (N := some 95) (v := ?_) (a' := ?_) #[true, true, true, true, true, true, true, false, true, true, false, false, false, false] rfl rfl (any_of HT_.out (by kernel_rfl)) (fun _ _ _ h => h) (Or.inl ⟨by rfl, ?_⟩) ?_ ?_
                   rotate_left
                   ·intro w'
                    go_simp
                    with_reducible rfl
                   rotate_left
                   ·simp only [Act.put, List.setIfInBounds_toArray, List.set_cons_zero, List.set_cons_succ, i64_w, i32_w]
                    rfl
                   refine pure_ (i := 10) (N := some 96) (v := ?_) (a' := ?_) #[true, true, true, true, true, true, true, false, true, true, true, false, false, false] rfl rfl (any_of HT_.out (by kernel_rfl)) (fun _ _ _ h => h) (Or.inl ⟨by rfl, ?_⟩) ?_ ?_
                   rotate_left
                   ·intro w'
                    go_simp
                    with_reducible rfl
                   rotate_left
                   ·simp only [Act.put, List.setIfInBounds_toArray, List.set_cons_zero, List.set_cons_succ, i64_w, i32_w]
                    rfl
                   refine take_ (i := 7) (N := some 93) (v := ?_) (a' := ?_) #[true, true, true, true, true, true, true, true, true, true, true, false, false, false] rfl rfl (take_ofW HT_.out HW_.out (by kernel_rfl)) (fun _ _ _ h => h) (Or.inl ⟨by rfl, ?_⟩) hHeld ?_ ?_
                   rotate_left
                   ·rintro w' ⟨s0, s1⟩
                    go_simp
                    with_reducible rfl
                   rotate_left
                   ·simp only [Act.put, List.setIfInBounds_toArray, List.set_cons_zero, List.set_cons_succ, i64_w, i32_w]
                    rfl
                   refine take_ (i := 11) (N := some 97) (v := ?_) (a' := ?_) #[true, true, true, true, true, true, true, true, true, true, true, true, false, false] rfl rfl (take_ofW HT_.out HW_.out (by kernel_rfl)) (fun _ _ _ h => h) (Or.inl ⟨by rfl, ?_⟩) hHeld ?_ ?_
                   rotate_left
                   ·rintro w' ⟨s0, s1⟩
                    go_simp
                    with_reducible rfl
                   rotate_left
                   ·simp only [Act.put, List.setIfInBounds_toArray, List.set_cons_zero, List.set_cons_succ, i64_w, i32_w]
                    rfl
                   refine pure_ (i := 12) (N := some 98) (v := ?_) (a' := ?_) #[true, true, true, true, true, true, true, true, true, true, true, true, true, false] rfl rfl (any_of HT_.out (by kernel_rfl)) (fun _ _ _ h => h) (Or.inl ⟨by rfl, ?_⟩) ?_ ?_
                   rotate_left
                   ·intro w'
                    go_simp
                    with_reducible rfl
                   rotate_left
                   ·simp only [Act.put, List.setIfInBounds_toArray, List.set_cons_zero, List.set_cons_succ, i64_w, i32_w]
                    rfl
                   refine pure_ (i := 13) (N := some 99) (v := ?_) (a' := ?_) #[true, true, true, true, true, true, true, true, true, true, true, true, true, true] rfl rfl (any_of HT_.out (by kernel_rfl)) (fun _ _ _ h => h) (Or.inl ⟨by rfl, ?_⟩) ?_ ?_
                   rotate_left
                   ·intro w'
                    go_simp
                    with_reducible rfl
                   rotate_left
                   ·simp only [Act.put, List.setIfInBounds_toArray, List.set_cons_zero, List.set_cons_succ, i64_w, i32_w]
                    rfl
                   refine done_ (done_of HT_.out (by kernel_rfl)) ?_
                   try go_wp2
                   (try simp only [← hji84])
                   go_meet
                   case rel => exact ⟨_, (((rd x5_2 (ji81)) != (rd x5_2 (ji84)))), (by first | rfl | (simp; done) | (simp only [← hji81, ← hji84] <;> (first | rfl | simp)) | (simp [*]; done)), (by first | exact H' | (rw [hji84]; exact H')), ⟨by have := HJ2.out; have := HK2.out; first | omega | exact Nat.le_refl _⟩, ⟨by (with_reducible repeat (first | apply Kd.R_alloc | apply Kd.R_drewN | apply Kd.R_drew)); exact HO_5.out⟩, ⟨by (with_reducible repeat (first | refine blk_drewN ?_ _ | refine blk_drew ?_ | refine blk_alloc ?_ _)); exact BK336.out⟩, ⟨by repeat (first | (with_reducible first | exact HB.out | apply below_alloc | apply pw_below_drewN | apply below_drew1 | refine below_set ?_ GE336.out) | exact HB.out)⟩⟩
                  ·rw [if_neg c86] at H
                   exact absurd H (by simp)
                 ·rw [if_neg c85] at H
                  exact absurd H (by simp)
                ·rw [if_neg c83] at H
                 exact absurd H (by simp)
               ·rw [if_neg c82] at H
                exact absurd H (by simp)
             case rest =>
              clear HC74
              try clear p2
              try clear c3
              try clear p3
              try clear q3
              try clear hx3
              try clear c5
              try clear c6
              try clear p6
              try clear q6
              try clear hx6
              try clear hf6
              try clear c7
              try clear q7
              try clear c8
              try clear p33
              try clear q33
              try clear hx33
              try clear p34
              try clear q34
              try clear hx34
              try clear p35
              try clear q35
              try clear hx35
              try clear c37
              try clear c37b0
              try clear c37b1
              try clear c55
              try clear c56
              try clear c58
              try clear c59
              try clear p60
              try clear q60
              try clear hx60
              try clear hf60
              try clear c61
              try clear c62
              try clear c62b0
              try clear c62b1
              try clear p64
              try clear q66
              try clear q71
              try clear c73
              try clear c73b0
              try clear c73b1
              try clear c78
              try clear c78b0
              try clear c82
              try clear c82b0
              try clear c83
              try clear c83b0
              try clear c85
              try clear c85b0
              try clear c86
              try clear c86b0
              try clear hcz67_0
              try clear hcz67_1
              try clear hcz72_0
              try clear hcz72_1
              try clear hcz76_0
              try clear hcz76_1
              try clear hfz67_0
              try clear hfz67_1
              try clear hfz72_0
              try clear hfz72_1
              try clear hfz76_0
              try clear hfz76_1
              try clear hx335_0
              try clear hx335_1
              try clear hx345_0
              try clear hx346_0
              try clear hx351_0
              try clear hx352_0
              try clear hx60_0
              try clear p335
              try clear p345
              try clear p346
              try clear p351
              try clear p352
              try clear p60
              try clear q335
              try clear q345
              try clear q346
              try clear q351
              try clear q352
              try clear q60
              try clear q66
              try clear q71
              obtain ⟨kq, x99_73, rfl, HA, HJ73, HO_5, BK336, HB⟩ := hcut
              cases kq with
              | zero => exact absurd HA.out (by simp [impl_TermOk.j4])
              | succ kj73 =>
               have H := HA.out
               clear HA
               simp only [impl_TermOk.j4] at H
               by_cases c89 : x99_73 = true
               ·subst c89
                have H1 : (some false) = some r := by rw [if_pos rfl] at H; exact H
                clear H
                have H := H1
                clear H1
                obtain rfl := Option.some.inj H
                go_wp2
                go_ret
                exact ⟨by first | rfl | (simp [errW_none, errW_some] <;> rfl) | (simp [*, errW_none, errW_some] <;> rfl), by repeat (first | (with_reducible first | exact HB.out | apply below_alloc | apply pw_below_drewN | apply below_drew1 | refine below_set ?_ GE336.out) | exact HB.out)⟩
               ·replace c89 := Bool.eq_false_iff.mpr c89
                subst c89
                have H1 : (if 0 ≤ (wrap64 ((x5_2.length : Int) - 1)) then (if (wrap64 ((x5_2.length : Int) - 1)) ≤ (x5_2.length : Int) then (if ((rd_T42 l1 x25_2).f1) = 0 then (impl_TermOk.l0 kj73 a0 (x5_2.take ((wrap64 ((x5_2.length : Int) - 1)) : Int).toNat) l1 (l1.length : Int) (wrap64 (x25_2 + 1))) else (some false)) else (none)) else (none)) = some r := by rw [if_neg (show ¬ (false = true) by decide)] at H; exact H
                clear H
                have H := H1
                clear H1
                obtain ⟨ji90, hji90⟩ : ∃ j_ : Int, (wrap64 ((x5_2.length : Int) - 1)) = j_ := ⟨_, rfl⟩
                replace H : (if 0 ≤ (ji90) then (if (ji90) ≤ (x5_2.length : Int) then (if ((rd_T42 l1 x25_2).f1) = 0 then (impl_TermOk.l0 kj73 a0 (x5_2.take ((ji90) : Int).toNat) l1 (l1.length : Int) (wrap64 (x25_2 + 1))) else (some false)) else (none)) else (none)) = some r := by first | (rw [hji90] at H; exact H) | (simp only [hji90] at H ⊢; exact H)
                have hji90w : (IntKind.i64.wrap ((x5_2.length : Int) - 1)) = ji90 := (i64_w _).trans hji90
                by_cases c91 : 0 ≤ (ji90)
                ·rw [if_pos c91] at H
                 have c91b0 := eq_true c91
                 have c91b1 : decide (0 ≤ (ji90)) = true := decide_eq_true c91
                 clear c91
                 by_cases c92 : (ji90) ≤ (x5_2.length : Int)
                 ·rw [if_pos c92] at H
                  have c92b0 := eq_true c92
                  have c92b1 : decide ((ji90) ≤ (x5_2.length : Int)) = true := decide_eq_true c92
                  clear c92
                  obtain ⟨y353, hy353⟩ : ∃ y_ : List Int, y_ = (x5_2.take ((ji90) : Int).toNat) := ⟨_, rfl⟩
                  replace H : (if ((rd_T42 l1 x25_2).f1) = 0 then (impl_TermOk.l0 kj73 a0 y353 l1 (l1.length : Int) (wrap64 (x25_2 + 1))) else (some false)) = some r := by first | (rw [hy353]; with_reducible exact H) | (have H2_ := (Option.bind_some _ _).symm.trans H; rw [hy353]; with_reducible exact H2_) | (have H2_ := (Option.bind_some _ _).symm.trans H; with_reducible exact H2_) | with_reducible exact H | (rw [hy353]; exact H) | exact H
                  have Ny353 := Aside0.mk hy353
                  clear hy353
                  by_cases c93 : ((rd_T42 l1 x25_2).f1) = 0
                  ·rw [if_pos c93] at H
                   have c93b0 : (((rd_T42 l1 x25_2).f1) == 0) = true := beq_iff_eq.mpr c93
                   have c93b1 : (((rd_T42 l1 x25_2).f1) != 0) = false := bne_eq_false_iff_eq.mpr c93
                   clear c93
                   have H' := Aside0.mk H
                   clear H
                   have q94 : ((ji90) : Int) ≤ ((x5_2.length : Int) : Int) := of_decide_eq_true (by assumption)
                   obtain ⟨i094, hi094, _, hsz94, _⟩ := info_parts info3
                   have hcut94 := cut_to (P := Try.prog) 22 3 .i64 Try.underlying22 hi094 Ao77 x5_2.length co77 (ji90) (of_decide_eq_true (by assumption)) q94 (Kd.R_reads' HO_5.out).2.1
                   have hr94 := Kd.R_take (m := ((ji90) : Int).toNat) HO_5.out (by omega)
                   have hy94 : y353.length = ((ji90) : Int).toNat := (by rw [Ny353.out, List.length_take]; omega)
                   rw [← Ny353.out] at hr94
                   rw [← hy94] at hr94 hcut94
                   clear hy94 hi094 hsz94 HO_5
                   have HO355 := Aside0.mk hr94
                   clear hr94
                   replace q94 := eq_true q94
                   have hcz95_0 : wc.cell? ⟨gb336, 0, none⟩ = some (.int .i64 ((rd_T42 l1 x25_2).f0)) := (blk_cell BK336.out 0).trans rfl
                   have hcz95_1 : wc.cell? ⟨gb336, 1, none⟩ = some (.int .i64 ((rd_T42 l1 x25_2).f1)) := (blk_cell BK336.out 1).trans rfl
                   have hfz95_0 := blk_frozen BK336.out 0
                   have hfz95_1 := blk_frozen BK336.out 1
                   go_wp2
                   go_roundg kj73
                   case measure => have := HJ2.out; have := HK2.out; have := HJ73.out; omega
                   case rel => exact ⟨(y353), (wrap64 (x25_2 + 1)), (by first | rfl | (simp; done) | (simp [*]; done)), H', ⟨by have := HJ2.out; have := HK2.out; have := HJ73.out; omega⟩, ⟨by (with_reducible repeat (first | apply Kd.R_alloc | apply Kd.R_drewN | apply Kd.R_drew)); exact HO355.out⟩, ⟨by repeat (first | (with_reducible first | exact HB.out | apply below_alloc | apply pw_below_drewN | apply below_drew1 | refine below_set ?_ GE336.out) | exact HB.out)⟩⟩
                  ·rw [if_neg c93] at H
                   have c93b0 : (((rd_T42 l1 x25_2).f1) == 0) = false := beq_eq_false_iff_ne.mpr c93
                   have c93b1 : (((rd_T42 l1 x25_2).f1) != 0) = true := bne_iff_ne.mpr c93
                   obtain rfl := Option.some.inj H
                   have q96 : ((ji90) : Int) ≤ ((x5_2.length : Int) : Int) := of_decide_eq_true (by assumption)
                   obtain ⟨i096, hi096, _, hsz96, _⟩ := info_parts info3
                   have hcut96 := cut_to (P := Try.prog) 22 3 .i64 Try.underlying22 hi096 Ao77 x5_2.length co77 (ji90) (of_decide_eq_true (by assumption)) q96 (Kd.R_reads' HO_5.out).2.1
                   have hr96 := Kd.R_take (m := ((ji90) : Int).toNat) HO_5.out (by omega)
                   have hy96 : y353.length = ((ji90) : Int).toNat := (by rw [Ny353.out, List.length_take]; omega)
                   rw [← Ny353.out] at hr96
                   rw [← hy96] at hr96 hcut96
                   clear hy96 hi096 hsz96 HO_5
                   have HO355 := Aside0.mk hr96
                   clear hr96
                   replace q96 := eq_true q96
                   have hcz97_0 : wc.cell? ⟨gb336, 0, none⟩ = some (.int .i64 ((rd_T42 l1 x25_2).f0)) := (blk_cell BK336.out 0).trans rfl
                   have hcz97_1 : wc.cell? ⟨gb336, 1, none⟩ = some (.int .i64 ((rd_T42 l1 x25_2).f1)) := (blk_cell BK336.out 1).trans rfl
                   have hfz97_0 := blk_frozen BK336.out 0
                   have hfz97_1 := blk_frozen BK336.out 1
                   go_wp2
                   go_ret
                   exact ⟨by first | rfl | (simp [errW_none, errW_some] <;> rfl) | (simp only [← hji90]; first | rfl | (simp [errW_none, errW_some] <;> rfl)) | (simp [*, errW_none, errW_some] <;> rfl), by repeat (first | (with_reducible first | exact HB.out | apply below_alloc | apply pw_below_drewN | apply below_drew1 | refine below_set ?_ GE336.out) | exact HB.out)⟩
                 ·rw [if_neg c92] at H
                  exact absurd H (by simp)
                ·rw [if_neg c91] at H
                 exact absurd H (by simp)
            ·rw [if_neg c73] at H
             have c73b0 : (((rd_T42 l1 x25_2).f0) == 3) = false := beq_eq_false_iff_ne.mpr c73
             have c73b1 : (((rd_T42 l1 x25_2).f0) != 3) = true := bne_iff_ne.mpr c73
             obtain rfl := Option.some.inj H
             have p335 : 0 ≤ (x25_2 : Int) := of_decide_eq_true (by assumption)
             have q335 : x25_2 < (l1.length : Int) := of_decide_eq_true (by assumption)
             obtain ⟨ad335, e335, hx335_0, hx335_1⟩ := at_T42 HR1.out x25_2 p335 q335
             cases e335
             replace hx335_0 := (HB.out.cell (World.block_lt_of_cell? w _ hx335_0)).trans hx335_0
             replace hx335_1 := (HB.out.cell (World.block_lt_of_cell? w _ hx335_1)).trans hx335_1
             replace p335 := eq_true p335
             replace q335 := eq_true q335
             go_wp2_with (first | ((with_reducible refine gate_dst (N := 7) rfl ?_); (try (refine gate_guard (by rfl) ?_; dsimp only)); refine box_event ?hg (N := 7) ?hd (cs := #[.int .i64 0, .int .i64 0]) (t := 42) ?hr ?_; (case hd => rfl); (case hg => rfl); (case hr => first | (go_simp; done) | (go_simp; rfl)); intro gb336 hg w98 hbox hb; have n0_ := Aside0.mk (Kd.R_below (by (with_reducible repeat (first | apply Kd.R_alloc | apply Kd.R_drewN | apply Kd.R_drew)); exact HO_5.out) hb); have n1_ := Aside0.mk (below_step (by repeat first | with_reducible exact HB.out | apply below_alloc | apply pw_below_drewN | apply below_drew1) hb); have n2_ := Aside0.mk (hbox); have n3_ := Aside0.mk ((by rw [hg]; exact (below_size (by repeat first | with_reducible exact HB.out | apply below_alloc | apply pw_below_drewN | apply below_drew1)) : w.heap.size ≤ gb336)); have n4_ := Aside0.mk ((by rw [hg]; exact (below_size (by repeat first | with_reducible exact HB.out | apply below_alloc | apply pw_below_drewN | apply below_drew1)) : w.heap.size ≤ gb336)); clear HO_5; clear HB; have HO_5 := n0_; have HB := n1_; have BK336 := n2_; have GW336 := n3_; have GE336 := n4_; clear n0_ n1_ n2_ n3_ n4_; clear hb hbox hg; have hcz99_0 : w98.cell? ⟨gb336, 0, none⟩ = some (.int .i64 0) := (blk_cell BK336.out 0).trans rfl; have hcz99_1 : w98.cell? ⟨gb336, 1, none⟩ = some (.int .i64 0) := (blk_cell BK336.out 1).trans rfl; have hfz99_0 := blk_frozen BK336.out 0; have hfz99_1 := blk_frozen BK336.out 1; obtain ⟨Ao100, co100, eo100⟩ := Kd.R_slice HO_5.out; subst eo100))
             go_ret
             exact ⟨by first | rfl | (simp [errW_none, errW_some] <;> rfl) | (simp [*, errW_none, errW_some] <;> rfl), by repeat (first | (with_reducible first | exact HB.out | apply below_alloc | apply pw_below_drewN | apply below_drew1 | refine below_set ?_ GE336.out) | exact HB.out)⟩
        ·rw [if_neg c12] at H
         exact absurd H (by simp)
       ·rw [if_neg c11] at H
        exact absurd H (by simp)
      ·rw [if_neg c10] at H
       have c10b0 : decide (x25_2 < (l1.length : Int)) = false := decide_eq_false c10
       clear c10
       obtain rfl := Option.some.inj H
       obtain ⟨Ao101, co101, eo101⟩ := Kd.R_slice HO_5.out
       subst eo101
       go_wp2
       go_ret
       exact ⟨by first | rfl | (simp [errW_none, errW_some] <;> rfl) | (simp [*, errW_none, errW_some] <;> rfl), by repeat first | with_reducible exact HB.out | apply below_alloc | apply pw_below_drewN | apply below_drew1⟩

end Go.Proofs.Ytojaioejdfibhaa.PFnTermWays
