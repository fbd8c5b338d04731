/- Walks of the functions that the law FnReadTerm reaches, written by a program of this session. No condition but those that each states. -/
import Derived.Test.YtpnloocdeljmhaaOFnReadTermx0
import Derived.Test.YtpnloocdeljmhaaOFnReadTermx6
import Derived.Test.YtpnloocdeljmhaaOFnReadTermx7
namespace Go.Proofs.Ytpnloocdeljmhaa.PFnReadTerm
open Go.RowKit Go.Proofs.YtpnloocdeljmhaaW.PrintWords Go.Proofs.YtpnloocdeljmhaaW.PrintLast Go.Proofs.YtpnloocdeljmhaaW.PrintMore
attribute [local go_sem] max2_int min2_int max_two min_two max_three min_three max_four min_four   -- for this text's walks alone
set_option linter.unusedVariables false
set_option linter.unusedSimpArgs false

/-! ### spec_l9Atom: function 72 -/
mutual
def spec_l9Atom.j0 (T : ByteArray → Int → Option (List (S34) × Int)) : Nat → ByteArray → Int → Bool → Option ((List (S34)) × Int)
 | 0, _, _, _ => none
 | k + 1, x0, x1, x15 => if x15 = true then (some ((([] : List (S34))), (-1))) else (if 0 ≤ x1 then (if x1 < (x0.size : Int) then (if (bt x0 x1) ≥ 97 then (spec_l9Atom.j1 T k x0 x1 (decide ((bt x0 x1) ≤ 99))) else (spec_l9Atom.j1 T k x0 x1 false)) else (none)) else (none))
def spec_l9Atom.j1 (T : ByteArray → Int → Option (List (S34) × Int)) : Nat → ByteArray → Int → Bool → Option ((List (S34)) × Int)
 | 0, _, _, _ => none
 | k + 1, x0, x1, x17 => if x17 = true then (if 0 ≤ x1 then (if x1 < (x0.size : Int) then (some ((([(⟨0, ((bt x0 x1) - 97) % 256⟩ : S34)] : List (S34))), wrap64 (x1 + 1))) else (none)) else (none)) else (if 0 ≤ x1 then (if x1 < (x0.size : Int) then (if (bt x0 x1) = 46 then (some ((([(⟨1, 0⟩ : S34)] : List (S34))), wrap64 (x1 + 1))) else (if (bt x0 x1) = 40 then ((T x0 (wrap64 (x1 + 1))).bind fun bt302 => (if bt302.2 < 0 then (some ((([] : List (S34))), (-1))) else (if bt302.2 ≥ (x0.size : Int) then (some ((([] : List (S34))), (-1))) else (if 0 ≤ bt302.2 then (if bt302.2 < (x0.size : Int) then (if (bt x0 bt302.2) = 41 then (some (bt302.1, wrap64 (bt302.2 + 1))) else (some ((([] : List (S34))), (-1)))) else (none)) else (none))))) else (some ((([] : List (S34))), (-1))))) else (none)) else (none))
end
def spec_l9Atom.f (T : ByteArray → Int → Option (List (S34) × Int)) (k : Nat) (a0 : ByteArray) (a1 : Int) : Option ((List (S34)) × Int) := if a1 < 0 then (spec_l9Atom.j0 T k a0 a1 true) else (spec_l9Atom.j0 T k a0 a1 (decide (a1 ≥ (a0.size : Int))))
set_option maxHeartbeats 8000000 in
set_option maxRecDepth 100000 in
theorem spec_l9Atom.calls (T : ByteArray → Int → Option (List (S34) × Int)) (hT : ∀ (a0 : ByteArray) (a1 : Int) (r1 : List (S34)) (r2 : Int) (w : World) (h : T a0 a1 = some (r1, r2)), Calls Try.prog 61 #[.string a0, .int .i64 a1] w fun e w' => ∃ v0_ : Value, e = .returned (.tuple #[v0_, .int .i64 r2]) ∧ Kd.R k34 34 w' w.heap.size (fun _ => True) v0_ r1 ∧ Below w.heap.size w w') (k : Nat) (a0 : ByteArray) (a1 : Int) (r1 : List (S34)) (r2 : Int) (w : World) (h : spec_l9Atom.f T k a0 a1 = some (r1, r2)) :
  Calls Try.prog 72 #[.string a0, .int .i64 a1] w fun e w' => ∃ v0_ : Value, e = .returned (.tuple #[v0_, .int .i64 r2]) ∧ Kd.R k34 34 w' w.heap.size (fun _ => True) v0_ r1 ∧ Below w.heap.size w w' := by
 have hu34 := Try.underlying34
 have HB := Aside0.mk (Below.refl w.heap.size w)
 have H : (if a1 < 0 then (spec_l9Atom.j0 T k a0 a1 true) else (spec_l9Atom.j0 T k a0 a1 (decide (a1 ≥ (a0.size : Int))))) = some (r1, r2) := h
 clear h
 have HC3 := Aside0.mk H
 clear H
 go_enter Try.func72, Try.ntmps72
 go_upto_region 1 with (fail)
 go_cut [15] (fun v15 wc => ∃ (kq : Nat) (x15_2 : Bool), v15 = .bool x15_2 ∧ Aside0 (spec_l9Atom.j0 T kq a0 a1 x15_2 = some (r1, r2)) ∧ Aside0 (kq ≤ k) ∧ Aside0 (Below w.heap.size w wc))
 case first =>
  have H := HC3.out
  clear HC3
  by_cases c4 : a1 < 0
  ·rw [if_pos c4] at H
   have c4b0 : decide (a1 < 0) = true := decide_eq_true c4
   clear c4
   (first | rw [c4b0] | (simp only [i64_w, i32_w]; rw [c4b0]) | skip)
   have H' := Aside0.mk H
   clear H
   go_wp2
   go_meet
   case rel => exact ⟨_, (true), (by first | rfl | (simp; done) | (simp [*]; done)), H', ⟨by first | omega | exact Nat.le_refl _⟩, ⟨HB.out⟩⟩
  ·rw [if_neg c4] at H
   have c4b0 : decide (a1 < 0) = false := decide_eq_false c4
   clear c4
   (first | rw [c4b0] | (simp only [i64_w, i32_w]; rw [c4b0]) | skip)
   have H' := Aside0.mk H
   clear H
   go_wp2
   go_meet
   case rel => exact ⟨_, (decide (a1 ≥ (a0.size : Int))), (by first | rfl | (simp; done) | (simp [*]; done)), H', ⟨by first | omega | exact Nat.le_refl _⟩, ⟨HB.out⟩⟩
 case rest =>
  clear HC3
  try clear p2
  try clear c4
  try clear c4b0
  obtain ⟨kq, x15_2, rfl, HA, HJ2, HB⟩ := hcut
  cases kq with
  | zero => exact absurd HA.out (by simp [spec_l9Atom.j0])
  | succ kj2 =>
   have H := HA.out
   clear HA
   simp only [spec_l9Atom.j0] at H
   by_cases c5 : x15_2 = true
   ·subst c5
    have H1 : (some ((([] : List (S34))), (-1))) = some (r1, r2) := by rw [if_pos rfl] at H; exact H
    clear H
    have H := H1
    clear H1
    obtain ⟨y293, hy293⟩ : ∃ y_ : List (S34), y_ = (([] : List (S34))) := ⟨_, rfl⟩
    replace H : (some (y293, (-1))) = some (r1, r2) := by first | (rw [hy293]; with_reducible exact H) | (have H2_ := (Option.bind_some _ _).symm.trans H; rw [hy293]; with_reducible exact H2_) | (have H2_ := (Option.bind_some _ _).symm.trans H; with_reducible exact H2_) | with_reducible exact H | (rw [hy293]; exact H) | exact H
    have Ny293 := Aside0.mk hy293
    clear hy293
    simp only [Option.some.injEq, Prod.mk.injEq] at H
    obtain ⟨rfl, rfl⟩ := H
    go_wp2_with (first | ((with_reducible refine gate_dst (N := 16) rfl ?_); (try (refine gate_guard (by rfl) ?_; dsimp only)); refine Kd.R_lit k34 _ 34 ?hg (N := 16) ?hd (xs := ([] : List (S34))) (inner := []) (ok := fun _ => True) (okp := fun _ => True) ?hr ?hp (fun _ hk => hk) trivial (Below.refl _ _) (Nat.le_refl _) (by simp) ?_; (case hd => rfl); (case hg => rfl); (case hr => first | (go_simp; done) | (go_simp; rfl)); (case hp => exact (Reps.none _ _)); intro v294 w6 ho7 hb hg_ hnew_; clear hg_ hnew_; (first | rw [← Ny293.out] at ho7 | (simp only [Int.reduceToNat] at ho7; rw [← Ny293.out] at ho7)); have n0_ := Aside0.mk (Kd.R_lower ho7 (below_size (HB.out))); have n1_ := Aside0.mk (below_step (HB.out) hb); clear HB; have HO295 := n0_; have HB := n1_; clear n0_ n1_; clear hb ho7))
    go_ret2
    exact ⟨_, by first | rfl | (simp [errW_none, errW_some] <;> rfl) | (simp [*, errW_none, errW_some] <;> rfl), by exact HO295.out, HB.out⟩
   ·replace c5 := Bool.eq_false_iff.mpr c5
    subst c5
    have H1 : (if 0 ≤ a1 then (if a1 < (a0.size : Int) then (if (bt a0 a1) ≥ 97 then (spec_l9Atom.j1 T kj2 a0 a1 (decide ((bt a0 a1) ≤ 99))) else (spec_l9Atom.j1 T kj2 a0 a1 false)) else (none)) else (none)) = some (r1, r2) := by rw [if_neg (show ¬ (false = true) by decide)] at H; exact H
    clear H
    have H := H1
    clear H1
    have HC8 := Aside0.mk H
    clear H
    go_upto_region 3 with (fail)
    go_cut [17] (fun v17 wc => ∃ (kq : Nat) (x17_7 : Bool), v17 = .bool x17_7 ∧ Aside0 (spec_l9Atom.j1 T kq a0 a1 x17_7 = some (r1, r2)) ∧ Aside0 (kq ≤ kj2) ∧ Aside0 (Below w.heap.size w wc))
    case first =>
     have H := HC8.out
     clear HC8
     by_cases c9 : 0 ≤ a1
     ·rw [if_pos c9] at H
      have c9b0 : decide (0 ≤ a1) = true := decide_eq_true c9
      clear c9
      (first | rw [c9b0] | (simp only [i64_w, i32_w]; rw [c9b0]) | skip)
      by_cases c10 : a1 < (a0.size : Int)
      ·rw [if_pos c10] at H
       have c10b0 : decide (a1 < (a0.size : Int)) = true := decide_eq_true c10
       clear c10
       by_cases c12 : (bt a0 a1) ≥ 97
       ·rw [if_pos c12] at H
        have c12b0 : decide (97 ≤ (bt a0 a1)) = true := decide_eq_true c12
        clear c12
        have H' := Aside0.mk H
        clear H
        have p11 : 0 ≤ (a1 : Int) := of_decide_eq_true (by assumption)
        have q11 : a1 < (a0.size : Int) := of_decide_eq_true (by assumption)
        have hx11 := bt_at a0 a1
        replace p11 := eq_true p11
        replace q11 := eq_true q11
        have p13 : 0 ≤ (a1 : Int) := of_decide_eq_true (by assumption)
        have q13 : a1 < (a0.size : Int) := of_decide_eq_true (by assumption)
        have hx13 := bt_at a0 a1
        replace p13 := eq_true p13
        replace q13 := eq_true q13
        go_wp2
        go_meet
        case rel => exact ⟨_, (decide ((bt a0 a1) ≤ 99)), (by first | rfl | (simp; done) | (simp [*]; done)), H', ⟨by have := HJ2.out; first | omega | exact Nat.le_refl _⟩, ⟨HB.out⟩⟩
       ·rw [if_neg c12] at H
        have c12b0 : decide (97 ≤ (bt a0 a1)) = false := decide_eq_false c12
        clear c12
        have H' := Aside0.mk H
        clear H
        have p11 : 0 ≤ (a1 : Int) := of_decide_eq_true (by assumption)
        have q11 : a1 < (a0.size : Int) := of_decide_eq_true (by assumption)
        have hx11 := bt_at a0 a1
        replace p11 := eq_true p11
        replace q11 := eq_true q11
        go_wp2
        go_meet
        case rel => exact ⟨_, (false), (by first | rfl | (simp; done) | (simp [*]; done)), H', ⟨by have := HJ2.out; first | omega | exact Nat.le_refl _⟩, ⟨HB.out⟩⟩
      ·rw [if_neg c10] at H
       exact absurd H (by simp)
     ·rw [if_neg c9] at H
      exact absurd H (by simp)
    case rest =>
     clear HC8
     try clear c1
     try clear p1
     try clear q1
     try clear hx1
     try clear p2
     try clear c4
     try clear c4b0
     try clear c5
     try clear c7
     try clear c9
     try clear c9b0
     try clear c10
     try clear c10b0
     try clear p11
     try clear q11
     try clear hx11
     try clear c12
     try clear c12b0
     try clear p13
     try clear q13
     try clear hx13
     try clear p11
     try clear p13
     try clear p2
     try clear q11
     try clear q13
     obtain ⟨kq, x17_7, rfl, HA, HJ7, HB⟩ := hcut
     cases kq with
     | zero => exact absurd HA.out (by simp [spec_l9Atom.j1])
     | succ kj7 =>
      have H := HA.out
      clear HA
      simp only [spec_l9Atom.j1] at H
      by_cases c14 : x17_7 = true
      ·subst c14
       have H1 : (if 0 ≤ a1 then (if a1 < (a0.size : Int) then (some ((([(⟨0, ((bt a0 a1) - 97) % 256⟩ : S34)] : List (S34))), wrap64 (a1 + 1))) else (none)) else (none)) = some (r1, r2) := by rw [if_pos rfl] at H; exact H
       clear H
       have H := H1
       clear H1
       by_cases c15 : 0 ≤ a1
       ·rw [if_pos c15] at H
        have c15b0 : decide (0 ≤ a1) = true := decide_eq_true c15
        clear c15
        by_cases c16 : a1 < (a0.size : Int)
        ·rw [if_pos c16] at H
         have c16b0 : decide (a1 < (a0.size : Int)) = true := decide_eq_true c16
         clear c16
         obtain ⟨y296, hy296⟩ : ∃ y_ : List (S34), y_ = (([(⟨0, ((bt a0 a1) - 97) % 256⟩ : S34)] : List (S34))) := ⟨_, rfl⟩
         replace H : (some (y296, wrap64 (a1 + 1))) = some (r1, r2) := by first | (rw [hy296]; with_reducible exact H) | (have H2_ := (Option.bind_some _ _).symm.trans H; rw [hy296]; with_reducible exact H2_) | (have H2_ := (Option.bind_some _ _).symm.trans H; with_reducible exact H2_) | with_reducible exact H | (rw [hy296]; exact H) | exact H
         have Ny296 := Aside0.mk hy296
         clear hy296
         simp only [Option.some.injEq, Prod.mk.injEq] at H
         obtain ⟨rfl, rfl⟩ := H
         have p17 : 0 ≤ (a1 : Int) := of_decide_eq_true (by assumption)
         have q17 : a1 < (a0.size : Int) := of_decide_eq_true (by assumption)
         have hx17 := bt_at a0 a1
         replace p17 := eq_true p17
         replace q17 := eq_true q17
         go_wp2_with (first | ((with_reducible refine gate_dst (N := 34) rfl ?_); (try (refine gate_guard (by rfl) ?_; dsimp only)); refine Kd.R_lit k34 _ 34 ?hg (N := 34) ?hd (xs := ([(⟨0, ((bt a0 a1) - 97) % 256⟩ : S34)] : List (S34))) (inner := [.int .i64 0, .int .i64 (((bt a0 a1) - 97) % 256)]) (ok := fun _ => True) (okp := fun _ => True) ?hr ?hp (fun _ hk => hk) trivial (Below.refl _ _) (Nat.le_refl _) (by simp) ?_; (case hd => rfl); (case hg => rfl); (case hr => first | (go_simp; done) | (go_simp; rfl)); (case hp => exact (Reps.c2 (show Kd.M k34 _ _ _ (⟨0, ((bt a0 a1) - 97) % 256⟩ : S34) [.int .i64 0, .int .i64 (((bt a0 a1) - 97) % 256)] from (k34_mkM _ _ _ (⟨0, ((bt a0 a1) - 97) % 256⟩ : S34) )) (Reps.none _ _))); intro v297 w18 ho19 hb hg_ hnew_; clear hg_ hnew_; (first | rw [← Ny296.out] at ho19 | (simp only [Int.reduceToNat] at ho19; rw [← Ny296.out] at ho19)); have n0_ := Aside0.mk (Kd.R_lower ho19 (below_size (HB.out))); have n1_ := Aside0.mk (below_step (HB.out) hb); clear HB; have HO298 := n0_; have HB := n1_; clear n0_ n1_; clear hb ho19))
         go_ret2
         exact ⟨_, by first | rfl | (simp [errW_none, errW_some] <;> rfl) | (simp [*, errW_none, errW_some] <;> rfl), by exact HO298.out, HB.out⟩
        ·rw [if_neg c16] at H
         exact absurd H (by simp)
       ·rw [if_neg c15] at H
        exact absurd H (by simp)
      ·replace c14 := Bool.eq_false_iff.mpr c14
       subst c14
       have H1 : (if 0 ≤ a1 then (if a1 < (a0.size : Int) then (if (bt a0 a1) = 46 then (some ((([(⟨1, 0⟩ : S34)] : List (S34))), wrap64 (a1 + 1))) else (if (bt a0 a1) = 40 then ((T a0 (wrap64 (a1 + 1))).bind fun bt302 => (if bt302.2 < 0 then (some ((([] : List (S34))), (-1))) else (if bt302.2 ≥ (a0.size : Int) then (some ((([] : List (S34))), (-1))) else (if 0 ≤ bt302.2 then (if bt302.2 < (a0.size : Int) then (if (bt a0 bt302.2) = 41 then (some (bt302.1, wrap64 (bt302.2 + 1))) else (some ((([] : List (S34))), (-1)))) else (none)) else (none))))) else (some ((([] : List (S34))), (-1))))) else (none)) else (none)) = some (r1, r2) := by rw [if_neg (show ¬ (false = true) by decide)] at H; exact H
       clear H
       have H := H1
       clear H1
       by_cases c20 : 0 ≤ a1
       ·rw [if_pos c20] at H
        have c20b0 : decide (0 ≤ a1) = true := decide_eq_true c20
        clear c20
        by_cases c21 : a1 < (a0.size : Int)
        ·rw [if_pos c21] at H
         have c21b0 : decide (a1 < (a0.size : Int)) = true := decide_eq_true c21
         clear c21
         by_cases c23 : (bt a0 a1) = 46
         ·rw [if_pos c23] at H
          have c23b0 : ((bt a0 a1) == 46) = true := beq_iff_eq.mpr c23
          have c23b1 : ((bt a0 a1) != 46) = false := bne_eq_false_iff_eq.mpr c23
          clear c23
          obtain ⟨y299, hy299⟩ : ∃ y_ : List (S34), y_ = (([(⟨1, 0⟩ : S34)] : List (S34))) := ⟨_, rfl⟩
          replace H : (some (y299, wrap64 (a1 + 1))) = some (r1, r2) := by first | (rw [hy299]; with_reducible exact H) | (have H2_ := (Option.bind_some _ _).symm.trans H; rw [hy299]; with_reducible exact H2_) | (have H2_ := (Option.bind_some _ _).symm.trans H; with_reducible exact H2_) | with_reducible exact H | (rw [hy299]; exact H) | exact H
          have Ny299 := Aside0.mk hy299
          clear hy299
          simp only [Option.some.injEq, Prod.mk.injEq] at H
          obtain ⟨rfl, rfl⟩ := H
          have p22 : 0 ≤ (a1 : Int) := of_decide_eq_true (by assumption)
          have q22 : a1 < (a0.size : Int) := of_decide_eq_true (by assumption)
          have hx22 := bt_at a0 a1
          replace p22 := eq_true p22
          replace q22 := eq_true q22
          go_wp2_with (first | ((with_reducible refine gate_dst (N := 43) rfl ?_); (try (refine gate_guard (by rfl) ?_; dsimp only)); refine Kd.R_lit k34 _ 34 ?hg (N := 43) ?hd (xs := ([(⟨1, 0⟩ : S34)] : List (S34))) (inner := [.int .i64 1, .int .i64 0]) (ok := fun _ => True) (okp := fun _ => True) ?hr ?hp (fun _ hk => hk) trivial (Below.refl _ _) (Nat.le_refl _) (by simp) ?_; (case hd => rfl); (case hg => rfl); (case hr => first | (go_simp; done) | (go_simp; rfl)); (case hp => exact (Reps.c2 (show Kd.M k34 _ _ _ (⟨1, 0⟩ : S34) [.int .i64 1, .int .i64 0] from (k34_mkM _ _ _ (⟨1, 0⟩ : S34) )) (Reps.none _ _))); intro v300 w24 ho25 hb hg_ hnew_; clear hg_ hnew_; (first | rw [← Ny299.out] at ho25 | (simp only [Int.reduceToNat] at ho25; rw [← Ny299.out] at ho25)); have n0_ := Aside0.mk (Kd.R_lower ho25 (below_size (HB.out))); have n1_ := Aside0.mk (below_step (HB.out) hb); clear HB; have HO301 := n0_; have HB := n1_; clear n0_ n1_; clear hb ho25))
          go_ret2
          exact ⟨_, by first | rfl | (simp [errW_none, errW_some] <;> rfl) | (simp [*, errW_none, errW_some] <;> rfl), by exact HO301.out, HB.out⟩
         ·rw [if_neg c23] at H
          have c23b0 : ((bt a0 a1) == 46) = false := beq_eq_false_iff_ne.mpr c23
          have c23b1 : ((bt a0 a1) != 46) = true := bne_iff_ne.mpr c23
          by_cases c27 : (bt a0 a1) = 40
          ·rw [if_pos c27] at H
           have c27b0 : ((bt a0 a1) == 40) = true := beq_iff_eq.mpr c27
           have c27b1 : ((bt a0 a1) != 40) = false := bne_eq_false_iff_eq.mpr c27
           clear c27
           replace H := Option.bind_eq_some_iff.mp H
           obtain ⟨⟨t302, t303⟩, A280, H⟩ := H
           try dsimp only at H
           have A28 := Aside0.mk A280
           clear A280
           by_cases c29 : t303 < 0
           ·rw [if_pos c29] at H
            have c29b0 : decide (t303 < 0) = true := decide_eq_true c29
            clear c29
            obtain ⟨y306, hy306⟩ : ∃ y_ : List (S34), y_ = (([] : List (S34))) := ⟨_, rfl⟩
            replace H : (some (y306, (-1))) = some (r1, r2) := by first | (rw [hy306]; with_reducible exact H) | (have H2_ := (Option.bind_some _ _).symm.trans H; rw [hy306]; with_reducible exact H2_) | (have H2_ := (Option.bind_some _ _).symm.trans H; with_reducible exact H2_) | with_reducible exact H | (rw [hy306]; exact H) | exact H
            have Ny306 := Aside0.mk hy306
            clear hy306
            simp only [Option.some.injEq, Prod.mk.injEq] at H
            obtain ⟨rfl, rfl⟩ := H
            have p22 : 0 ≤ (a1 : Int) := of_decide_eq_true (by assumption)
            have q22 : a1 < (a0.size : Int) := of_decide_eq_true (by assumption)
            have hx22 := bt_at a0 a1
            replace p22 := eq_true p22
            replace q22 := eq_true q22
            have p26 : 0 ≤ (a1 : Int) := of_decide_eq_true (by assumption)
            have q26 : a1 < (a0.size : Int) := of_decide_eq_true (by assumption)
            have hx26 := bt_at a0 a1
            replace p26 := eq_true p26
            replace q26 := eq_true q26
            go_wp2_with (first | ((with_reducible refine gate_callee (f := 61) rfl ?_); refine goesL_ (some 55) rfl rfl Try.func61 (by kernel_rfl) rfl #[.string a0, .int .i64 (wrap64 (a1 + 1))] rfl (by (try simp only [List.map_toArray, List.map_cons, List.map_nil]); first | done | rfl | (simp only [List.length_drop, List.length_take]; rfl)) ?_; (with_reducible refine (hT a0 (wrap64 (a1 + 1)) t302 t303 _ A28.out).mono ?_); rintro e w30 ⟨v304, rfl, ho0, hb⟩; refine ⟨_, rfl, ?_⟩; have n0_ := Aside0.mk (Kd.R_lower ho0 (below_size (HB.out))); have n1_ := Aside0.mk (below_step (HB.out) hb); clear HB; have HO305 := n0_; have HB := n1_; clear n0_ n1_; (try clear ho0)) | ((with_reducible refine gate_dst (N := 72) rfl ?_); (try (refine gate_guard (by rfl) ?_; dsimp only)); refine Kd.R_lit k34 _ 34 ?hg (N := 72) ?hd (xs := ([] : List (S34))) (inner := []) (ok := fun _ => True) (okp := fun _ => True) ?hr ?hp (fun _ hk => hk) trivial (Below.refl _ _) (Nat.le_refl _) (by simp) ?_; (case hd => rfl); (case hg => rfl); (case hr => first | (go_simp; done) | (go_simp; rfl)); (case hp => exact (Reps.none _ _)); intro v307 w31 ho32 hb hg_ hnew_; clear hg_ hnew_; (first | rw [← Ny306.out] at ho32 | (simp only [Int.reduceToNat] at ho32; rw [← Ny306.out] at ho32)); have n0_ := Aside0.mk (Kd.R_elder' (by exact HO305.out) (Kd.R_base ho32) hb); have n1_ := Aside0.mk (Kd.R_lower (Kd.R_new' ho32 (Kd.R_lt (by exact HO305.out))) (below_size (HB.out))); have n2_ := Aside0.mk (below_step (HB.out) hb); clear HO305; clear HB; have HO305 := n0_; have HO308 := n1_; have HB := n2_; clear n0_ n1_ n2_; clear hb ho32))
            go_ret2
            exact ⟨_, by first | rfl | (simp [errW_none, errW_some] <;> rfl) | (simp [*, errW_none, errW_some] <;> rfl), by exact Kd.R_mono HO308.out (fun _ hk => trivial), HB.out⟩
           ·rw [if_neg c29] at H
            have c29b0 : decide (t303 < 0) = false := decide_eq_false c29
            clear c29
            by_cases c33 : t303 ≥ (a0.size : Int)
            ·rw [if_pos c33] at H
             have c33b0 : decide ((a0.size : Int) ≤ t303) = true := decide_eq_true c33
             clear c33
             obtain ⟨y309, hy309⟩ : ∃ y_ : List (S34), y_ = (([] : List (S34))) := ⟨_, rfl⟩
             replace H : (some (y309, (-1))) = some (r1, r2) := by first | (rw [hy309]; with_reducible exact H) | (have H2_ := (Option.bind_some _ _).symm.trans H; rw [hy309]; with_reducible exact H2_) | (have H2_ := (Option.bind_some _ _).symm.trans H; with_reducible exact H2_) | with_reducible exact H | (rw [hy309]; exact H) | exact H
             have Ny309 := Aside0.mk hy309
             clear hy309
             simp only [Option.some.injEq, Prod.mk.injEq] at H
             obtain ⟨rfl, rfl⟩ := H
             have p22 : 0 ≤ (a1 : Int) := of_decide_eq_true (by assumption)
             have q22 : a1 < (a0.size : Int) := of_decide_eq_true (by assumption)
             have hx22 := bt_at a0 a1
             replace p22 := eq_true p22
             replace q22 := eq_true q22
             have p26 : 0 ≤ (a1 : Int) := of_decide_eq_true (by assumption)
             have q26 : a1 < (a0.size : Int) := of_decide_eq_true (by assumption)
             have hx26 := bt_at a0 a1
             replace p26 := eq_true p26
             replace q26 := eq_true q26
             go_wp2_with (first | ((with_reducible refine gate_callee (f := 61) rfl ?_); refine goesL_ (some 55) rfl rfl Try.func61 (by kernel_rfl) rfl #[.string a0, .int .i64 (wrap64 (a1 + 1))] rfl (by (try simp only [List.map_toArray, List.map_cons, List.map_nil]); first | done | rfl | (simp only [List.length_drop, List.length_take]; rfl)) ?_; (with_reducible refine (hT a0 (wrap64 (a1 + 1)) t302 t303 _ A28.out).mono ?_); rintro e w34 ⟨v304, rfl, ho0, hb⟩; refine ⟨_, rfl, ?_⟩; have n0_ := Aside0.mk (Kd.R_lower ho0 (below_size (HB.out))); have n1_ := Aside0.mk (below_step (HB.out) hb); clear HB; have HO305 := n0_; have HB := n1_; clear n0_ n1_; (try clear ho0)) | ((with_reducible refine gate_dst (N := 72) rfl ?_); (try (refine gate_guard (by rfl) ?_; dsimp only)); refine Kd.R_lit k34 _ 34 ?hg (N := 72) ?hd (xs := ([] : List (S34))) (inner := []) (ok := fun _ => True) (okp := fun _ => True) ?hr ?hp (fun _ hk => hk) trivial (Below.refl _ _) (Nat.le_refl _) (by simp) ?_; (case hd => rfl); (case hg => rfl); (case hr => first | (go_simp; done) | (go_simp; rfl)); (case hp => exact (Reps.none _ _)); intro v310 w35 ho36 hb hg_ hnew_; clear hg_ hnew_; (first | rw [← Ny309.out] at ho36 | (simp only [Int.reduceToNat] at ho36; rw [← Ny309.out] at ho36)); have n0_ := Aside0.mk (Kd.R_elder' (by exact HO305.out) (Kd.R_base ho36) hb); have n1_ := Aside0.mk (Kd.R_lower (Kd.R_new' ho36 (Kd.R_lt (by exact HO305.out))) (below_size (HB.out))); have n2_ := Aside0.mk (below_step (HB.out) hb); clear HO305; clear HB; have HO305 := n0_; have HO311 := n1_; have HB := n2_; clear n0_ n1_ n2_; clear hb ho36))
             go_ret2
             exact ⟨_, by first | rfl | (simp [errW_none, errW_some] <;> rfl) | (simp [*, errW_none, errW_some] <;> rfl), by exact Kd.R_mono HO311.out (fun _ hk => trivial), HB.out⟩
            ·rw [if_neg c33] at H
             have c33b0 : decide ((a0.size : Int) ≤ t303) = false := decide_eq_false c33
             clear c33
             by_cases c37 : 0 ≤ t303
             ·rw [if_pos c37] at H
              have c37b0 : decide (0 ≤ t303) = true := decide_eq_true c37
              clear c37
              by_cases c38 : t303 < (a0.size : Int)
              ·rw [if_pos c38] at H
               have c38b0 : decide (t303 < (a0.size : Int)) = true := decide_eq_true c38
               clear c38
               by_cases c40 : (bt a0 t303) = 41
               ·rw [if_pos c40] at H
                have c40b0 : ((bt a0 t303) == 41) = true := beq_iff_eq.mpr c40
                have c40b1 : ((bt a0 t303) != 41) = false := bne_eq_false_iff_eq.mpr c40
                clear c40
                simp only [Option.some.injEq, Prod.mk.injEq] at H
                obtain ⟨rfl, rfl⟩ := H
                have p22 : 0 ≤ (a1 : Int) := of_decide_eq_true (by assumption)
                have q22 : a1 < (a0.size : Int) := of_decide_eq_true (by assumption)
                have hx22 := bt_at a0 a1
                replace p22 := eq_true p22
                replace q22 := eq_true q22
                have p26 : 0 ≤ (a1 : Int) := of_decide_eq_true (by assumption)
                have q26 : a1 < (a0.size : Int) := of_decide_eq_true (by assumption)
                have hx26 := bt_at a0 a1
                replace p26 := eq_true p26
                replace q26 := eq_true q26
                go_wp2_with (first | ((with_reducible refine gate_callee (f := 61) rfl ?_); refine goesL_ (some 55) rfl rfl Try.func61 (by kernel_rfl) rfl #[.string a0, .int .i64 (wrap64 (a1 + 1))] rfl (by (try simp only [List.map_toArray, List.map_cons, List.map_nil]); first | done | rfl | (simp only [List.length_drop, List.length_take]; rfl)) ?_; (with_reducible refine (hT a0 (wrap64 (a1 + 1)) t302 t303 _ A28.out).mono ?_); rintro e w41 ⟨v304, rfl, ho0, hb⟩; refine ⟨_, rfl, ?_⟩; have n0_ := Aside0.mk (Kd.R_lower ho0 (below_size (HB.out))); have n1_ := Aside0.mk (below_step (HB.out) hb); clear HB; have HO305 := n0_; have HB := n1_; clear n0_ n1_; (try clear ho0); have p39 : 0 ≤ (t303 : Int) := of_decide_eq_true (by assumption); have q39 : t303 < (a0.size : Int) := of_decide_eq_true (by assumption); have hx39 := bt_at a0 t303; replace p39 := eq_true p39; replace q39 := eq_true q39))
                go_ret2
                exact ⟨_, by first | rfl | (simp [errW_none, errW_some] <;> rfl) | (simp [*, errW_none, errW_some] <;> rfl), by exact HO305.out, HB.out⟩
               ·rw [if_neg c40] at H
                have c40b0 : ((bt a0 t303) == 41) = false := beq_eq_false_iff_ne.mpr c40
                have c40b1 : ((bt a0 t303) != 41) = true := bne_iff_ne.mpr c40
                obtain ⟨y312, hy312⟩ : ∃ y_ : List (S34), y_ = (([] : List (S34))) := ⟨_, rfl⟩
                replace H : (some (y312, (-1))) = some (r1, r2) := by first | (rw [hy312]; with_reducible exact H) | (have H2_ := (Option.bind_some _ _).symm.trans H; rw [hy312]; with_reducible exact H2_) | (have H2_ := (Option.bind_some _ _).symm.trans H; with_reducible exact H2_) | with_reducible exact H | (rw [hy312]; exact H) | exact H
                have Ny312 := Aside0.mk hy312
                clear hy312
                simp only [Option.some.injEq, Prod.mk.injEq] at H
                obtain ⟨rfl, rfl⟩ := H
                have p22 : 0 ≤ (a1 : Int) := of_decide_eq_true (by assumption)
                have q22 : a1 < (a0.size : Int) := of_decide_eq_true (by assumption)
                have hx22 := bt_at a0 a1
                replace p22 := eq_true p22
                replace q22 := eq_true q22
                have p26 : 0 ≤ (a1 : Int) := of_decide_eq_true (by assumption)
                have q26 : a1 < (a0.size : Int) := of_decide_eq_true (by assumption)
                have hx26 := bt_at a0 a1
                replace p26 := eq_true p26
                replace q26 := eq_true q26
                go_wp2_with (first | ((with_reducible refine gate_callee (f := 61) rfl ?_); refine goesL_ (some 55) rfl rfl Try.func61 (by kernel_rfl) rfl #[.string a0, .int .i64 (wrap64 (a1 + 1))] rfl (by (try simp only [List.map_toArray, List.map_cons, List.map_nil]); first | done | rfl | (simp only [List.length_drop, List.length_take]; rfl)) ?_; (with_reducible refine (hT a0 (wrap64 (a1 + 1)) t302 t303 _ A28.out).mono ?_); rintro e w42 ⟨v304, rfl, ho0, hb⟩; refine ⟨_, rfl, ?_⟩; have n0_ := Aside0.mk (Kd.R_lower ho0 (below_size (HB.out))); have n1_ := Aside0.mk (below_step (HB.out) hb); clear HB; have HO305 := n0_; have HB := n1_; clear n0_ n1_; (try clear ho0); have p39 : 0 ≤ (t303 : Int) := of_decide_eq_true (by assumption); have q39 : t303 < (a0.size : Int) := of_decide_eq_true (by assumption); have hx39 := bt_at a0 t303; replace p39 := eq_true p39; replace q39 := eq_true q39) | ((with_reducible refine gate_dst (N := 72) rfl ?_); (try (refine gate_guard (by rfl) ?_; dsimp only)); refine Kd.R_lit k34 _ 34 ?hg (N := 72) ?hd (xs := ([] : List (S34))) (inner := []) (ok := fun _ => True) (okp := fun _ => True) ?hr ?hp (fun _ hk => hk) trivial (Below.refl _ _) (Nat.le_refl _) (by simp) ?_; (case hd => rfl); (case hg => rfl); (case hr => first | (go_simp; done) | (go_simp; rfl)); (case hp => exact (Reps.none _ _)); intro v313 w43 ho44 hb hg_ hnew_; clear hg_ hnew_; (first | rw [← Ny312.out] at ho44 | (simp only [Int.reduceToNat] at ho44; rw [← Ny312.out] at ho44)); have n0_ := Aside0.mk (Kd.R_elder' (by exact HO305.out) (Kd.R_base ho44) hb); have n1_ := Aside0.mk (Kd.R_lower (Kd.R_new' ho44 (Kd.R_lt (by exact HO305.out))) (below_size (HB.out))); have n2_ := Aside0.mk (below_step (HB.out) hb); clear HO305; clear HB; have HO305 := n0_; have HO314 := n1_; have HB := n2_; clear n0_ n1_ n2_; clear hb ho44))
                go_ret2
                exact ⟨_, by first | rfl | (simp [errW_none, errW_some] <;> rfl) | (simp [*, errW_none, errW_some] <;> rfl), by exact Kd.R_mono HO314.out (fun _ hk => trivial), HB.out⟩
              ·rw [if_neg c38] at H
               exact absurd H (by simp)
             ·rw [if_neg c37] at H
              exact absurd H (by simp)
          ·rw [if_neg c27] at H
           have c27b0 : ((bt a0 a1) == 40) = false := beq_eq_false_iff_ne.mpr c27
           have c27b1 : ((bt a0 a1) != 40) = true := bne_iff_ne.mpr c27
           obtain ⟨y315, hy315⟩ : ∃ y_ : List (S34), y_ = (([] : List (S34))) := ⟨_, rfl⟩
           replace H : (some (y315, (-1))) = some (r1, r2) := by first | (rw [hy315]; with_reducible exact H) | (have H2_ := (Option.bind_some _ _).symm.trans H; rw [hy315]; with_reducible exact H2_) | (have H2_ := (Option.bind_some _ _).symm.trans H; with_reducible exact H2_) | with_reducible exact H | (rw [hy315]; exact H) | exact H
           have Ny315 := Aside0.mk hy315
           clear hy315
           simp only [Option.some.injEq, Prod.mk.injEq] at H
           obtain ⟨rfl, rfl⟩ := H
           have p22 : 0 ≤ (a1 : Int) := of_decide_eq_true (by assumption)
           have q22 : a1 < (a0.size : Int) := of_decide_eq_true (by assumption)
           have hx22 := bt_at a0 a1
           replace p22 := eq_true p22
           replace q22 := eq_true q22
           have p26 : 0 ≤ (a1 : Int) := of_decide_eq_true (by assumption)
           have q26 : a1 < (a0.size : Int) := of_decide_eq_true (by assumption)
           have hx26 := bt_at a0 a1
           replace p26 := eq_true p26
           replace q26 := eq_true q26
           go_wp2_with (first | ((with_reducible refine gate_dst (N := 76) rfl ?_); (try (refine gate_guard (by rfl) ?_; dsimp only)); refine Kd.R_lit k34 _ 34 ?hg (N := 76) ?hd (xs := ([] : List (S34))) (inner := []) (ok := fun _ => True) (okp := fun _ => True) ?hr ?hp (fun _ hk => hk) trivial (Below.refl _ _) (Nat.le_refl _) (by simp) ?_; (case hd => rfl); (case hg => rfl); (case hr => first | (go_simp; done) | (go_simp; rfl)); (case hp => exact (Reps.none _ _)); intro v316 w45 ho46 hb hg_ hnew_; clear hg_ hnew_; (first | rw [← Ny315.out] at ho46 | (simp only [Int.reduceToNat] at ho46; rw [← Ny315.out] at ho46)); have n0_ := Aside0.mk (Kd.R_lower ho46 (below_size (HB.out))); have n1_ := Aside0.mk (below_step (HB.out) hb); clear HB; have HO317 := n0_; have HB := n1_; clear n0_ n1_; clear hb ho46))
           go_ret2
           exact ⟨_, by first | rfl | (simp [errW_none, errW_some] <;> rfl) | (simp [*, errW_none, errW_some] <;> rfl), by exact HO317.out, HB.out⟩
        ·rw [if_neg c21] at H
         exact absurd H (by simp)
       ·rw [if_neg c20] at H
        exact absurd H (by simp)

/-! ### spec_l9Row: function 68 -/
def spec_l9Row.l0 (T : ByteArray → Int → Option (List (S34) × Int)) : Nat → ByteArray → List (S34) → Int → Option ((List (S34)) × Int)
 | 0, _, _, _ => none
 | k + 1, x0, x6, x7 => if x7 ≥ 0 then (if x7 < (x0.size : Int) then (if 0 ≤ x7 then (if (bt x0 x7) = 124 then (some (x6, x7)) else (if (bt x0 x7) = 41 then (some (x6, x7)) else ((spec_l9Atom.f T k x0 x7).bind fun bt322 => ((some (([] : List (S34)) : List (S34))).bind fun y326 => (if y326.length + x6.length < 8796093022208 then ((some (y326 ++ x6 : List (S34))).bind fun y329 => (if y329.length + bt322.1.length < 8796093022208 then ((some (y329 ++ bt322.1 : List (S34))).bind fun y332 => (if y332.length < 8796093022208 then (spec_l9Row.l0 T k x0 (y332 ++ [(⟨2, 0⟩ : S34)]) bt322.2) else (none))) else (none))) else (none)))))) else (none)) else (some (x6, x7))) else (some (x6, x7))
def spec_l9Row.f (T : ByteArray → Int → Option (List (S34) × Int)) (k : Nat) (a0 : ByteArray) (a1 : Int) : Option ((List (S34)) × Int) := (spec_l9Atom.f T k a0 a1).bind fun bt318 => (spec_l9Row.l0 T k a0 bt318.1 bt318.2)
set_option maxHeartbeats 8000000 in
set_option maxRecDepth 100000 in
theorem spec_l9Row.calls (T : ByteArray → Int → Option (List (S34) × Int)) (hT : ∀ (a0 : ByteArray) (a1 : Int) (r1 : List (S34)) (r2 : Int) (w : World) (h : T a0 a1 = some (r1, r2)), Calls Try.prog 61 #[.string a0, .int .i64 a1] w fun e w' => ∃ v0_ : Value, e = .returned (.tuple #[v0_, .int .i64 r2]) ∧ Kd.R k34 34 w' w.heap.size (fun _ => True) v0_ r1 ∧ Below w.heap.size w w') (k : Nat) (a0 : ByteArray) (a1 : Int) (r1 : List (S34)) (r2 : Int) (w : World) (h : spec_l9Row.f T k a0 a1 = some (r1, r2)) :
  Calls Try.prog 68 #[.string a0, .int .i64 a1] w fun e w' => ∃ v0_ : Value, e = .returned (.tuple #[v0_, .int .i64 r2]) ∧ Kd.R k34 34 w' w.heap.size (fun _ => True) v0_ r1 ∧ Below w.heap.size w w' := by
 have hu34 := Try.underlying34
 have HB := Aside0.mk (Below.refl w.heap.size w)
 have H : ((spec_l9Atom.f T k a0 a1).bind fun bt318 => (spec_l9Row.l0 T k a0 bt318.1 bt318.2)) = some (r1, r2) := h
 clear h
 replace H := Option.bind_eq_some_iff.mp H
 obtain ⟨⟨t318, t319⟩, A30, H⟩ := H
 replace H : (spec_l9Row.l0 T k a0 t318 t319) = some (r1, r2) := H
 have A3 := Aside0.mk A30
 clear A30
 have H' := Aside0.mk H
 clear H
 go_enter Try.func68, Try.ntmps68
 go_wp2_with (first | ((with_reducible refine gate_callee (f := 72) rfl ?_); refine goesL_ (some 13) rfl rfl Try.func72 (by kernel_rfl) rfl #[.string a0, .int .i64 a1] rfl (by (try simp only [List.map_toArray, List.map_cons, List.map_nil]); first | done | rfl | (simp only [List.length_drop, List.length_take]; rfl)) ?_; (with_reducible refine (spec_l9Atom.calls T hT k a0 a1 t318 t319 _ A3.out).mono ?_); rintro e w4 ⟨v320, rfl, ho0, hb⟩; refine ⟨_, rfl, ?_⟩; have n0_ := Aside0.mk (Kd.R_lower ho0 (below_size (HB.out))); have n1_ := Aside0.mk (below_step (HB.out) hb); clear HB; have HO321 := n0_; have HB := n1_; clear n0_ n1_; (try clear ho0)))
 go_loopg [6, 7] k (fun kq v6 v7 w' => ∃ (x6_1 : List (S34)) (x7_1 : Int), v7 = .int .i64 x7_1 ∧ Aside0 (spec_l9Row.l0 T kq a0 x6_1 x7_1 = some (r1, r2)) ∧ Aside0 (kq ≤ k) ∧ Aside0 (Kd.R k34 34 w' w.heap.size (fun _ => True) v6 x6_1) ∧ Aside0 (Below w.heap.size w w'))
 case atStart => exact ⟨(t318), (t319), (by first | rfl | (simp; done) | (simp [*]; done)), H', ⟨Nat.le_refl _⟩, ⟨by exact HO321.out⟩, ⟨HB.out⟩⟩
 case round =>
  clear H'
  try clear p2
  obtain ⟨x6_1, x7_1, rfl, HA, HK1, HO_6, HB⟩ := hrel
  cases gk with
  | zero => exact absurd HA.out (by simp [spec_l9Row.l0])
  | succ k1 =>
   have H := HA.out
   clear HA
   simp only [spec_l9Row.l0] at H
   by_cases c5 : x7_1 ≥ 0
   ·rw [if_pos c5] at H
    have c5b0 : decide (0 ≤ x7_1) = true := decide_eq_true c5
    clear c5
    by_cases c6 : x7_1 < (a0.size : Int)
    ·rw [if_pos c6] at H
     have c6b0 : decide (x7_1 < (a0.size : Int)) = true := decide_eq_true c6
     clear c6
     by_cases c7 : 0 ≤ x7_1
     ·rw [if_pos c7] at H
      have c7b0 : decide (0 ≤ x7_1) = true := decide_eq_true c7
      clear c7
      by_cases c9 : (bt a0 x7_1) = 124
      ·rw [if_pos c9] at H
       have c9b0 : ((bt a0 x7_1) == 124) = true := beq_iff_eq.mpr c9
       have c9b1 : ((bt a0 x7_1) != 124) = false := bne_eq_false_iff_eq.mpr c9
       clear c9
       simp only [Option.some.injEq, Prod.mk.injEq] at H
       obtain ⟨rfl, rfl⟩ := H
       have p8 : 0 ≤ (x7_1 : Int) := of_decide_eq_true (by assumption)
       have q8 : x7_1 < (a0.size : Int) := of_decide_eq_true (by assumption)
       have hx8 := bt_at a0 x7_1
       replace p8 := eq_true p8
       replace q8 := eq_true q8
       go_wp2
       go_ret2
       exact ⟨_, by first | rfl | (simp [errW_none, errW_some] <;> rfl) | (simp [*, errW_none, errW_some] <;> rfl), by exact HO_6.out, HB.out⟩
      ·rw [if_neg c9] at H
       have c9b0 : ((bt a0 x7_1) == 124) = false := beq_eq_false_iff_ne.mpr c9
       have c9b1 : ((bt a0 x7_1) != 124) = true := bne_iff_ne.mpr c9
       by_cases c11 : (bt a0 x7_1) = 41
       ·rw [if_pos c11] at H
        have c11b0 : ((bt a0 x7_1) == 41) = true := beq_iff_eq.mpr c11
        have c11b1 : ((bt a0 x7_1) != 41) = false := bne_eq_false_iff_eq.mpr c11
        clear c11
        simp only [Option.some.injEq, Prod.mk.injEq] at H
        obtain ⟨rfl, rfl⟩ := H
        have p8 : 0 ≤ (x7_1 : Int) := of_decide_eq_true (by assumption)
        have q8 : x7_1 < (a0.size : Int) := of_decide_eq_true (by assumption)
        have hx8 := bt_at a0 x7_1
        replace p8 := eq_true p8
        replace q8 := eq_true q8
        have p10 : 0 ≤ (x7_1 : Int) := of_decide_eq_true (by assumption)
        have q10 : x7_1 < (a0.size : Int) := of_decide_eq_true (by assumption)
        have hx10 := bt_at a0 x7_1
        replace p10 := eq_true p10
        replace q10 := eq_true q10
        go_wp2
        go_ret2
        exact ⟨_, by first | rfl | (simp [errW_none, errW_some] <;> rfl) | (simp [*, errW_none, errW_some] <;> rfl), by exact HO_6.out, HB.out⟩
       ·rw [if_neg c11] at H
        have c11b0 : ((bt a0 x7_1) == 41) = false := beq_eq_false_iff_ne.mpr c11
        have c11b1 : ((bt a0 x7_1) != 41) = true := bne_iff_ne.mpr c11
        replace H := Option.bind_eq_some_iff.mp H
        obtain ⟨⟨t322, t323⟩, A120, H⟩ := H
        try dsimp only at H
        have A12 := Aside0.mk A120
        clear A120
        obtain ⟨y326, hy326⟩ : ∃ y_ : List (S34), y_ = (([] : List (S34))) := ⟨_, rfl⟩
        replace H : (if y326.length + x6_1.length < 8796093022208 then ((some (y326 ++ x6_1 : List (S34))).bind fun y329 => (if y329.length + t322.length < 8796093022208 then ((some (y329 ++ t322 : List (S34))).bind fun y332 => (if y332.length < 8796093022208 then (spec_l9Row.l0 T k1 a0 (y332 ++ [(⟨2, 0⟩ : S34)]) t323) else (none))) else (none))) else (none)) = some (r1, r2) := by first | (rw [hy326]; with_reducible exact H) | (have H2_ := (Option.bind_some _ _).symm.trans H; rw [hy326]; with_reducible exact H2_) | (have H2_ := (Option.bind_some _ _).symm.trans H; with_reducible exact H2_) | with_reducible exact H | (rw [hy326]; exact H) | exact H
        have Ny326 := Aside0.mk hy326
        clear hy326
        by_cases c13 : y326.length + x6_1.length < 8796093022208
        ·rw [if_pos c13] at H
         have LMc13 := Aside0.mk c13
         clear c13
         obtain ⟨y329, hy329⟩ : ∃ y_ : List (S34), y_ = (y326 ++ x6_1) := ⟨_, rfl⟩
         replace H : (if y329.length + t322.length < 8796093022208 then ((some (y329 ++ t322 : List (S34))).bind fun y332 => (if y332.length < 8796093022208 then (spec_l9Row.l0 T k1 a0 (y332 ++ [(⟨2, 0⟩ : S34)]) t323) else (none))) else (none)) = some (r1, r2) := by first | (rw [hy329]; with_reducible exact H) | (have H2_ := (Option.bind_some _ _).symm.trans H; rw [hy329]; with_reducible exact H2_) | (have H2_ := (Option.bind_some _ _).symm.trans H; with_reducible exact H2_) | with_reducible exact H | (rw [hy329]; exact H) | exact H
         have Ny329 := Aside0.mk hy329
         clear hy329
         by_cases c14 : y329.length + t322.length < 8796093022208
         ·rw [if_pos c14] at H
          have LMc14 := Aside0.mk c14
          clear c14
          obtain ⟨y332, hy332⟩ : ∃ y_ : List (S34), y_ = (y329 ++ t322) := ⟨_, rfl⟩
          replace H : (if y332.length < 8796093022208 then (spec_l9Row.l0 T k1 a0 (y332 ++ [(⟨2, 0⟩ : S34)]) t323) else (none)) = some (r1, r2) := by first | (rw [hy332]; with_reducible exact H) | (have H2_ := (Option.bind_some _ _).symm.trans H; rw [hy332]; with_reducible exact H2_) | (have H2_ := (Option.bind_some _ _).symm.trans H; with_reducible exact H2_) | with_reducible exact H | (rw [hy332]; exact H) | exact H
          have Ny332 := Aside0.mk hy332
          clear hy332
          by_cases c15 : y332.length < 8796093022208
          ·rw [if_pos c15] at H
           have LMc15 := Aside0.mk c15
           clear c15
           obtain ⟨y335, hy335⟩ : ∃ y_ : List (S34), y_ = (y332 ++ [(⟨2, 0⟩ : S34)]) := ⟨_, rfl⟩
           replace H : (spec_l9Row.l0 T k1 a0 y335 t323) = some (r1, r2) := by first | (rw [hy335]; with_reducible exact H) | (have H2_ := (Option.bind_some _ _).symm.trans H; rw [hy335]; with_reducible exact H2_) | (have H2_ := (Option.bind_some _ _).symm.trans H; with_reducible exact H2_) | with_reducible exact H | (rw [hy335]; exact H) | exact H
           have Ny335 := Aside0.mk hy335
           clear hy335
           have H' := Aside0.mk H
           clear H
           have p8 : 0 ≤ (x7_1 : Int) := of_decide_eq_true (by assumption)
           have q8 : x7_1 < (a0.size : Int) := of_decide_eq_true (by assumption)
           have hx8 := bt_at a0 x7_1
           replace p8 := eq_true p8
           replace q8 := eq_true q8
           have p10 : 0 ≤ (x7_1 : Int) := of_decide_eq_true (by assumption)
           have q10 : x7_1 < (a0.size : Int) := of_decide_eq_true (by assumption)
           have hx10 := bt_at a0 x7_1
           replace p10 := eq_true p10
           replace q10 := eq_true q10
           go_wp2_with (first | ((with_reducible refine gate_callee (f := 72) rfl ?_); refine goesL_ (some 39) rfl rfl Try.func72 (by kernel_rfl) rfl #[.string a0, .int .i64 x7_1] rfl (by (try simp only [List.map_toArray, List.map_cons, List.map_nil]); first | done | rfl | (simp only [List.length_drop, List.length_take]; rfl)) ?_; (with_reducible refine (spec_l9Atom.calls T hT k1 a0 x7_1 t322 t323 _ A12.out).mono ?_); rintro e w16 ⟨v324, rfl, ho0, hb⟩; refine ⟨_, rfl, ?_⟩; have n0_ := Aside0.mk (Kd.R_elder' (by exact HO_6.out) (Kd.R_base ho0) hb); have n1_ := Aside0.mk (Kd.R_lower (Kd.R_new' ho0 (Kd.R_lt (by exact HO_6.out))) (below_size (HB.out))); have n2_ := Aside0.mk (below_step (HB.out) hb); clear HO_6; clear HB; have HO_6 := n0_; have HO325 := n1_; have HB := n2_; clear n0_ n1_ n2_; (try clear ho0)) | ((with_reducible refine gate_dst (N := 42) rfl ?_); (try (refine gate_guard (by rfl) ?_; dsimp only)); refine Kd.R_lit k34 _ 34 ?hg (N := 42) ?hd (xs := ([] : List (S34))) (inner := []) (ok := fun _ => True) (okp := fun _ => True) ?hr ?hp (fun _ hk => hk) trivial (Below.refl _ _) (Nat.le_refl _) (by simp) ?_; (case hd => rfl); (case hg => rfl); (case hr => first | (go_simp; done) | (go_simp; rfl)); (case hp => exact (Reps.none _ _)); intro v327 w17 ho18 hb hg_ hnew_; clear hg_ hnew_; (first | rw [← Ny326.out] at ho18 | (simp only [Int.reduceToNat] at ho18; rw [← Ny326.out] at ho18)); have n0_ := Aside0.mk (Kd.R_elder' (by exact HO_6.out) (Kd.R_base ho18) hb); have n1_ := Aside0.mk (Kd.R_elder' (by exact HO325.out) (Kd.R_base ho18) hb); have n2_ := Aside0.mk (Kd.R_lower (Kd.R_new' (Kd.R_new' ho18 (Kd.R_lt (by exact HO_6.out))) (Kd.R_lt (by exact HO325.out))) (below_size (HB.out))); have n3_ := Aside0.mk (below_step (HB.out) hb); clear HO_6; clear HO325; clear HB; have HO_6 := n0_; have HO325 := n1_; have HO328 := n2_; have HB := n3_; clear n0_ n1_ n2_ n3_; clear hb ho18; obtain ⟨Ao20, co20, eo20⟩ := Kd.R_slice HO_6.out; subst eo20) | ((with_reducible refine gate_builtin (b := .append) (xs := #[.tmp 42, .tmp 43]) rfl ?_); (try (refine gate_guard (by rfl) ?_; dsimp only)); at_builtin; refine Kd.R_append_rows k34 (w0 := w) w.heap.size rfl (.tmp 42) (.tmp 43) 25 34 (.agg #[(.int .i64 0), (.int .i64 0)]) 16 rfl Try.underlying25 info34 rfl (by decide) (by omega) v327 y326 x6_1 _ _ _ (fun k_ => some k_ ≠ (.slice Ao20 x6_1.length co20 : Value).ownBlock ∧ some k_ ≠ (v324 : Value).ownBlock) (fun _ => False) rfl rfl ?aO ?aR (fun _ _ h => h) (fun _ h => h.elim) ?aF ?aB ?aS ?aL ?_; (case aR => repeat (first | exact (Kd.R_reads' HO_6.out).2.2 | with_reducible refine Kd.C_drewN ?_ _)); (case aB => exact (HB.out)); (case aF => exact (fun k_ hk => ⟨Kd.fresh' (Kd.R_lt (by exact HO_6.out)) k_ hk, Kd.fresh' (Kd.R_lt (by exact HO325.out)) k_ hk⟩)); (case aO => exact (by exact Kd.R_mono HO328.out (fun _ hk => ⟨hk.1.2, hk.2⟩))); (case aS => exact (below_size (HB.out))); (case aL => have := LMc13.out; omega); intro v330 w19 ho hb hg hat; rw [← Ny329.out] at ho; have n0_ := Aside0.mk (Kd.R_after (ok := (fun k_ => some k_ ≠ (v324 : Value).ownBlock)) (by exact Kd.R_mono HO_6.out (fun _ hk => ⟨hk.1.2, hk.2⟩)) hg hat); have n1_ := Aside0.mk (Kd.R_after (ok := (fun k_ => some k_ ≠ (.slice Ao20 x6_1.length co20 : Value).ownBlock)) (by exact Kd.R_mono HO325.out (fun _ hk => ⟨hk.1.2, hk.2⟩)) hg hat); have n2_ := Aside0.mk (hb); have n3_ := Aside0.mk (ho); clear HO_6; clear HO325; clear HB; clear HO328; have HO_6 := n0_; have HO325 := n1_; have HB := n2_; have HO331 := n3_; clear n0_ n1_ n2_ n3_; clear ho hb hg hat; obtain ⟨Ao22, co22, eo22⟩ := Kd.R_slice HO325.out; subst eo22) | ((with_reducible refine gate_builtin (b := .append) (xs := #[.tmp 44, .tmp 45]) rfl ?_); (try (refine gate_guard (by rfl) ?_; dsimp only)); at_builtin; refine Kd.R_append_rows k34 (w0 := w) w.heap.size rfl (.tmp 44) (.tmp 45) 25 34 (.agg #[(.int .i64 0), (.int .i64 0)]) 16 rfl Try.underlying25 info34 rfl (by decide) (by omega) v330 y329 t322 _ _ _ (fun k_ => some k_ ≠ (.slice Ao20 x6_1.length co20 : Value).ownBlock ∧ some k_ ≠ (.slice Ao22 t322.length co22 : Value).ownBlock) (fun _ => False) rfl rfl ?aO ?aR (fun _ _ h => h) (fun _ h => h.elim) ?aF ?aB ?aS ?aL ?_; (case aR => repeat (first | exact (Kd.R_reads' HO325.out).2.2 | with_reducible refine Kd.C_drewN ?_ _)); (case aB => exact (HB.out)); (case aF => exact (fun k_ hk => ⟨Kd.fresh' (Kd.R_lt (by exact HO_6.out)) k_ hk, Kd.fresh' (Kd.R_lt (by exact HO325.out)) k_ hk⟩)); (case aO => exact (by exact HO331.out)); (case aS => exact (below_size (HB.out))); (case aL => have := LMc14.out; omega); intro v333 w21 ho hb hg hat; rw [← Ny332.out] at ho; have n0_ := Aside0.mk (Kd.R_after (ok := (fun k_ => some k_ ≠ (.slice Ao22 t322.length co22 : Value).ownBlock)) (by exact HO_6.out) hg hat); have n1_ := Aside0.mk (Kd.R_after (ok := (fun k_ => some k_ ≠ (.slice Ao20 x6_1.length co20 : Value).ownBlock)) (by exact HO325.out) hg hat); have n2_ := Aside0.mk (hb); have n3_ := Aside0.mk (ho); clear HO_6; clear HO325; clear HB; clear HO331; have HO_6 := n0_; have HO325 := n1_; have HB := n2_; have HO334 := n3_; clear n0_ n1_ n2_ n3_; clear ho hb hg hat) | ((with_reducible refine gate_builtin (b := .append) (xs := #[.tmp 46, .tmp 48]) rfl ?_); (try (refine gate_guard (by rfl) ?_; dsimp only)); at_builtin; refine Kd.R_append k34 (w0 := w) w.heap.size rfl (.tmp 46) (.tmp 48) 25 34 (.agg #[(.int .i64 0), (.int .i64 0)]) 16 rfl Try.underlying25 info34 rfl (by decide) (by omega) v333 y332 (⟨2, 0⟩ : S34) [.int .i64 2, .int .i64 0] (fun k_ => some k_ ≠ (.slice Ao20 x6_1.length co20 : Value).ownBlock ∧ some k_ ≠ (.slice Ao22 t322.length co22 : Value).ownBlock) (fun _ => False) rfl rfl ?aP (fun _ hk => hk.elim) ?aF ?aO ?aB ?aS ?aL ?_; (case aP => exact k34_mkM _ _ _ (⟨2, 0⟩ : S34)); (case aB => exact (HB.out)); (case aF => exact (fun k_ hk => ⟨Kd.fresh' (Kd.R_lt (by exact HO_6.out)) k_ hk, Kd.fresh' (Kd.R_lt (by exact HO325.out)) k_ hk⟩)); (case aO => exact (by exact HO334.out)); (case aS => exact (below_size (HB.out))); (case aL => have := LMc15.out; omega); intro v336 w23 ho hb hg hat; rw [← Ny335.out] at ho; have n0_ := Aside0.mk (Kd.R_after (ok := (fun k_ => some k_ ≠ (.slice Ao22 t322.length co22 : Value).ownBlock)) (by exact HO_6.out) hg hat); have n1_ := Aside0.mk (Kd.R_after (ok := (fun k_ => some k_ ≠ (.slice Ao20 x6_1.length co20 : Value).ownBlock)) (by exact HO325.out) hg hat); have n2_ := Aside0.mk (hb); have n3_ := Aside0.mk (ho); clear HO_6; clear HO325; clear HB; clear HO334; have HO_6 := n0_; have HO325 := n1_; have HB := n2_; have HO337 := n3_; clear n0_ n1_ n2_ n3_; clear ho hb hg hat))
           go_roundg k1
           case measure => have := HK1.out; omega
           case rel => exact ⟨(y335), (t323), (by first | rfl | (simp; done) | (simp [*]; done)), H', ⟨by have := HK1.out; omega⟩, ⟨by exact Kd.R_mono HO337.out (fun _ hk => trivial)⟩, ⟨HB.out⟩⟩
          ·rw [if_neg c15] at H
           exact absurd H (by simp)
         ·rw [if_neg c14] at H
          exact absurd H (by simp)
        ·rw [if_neg c13] at H
         exact absurd H (by simp)
     ·rw [if_neg c7] at H
      exact absurd H (by simp)
    ·rw [if_neg c6] at H
     have c6b0 : decide (x7_1 < (a0.size : Int)) = false := decide_eq_false c6
     clear c6
     simp only [Option.some.injEq, Prod.mk.injEq] at H
     obtain ⟨rfl, rfl⟩ := H
     go_wp2
     go_ret2
     exact ⟨_, by first | rfl | (simp [errW_none, errW_some] <;> rfl) | (simp [*, errW_none, errW_some] <;> rfl), by exact HO_6.out, HB.out⟩
   ·rw [if_neg c5] at H
    have c5b0 : decide (0 ≤ x7_1) = false := decide_eq_false c5
    clear c5
    simp only [Option.some.injEq, Prod.mk.injEq] at H
    obtain ⟨rfl, rfl⟩ := H
    go_wp2
    go_ret2
    exact ⟨_, by first | rfl | (simp [errW_none, errW_some] <;> rfl) | (simp [*, errW_none, errW_some] <;> rfl), by exact HO_6.out, HB.out⟩

/-! ### spec_l9Or: function 61 -/
mutual
def spec_l9Or.l0 : Nat → ByteArray → List (S34) → Int → Option ((List (S34)) × Int)
 | 0, _, _, _ => none
 | k + 1, x0, x6, x7 => if x7 ≥ 0 then (if x7 < (x0.size : Int) then (if 0 ≤ x7 then (if (bt x0 x7) = 124 then ((spec_l9Row.f (spec_l9Or.f k) k x0 (wrap64 (x7 + 1))).bind fun bt342 => ((some (([] : List (S34)) : List (S34))).bind fun y346 => (if y346.length + x6.length < 8796093022208 then ((some (y346 ++ x6 : List (S34))).bind fun y349 => (if y349.length + bt342.1.length < 8796093022208 then ((some (y349 ++ bt342.1 : List (S34))).bind fun y352 => (if y352.length < 8796093022208 then (spec_l9Or.l0 k x0 (y352 ++ [(⟨3, 0⟩ : S34)]) bt342.2) else (none))) else (none))) else (none)))) else (some (x6, x7))) else (none)) else (some (x6, x7))) else (some (x6, x7))
def spec_l9Or.f : Nat → ByteArray → Int → Option ((List (S34)) × Int)
 | 0, _, _ => none
 | k + 1, a0, a1 => (spec_l9Row.f (spec_l9Or.f k) k a0 a1).bind fun bt338 => (spec_l9Or.l0 k a0 bt338.1 bt338.2)
end
set_option maxHeartbeats 8000000 in
set_option maxRecDepth 100000 in
theorem spec_l9Or.calls (k : Nat) : ∀ (a0 : ByteArray) (a1 : Int) (r1 : List (S34)) (r2 : Int) (w : World) (h : spec_l9Or.f k a0 a1 = some (r1, r2)),
  Calls Try.prog 61 #[.string a0, .int .i64 a1] w fun e w' => ∃ v0_ : Value, e = .returned (.tuple #[v0_, .int .i64 r2]) ∧ Kd.R k34 34 w' w.heap.size (fun _ => True) v0_ r1 ∧ Below w.heap.size w w' := by
 induction k using Nat.strongRecOn with
 | _ k ih =>
 intro a0 a1 r1 r2 w h
 cases k with
 | zero => exact absurd h (by simp [spec_l9Or.f])
 | succ k =>
 simp only [spec_l9Or.f] at h
 have hu34 := Try.underlying34
 have HB := Aside0.mk (Below.refl w.heap.size w)
 have H : ((spec_l9Row.f (spec_l9Or.f k) k a0 a1).bind fun bt338 => (spec_l9Or.l0 k a0 bt338.1 bt338.2)) = some (r1, r2) := h
 clear h
 replace H := Option.bind_eq_some_iff.mp H
 obtain ⟨⟨t338, t339⟩, A30, H⟩ := H
 replace H : (spec_l9Or.l0 k a0 t338 t339) = some (r1, r2) := H
 have A3 := Aside0.mk A30
 clear A30
 have H' := Aside0.mk H
 clear H
 go_enter Try.func61, Try.ntmps61
 go_wp2_with (first | ((with_reducible refine gate_callee (f := 68) rfl ?_); refine goesL_ (some 13) rfl rfl Try.func68 (by kernel_rfl) rfl #[.string a0, .int .i64 a1] rfl (by (try simp only [List.map_toArray, List.map_cons, List.map_nil]); first | done | rfl | (simp only [List.length_drop, List.length_take]; rfl)) ?_; (with_reducible refine (spec_l9Row.calls (spec_l9Or.f k) (ih k (by omega)) k a0 a1 t338 t339 _ A3.out).mono ?_); rintro e w4 ⟨v340, rfl, ho0, hb⟩; refine ⟨_, rfl, ?_⟩; have n0_ := Aside0.mk (Kd.R_lower ho0 (below_size (HB.out))); have n1_ := Aside0.mk (below_step (HB.out) hb); clear HB; have HO341 := n0_; have HB := n1_; clear n0_ n1_; (try clear ho0)))
 go_loopg [6, 7] k (fun kq v6 v7 w' => ∃ (x6_1 : List (S34)) (x7_1 : Int), v7 = .int .i64 x7_1 ∧ Aside0 (spec_l9Or.l0 kq a0 x6_1 x7_1 = some (r1, r2)) ∧ Aside0 (kq ≤ k) ∧ Aside0 (Kd.R k34 34 w' w.heap.size (fun _ => True) v6 x6_1) ∧ Aside0 (Below w.heap.size w w'))
 case atStart => exact ⟨(t338), (t339), (by first | rfl | (simp; done) | (simp [*]; done)), H', ⟨Nat.le_refl _⟩, ⟨by exact HO341.out⟩, ⟨HB.out⟩⟩
 case round =>
  clear H'
  try clear p2
  obtain ⟨x6_1, x7_1, rfl, HA, HK1, HO_6, HB⟩ := hrel
  cases gk with
  | zero => exact absurd HA.out (by simp [spec_l9Or.l0])
  | succ k1 =>
   have H := HA.out
   clear HA
   simp only [spec_l9Or.l0] at H
   by_cases c5 : x7_1 ≥ 0
   ·rw [if_pos c5] at H
    have c5b0 : decide (0 ≤ x7_1) = true := decide_eq_true c5
    clear c5
    by_cases c6 : x7_1 < (a0.size : Int)
    ·rw [if_pos c6] at H
     have c6b0 : decide (x7_1 < (a0.size : Int)) = true := decide_eq_true c6
     clear c6
     by_cases c7 : 0 ≤ x7_1
     ·rw [if_pos c7] at H
      have c7b0 : decide (0 ≤ x7_1) = true := decide_eq_true c7
      clear c7
      by_cases c9 : (bt a0 x7_1) = 124
      ·rw [if_pos c9] at H
       have c9b0 : ((bt a0 x7_1) == 124) = true := beq_iff_eq.mpr c9
       have c9b1 : ((bt a0 x7_1) != 124) = false := bne_eq_false_iff_eq.mpr c9
       clear c9
       replace H := Option.bind_eq_some_iff.mp H
       obtain ⟨⟨t342, t343⟩, A100, H⟩ := H
       try dsimp only at H
       have A10 := Aside0.mk A100
       clear A100
       obtain ⟨y346, hy346⟩ : ∃ y_ : List (S34), y_ = (([] : List (S34))) := ⟨_, rfl⟩
       replace H : (if y346.length + x6_1.length < 8796093022208 then ((some (y346 ++ x6_1 : List (S34))).bind fun y349 => (if y349.length + t342.length < 8796093022208 then ((some (y349 ++ t342 : List (S34))).bind fun y352 => (if y352.length < 8796093022208 then (spec_l9Or.l0 k1 a0 (y352 ++ [(⟨3, 0⟩ : S34)]) t343) else (none))) else (none))) else (none)) = some (r1, r2) := by first | (rw [hy346]; with_reducible exact H) | (have H2_ := (Option.bind_some _ _).symm.trans H; rw [hy346]; with_reducible exact H2_) | (have H2_ := (Option.bind_some _ _).symm.trans H; with_reducible exact H2_) | with_reducible exact H | (rw [hy346]; exact H) | exact H
       have Ny346 := Aside0.mk hy346
       clear hy346
       by_cases c11 : y346.length + x6_1.length < 8796093022208
       ·rw [if_pos c11] at H
        have LMc11 := Aside0.mk c11
        clear c11
        obtain ⟨y349, hy349⟩ : ∃ y_ : List (S34), y_ = (y346 ++ x6_1) := ⟨_, rfl⟩
        replace H : (if y349.length + t342.length < 8796093022208 then ((some (y349 ++ t342 : List (S34))).bind fun y352 => (if y352.length < 8796093022208 then (spec_l9Or.l0 k1 a0 (y352 ++ [(⟨3, 0⟩ : S34)]) t343) else (none))) else (none)) = some (r1, r2) := by first | (rw [hy349]; with_reducible exact H) | (have H2_ := (Option.bind_some _ _).symm.trans H; rw [hy349]; with_reducible exact H2_) | (have H2_ := (Option.bind_some _ _).symm.trans H; with_reducible exact H2_) | with_reducible exact H | (rw [hy349]; exact H) | exact H
        have Ny349 := Aside0.mk hy349
        clear hy349
        by_cases c12 : y349.length + t342.length < 8796093022208
        ·rw [if_pos c12] at H
         have LMc12 := Aside0.mk c12
         clear c12
         obtain ⟨y352, hy352⟩ : ∃ y_ : List (S34), y_ = (y349 ++ t342) := ⟨_, rfl⟩
         replace H : (if y352.length < 8796093022208 then (spec_l9Or.l0 k1 a0 (y352 ++ [(⟨3, 0⟩ : S34)]) t343) else (none)) = some (r1, r2) := by first | (rw [hy352]; with_reducible exact H) | (have H2_ := (Option.bind_some _ _).symm.trans H; rw [hy352]; with_reducible exact H2_) | (have H2_ := (Option.bind_some _ _).symm.trans H; with_reducible exact H2_) | with_reducible exact H | (rw [hy352]; exact H) | exact H
         have Ny352 := Aside0.mk hy352
         clear hy352
         by_cases c13 : y352.length < 8796093022208
         ·rw [if_pos c13] at H
          have LMc13 := Aside0.mk c13
          clear c13
          obtain ⟨y355, hy355⟩ : ∃ y_ : List (S34), y_ = (y352 ++ [(⟨3, 0⟩ : S34)]) := ⟨_, rfl⟩
          replace H : (spec_l9Or.l0 k1 a0 y355 t343) = some (r1, r2) := by first | (rw [hy355]; with_reducible exact H) | (have H2_ := (Option.bind_some _ _).symm.trans H; rw [hy355]; with_reducible exact H2_) | (have H2_ := (Option.bind_some _ _).symm.trans H; with_reducible exact H2_) | with_reducible exact H | (rw [hy355]; exact H) | exact H
          have Ny355 := Aside0.mk hy355
          clear hy355
          have H' := Aside0.mk H
          clear H
          have p8 : 0 ≤ (x7_1 : Int) := of_decide_eq_true (by assumption)
          have q8 : x7_1 < (a0.size : Int) := of_decide_eq_true (by assumption)
          have hx8 := bt_at a0 x7_1
          replace p8 := eq_true p8
          replace q8 := eq_true q8
          go_wp2_with (first | ((with_reducible refine gate_callee (f := 68) rfl ?_); refine goesL_ (some 34) rfl rfl Try.func68 (by kernel_rfl) rfl #[.string a0, .int .i64 (wrap64 (x7_1 + 1))] rfl (by (try simp only [List.map_toArray, List.map_cons, List.map_nil]); first | done | rfl | (simp only [List.length_drop, List.length_take]; rfl)) ?_; (with_reducible refine (spec_l9Row.calls (spec_l9Or.f k1) (ih k1 (by have := HK1.out; omega)) k1 a0 (wrap64 (x7_1 + 1)) t342 t343 _ A10.out).mono ?_); rintro e w14 ⟨v344, rfl, ho0, hb⟩; refine ⟨_, rfl, ?_⟩; have n0_ := Aside0.mk (Kd.R_elder' (by exact HO_6.out) (Kd.R_base ho0) hb); have n1_ := Aside0.mk (Kd.R_lower (Kd.R_new' ho0 (Kd.R_lt (by exact HO_6.out))) (below_size (HB.out))); have n2_ := Aside0.mk (below_step (HB.out) hb); clear HO_6; clear HB; have HO_6 := n0_; have HO345 := n1_; have HB := n2_; clear n0_ n1_ n2_; (try clear ho0)) | ((with_reducible refine gate_dst (N := 37) rfl ?_); (try (refine gate_guard (by rfl) ?_; dsimp only)); refine Kd.R_lit k34 _ 34 ?hg (N := 37) ?hd (xs := ([] : List (S34))) (inner := []) (ok := fun _ => True) (okp := fun _ => True) ?hr ?hp (fun _ hk => hk) trivial (Below.refl _ _) (Nat.le_refl _) (by simp) ?_; (case hd => rfl); (case hg => rfl); (case hr => first | (go_simp; done) | (go_simp; rfl)); (case hp => exact (Reps.none _ _)); intro v347 w15 ho16 hb hg_ hnew_; clear hg_ hnew_; (first | rw [← Ny346.out] at ho16 | (simp only [Int.reduceToNat] at ho16; rw [← Ny346.out] at ho16)); have n0_ := Aside0.mk (Kd.R_elder' (by exact HO_6.out) (Kd.R_base ho16) hb); have n1_ := Aside0.mk (Kd.R_elder' (by exact HO345.out) (Kd.R_base ho16) hb); have n2_ := Aside0.mk (Kd.R_lower (Kd.R_new' (Kd.R_new' ho16 (Kd.R_lt (by exact HO_6.out))) (Kd.R_lt (by exact HO345.out))) (below_size (HB.out))); have n3_ := Aside0.mk (below_step (HB.out) hb); clear HO_6; clear HO345; clear HB; have HO_6 := n0_; have HO345 := n1_; have HO348 := n2_; have HB := n3_; clear n0_ n1_ n2_ n3_; clear hb ho16; obtain ⟨Ao18, co18, eo18⟩ := Kd.R_slice HO_6.out; subst eo18) | ((with_reducible refine gate_builtin (b := .append) (xs := #[.tmp 37, .tmp 38]) rfl ?_); (try (refine gate_guard (by rfl) ?_; dsimp only)); at_builtin; refine Kd.R_append_rows k34 (w0 := w) w.heap.size rfl (.tmp 37) (.tmp 38) 25 34 (.agg #[(.int .i64 0), (.int .i64 0)]) 16 rfl Try.underlying25 info34 rfl (by decide) (by omega) v347 y346 x6_1 _ _ _ (fun k_ => some k_ ≠ (.slice Ao18 x6_1.length co18 : Value).ownBlock ∧ some k_ ≠ (v344 : Value).ownBlock) (fun _ => False) rfl rfl ?aO ?aR (fun _ _ h => h) (fun _ h => h.elim) ?aF ?aB ?aS ?aL ?_; (case aR => repeat (first | exact (Kd.R_reads' HO_6.out).2.2 | with_reducible refine Kd.C_drewN ?_ _)); (case aB => exact (HB.out)); (case aF => exact (fun k_ hk => ⟨Kd.fresh' (Kd.R_lt (by exact HO_6.out)) k_ hk, Kd.fresh' (Kd.R_lt (by exact HO345.out)) k_ hk⟩)); (case aO => exact (by exact Kd.R_mono HO348.out (fun _ hk => ⟨hk.1.2, hk.2⟩))); (case aS => exact (below_size (HB.out))); (case aL => have := LMc11.out; omega); intro v350 w17 ho hb hg hat; rw [← Ny349.out] at ho; have n0_ := Aside0.mk (Kd.R_after (ok := (fun k_ => some k_ ≠ (v344 : Value).ownBlock)) (by exact Kd.R_mono HO_6.out (fun _ hk => ⟨hk.1.2, hk.2⟩)) hg hat); have n1_ := Aside0.mk (Kd.R_after (ok := (fun k_ => some k_ ≠ (.slice Ao18 x6_1.length co18 : Value).ownBlock)) (by exact Kd.R_mono HO345.out (fun _ hk => ⟨hk.1.2, hk.2⟩)) hg hat); have n2_ := Aside0.mk (hb); have n3_ := Aside0.mk (ho); clear HO_6; clear HO345; clear HB; clear HO348; have HO_6 := n0_; have HO345 := n1_; have HB := n2_; have HO351 := n3_; clear n0_ n1_ n2_ n3_; clear ho hb hg hat; obtain ⟨Ao20, co20, eo20⟩ := Kd.R_slice HO345.out; subst eo20) | ((with_reducible refine gate_builtin (b := .append) (xs := #[.tmp 39, .tmp 40]) rfl ?_); (try (refine gate_guard (by rfl) ?_; dsimp only)); at_builtin; refine Kd.R_append_rows k34 (w0 := w) w.heap.size rfl (.tmp 39) (.tmp 40) 25 34 (.agg #[(.int .i64 0), (.int .i64 0)]) 16 rfl Try.underlying25 info34 rfl (by decide) (by omega) v350 y349 t342 _ _ _ (fun k_ => some k_ ≠ (.slice Ao18 x6_1.length co18 : Value).ownBlock ∧ some k_ ≠ (.slice Ao20 t342.length co20 : Value).ownBlock) (fun _ => False) rfl rfl ?aO ?aR (fun _ _ h => h) (fun _ h => h.elim) ?aF ?aB ?aS ?aL ?_; (case aR => repeat (first | exact (Kd.R_reads' HO345.out).2.2 | with_reducible refine Kd.C_drewN ?_ _)); (case aB => exact (HB.out)); (case aF => exact (fun k_ hk => ⟨Kd.fresh' (Kd.R_lt (by exact HO_6.out)) k_ hk, Kd.fresh' (Kd.R_lt (by exact HO345.out)) k_ hk⟩)); (case aO => exact (by exact HO351.out)); (case aS => exact (below_size (HB.out))); (case aL => have := LMc12.out; omega); intro v353 w19 ho hb hg hat; rw [← Ny352.out] at ho; have n0_ := Aside0.mk (Kd.R_after (ok := (fun k_ => some k_ ≠ (.slice Ao20 t342.length co20 : Value).ownBlock)) (by exact HO_6.out) hg hat); have n1_ := Aside0.mk (Kd.R_after (ok := (fun k_ => some k_ ≠ (.slice Ao18 x6_1.length co18 : Value).ownBlock)) (by exact HO345.out) hg hat); have n2_ := Aside0.mk (hb); have n3_ := Aside0.mk (ho); clear HO_6; clear HO345; clear HB; clear HO351; have HO_6 := n0_; have HO345 := n1_; have HB := n2_; have HO354 := n3_; clear n0_ n1_ n2_ n3_; clear ho hb hg hat) | ((with_reducible refine gate_builtin (b := .append) (xs := #[.tmp 41, .tmp 43]) rfl ?_); (try (refine gate_guard (by rfl) ?_; dsimp only)); at_builtin; refine Kd.R_append k34 (w0 := w) w.heap.size rfl (.tmp 41) (.tmp 43) 25 34 (.agg #[(.int .i64 0), (.int .i64 0)]) 16 rfl Try.underlying25 info34 rfl (by decide) (by omega) v353 y352 (⟨3, 0⟩ : S34) [.int .i64 3, .int .i64 0] (fun k_ => some k_ ≠ (.slice Ao18 x6_1.length co18 : Value).ownBlock ∧ some k_ ≠ (.slice Ao20 t342.length co20 : Value).ownBlock) (fun _ => False) rfl rfl ?aP (fun _ hk => hk.elim) ?aF ?aO ?aB ?aS ?aL ?_; (case aP => exact k34_mkM _ _ _ (⟨3, 0⟩ : S34)); (case aB => exact (HB.out)); (case aF => exact (fun k_ hk => ⟨Kd.fresh' (Kd.R_lt (by exact HO_6.out)) k_ hk, Kd.fresh' (Kd.R_lt (by exact HO345.out)) k_ hk⟩)); (case aO => exact (by exact HO354.out)); (case aS => exact (below_size (HB.out))); (case aL => have := LMc13.out; omega); intro v356 w21 ho hb hg hat; rw [← Ny355.out] at ho; have n0_ := Aside0.mk (Kd.R_after (ok := (fun k_ => some k_ ≠ (.slice Ao20 t342.length co20 : Value).ownBlock)) (by exact HO_6.out) hg hat); have n1_ := Aside0.mk (Kd.R_after (ok := (fun k_ => some k_ ≠ (.slice Ao18 x6_1.length co18 : Value).ownBlock)) (by exact HO345.out) hg hat); have n2_ := Aside0.mk (hb); have n3_ := Aside0.mk (ho); clear HO_6; clear HO345; clear HB; clear HO354; have HO_6 := n0_; have HO345 := n1_; have HB := n2_; have HO357 := n3_; clear n0_ n1_ n2_ n3_; clear ho hb hg hat))
          go_roundg k1
          case measure => have := HK1.out; omega
          case rel => exact ⟨(y355), (t343), (by first | rfl | (simp; done) | (simp [*]; done)), H', ⟨by have := HK1.out; omega⟩, ⟨by exact Kd.R_mono HO357.out (fun _ hk => trivial)⟩, ⟨HB.out⟩⟩
         ·rw [if_neg c13] at H
          exact absurd H (by simp)
        ·rw [if_neg c12] at H
         exact absurd H (by simp)
       ·rw [if_neg c11] at H
        exact absurd H (by simp)
      ·rw [if_neg c9] at H
       have c9b0 : ((bt a0 x7_1) == 124) = false := beq_eq_false_iff_ne.mpr c9
       have c9b1 : ((bt a0 x7_1) != 124) = true := bne_iff_ne.mpr c9
       simp only [Option.some.injEq, Prod.mk.injEq] at H
       obtain ⟨rfl, rfl⟩ := H
       have p8 : 0 ≤ (x7_1 : Int) := of_decide_eq_true (by assumption)
       have q8 : x7_1 < (a0.size : Int) := of_decide_eq_true (by assumption)
       have hx8 := bt_at a0 x7_1
       replace p8 := eq_true p8
       replace q8 := eq_true q8
       go_wp2
       go_ret2
       exact ⟨_, by first | rfl | (simp [errW_none, errW_some] <;> rfl) | (simp [*, errW_none, errW_some] <;> rfl), by exact HO_6.out, HB.out⟩
     ·rw [if_neg c7] at H
      exact absurd H (by simp)
    ·rw [if_neg c6] at H
     have c6b0 : decide (x7_1 < (a0.size : Int)) = false := decide_eq_false c6
     clear c6
     simp only [Option.some.injEq, Prod.mk.injEq] at H
     obtain ⟨rfl, rfl⟩ := H
     go_wp2
     go_ret2
     exact ⟨_, by first | rfl | (simp [errW_none, errW_some] <;> rfl) | (simp [*, errW_none, errW_some] <;> rfl), by exact HO_6.out, HB.out⟩
   ·rw [if_neg c5] at H
    have c5b0 : decide (0 ≤ x7_1) = false := decide_eq_false c5
    clear c5
    simp only [Option.some.injEq, Prod.mk.injEq] at H
    obtain ⟨rfl, rfl⟩ := H
    go_wp2
    go_ret2
    exact ⟨_, by first | rfl | (simp [errW_none, errW_some] <;> rfl) | (simp [*, errW_none, errW_some] <;> rfl), by exact HO_6.out, HB.out⟩

/-! ### spec_ReadTerm: function 41 -/
def spec_ReadTerm.f (k : Nat) (a0 : Int) (a1 : ByteArray) : Option ((List (S34)) × Bool) := if (a1.size : Int) > 60 then (some ((([] : List (S34))), false)) else ((spec_l9Or.f k a1 0).bind fun bt361 => (if bt361.2 = (a1.size : Int) then ((spec_TermOk.f k a0 bt361.1).bind fun t365 => (if t365 = true then ((spec_l9Text.f k bt361.1).bind fun t366 => (if t366.toList = a1.toList then (some (bt361.1, true)) else (some ((([] : List (S34))), false)))) else (some ((([] : List (S34))), false)))) else (some ((([] : List (S34))), false))))
set_option maxHeartbeats 8000000 in
set_option maxRecDepth 100000 in
theorem spec_ReadTerm.calls (k : Nat) (a0 : Int) (a1 : ByteArray) (r1 : List (S34)) (r2 : Bool) (w : World) (h : spec_ReadTerm.f k a0 a1 = some (r1, r2)) :
  Calls Try.prog 41 #[.int .i64 a0, .string a1] w fun e w' => ∃ v0_ : Value, e = .returned (.tuple #[v0_, .bool r2]) ∧ Kd.R k34 34 w' w.heap.size (fun _ => True) v0_ r1 ∧ Below w.heap.size w w' := by
 have HB := Aside0.mk (Below.refl w.heap.size w)
 have H : (if (a1.size : Int) > 60 then (some ((([] : List (S34))), false)) else ((spec_l9Or.f k a1 0).bind fun bt361 => (if bt361.2 = (a1.size : Int) then ((spec_TermOk.f k a0 bt361.1).bind fun t365 => (if t365 = true then ((spec_l9Text.f k bt361.1).bind fun t366 => (if t366.toList = a1.toList then (some (bt361.1, true)) else (some ((([] : List (S34))), false)))) else (some ((([] : List (S34))), false)))) else (some ((([] : List (S34))), false))))) = some (r1, r2) := h
 clear h
 by_cases c3 : (a1.size : Int) > 60
 ·rw [if_pos c3] at H
  have c3b0 : decide (60 < (a1.size : Int)) = true := decide_eq_true c3
  have c3b1 : decide (60 < a1.size) = true := decide_eq_true (by omega)
  clear c3
  obtain ⟨y358, hy358⟩ : ∃ y_ : List (S34), y_ = (([] : List (S34))) := ⟨_, rfl⟩
  replace H : (some (y358, false)) = some (r1, r2) := by first | (rw [hy358]; with_reducible exact H) | (have H2_ := (Option.bind_some _ _).symm.trans H; rw [hy358]; with_reducible exact H2_) | (have H2_ := (Option.bind_some _ _).symm.trans H; with_reducible exact H2_) | with_reducible exact H | (rw [hy358]; exact H) | exact H
  have Ny358 := Aside0.mk hy358
  clear hy358
  simp only [Option.some.injEq, Prod.mk.injEq] at H
  obtain ⟨rfl, rfl⟩ := H
  go_enter Try.func41, Try.ntmps41
  go_wp2_with (first | ((with_reducible refine gate_dst (N := 11) rfl ?_); refine Kd.R_lit k34 _ 34 ?hg (N := 11) ?hd (xs := ([] : List (S34))) (inner := []) (ok := fun _ => True) (okp := fun _ => True) ?hr ?hp (fun _ hk => hk) trivial (Below.refl _ _) (Nat.le_refl _) (by simp) ?_; (case hd => rfl); (case hg => rfl); (case hr => first | (go_simp; done) | (go_simp; rfl)); (case hp => exact (Reps.none _ _)); intro v359 w4 ho5 hb hg_ hnew_; clear hg_ hnew_; (first | rw [← Ny358.out] at ho5 | (simp only [Int.reduceToNat] at ho5; rw [← Ny358.out] at ho5)); have n0_ := Aside0.mk (Kd.R_lower ho5 (below_size (HB.out))); have n1_ := Aside0.mk (below_step (HB.out) hb); clear HB; have HO360 := n0_; have HB := n1_; clear n0_ n1_; clear hb ho5))
  go_ret2
  exact ⟨_, by first | rfl | (simp [errW_none, errW_some] <;> rfl) | (simp [*, errW_none, errW_some] <;> rfl), by exact HO360.out, HB.out⟩
 ·rw [if_neg c3] at H
  have c3b0 : decide (60 < (a1.size : Int)) = false := decide_eq_false c3
  have c3b1 : decide (60 < a1.size) = false := decide_eq_false (by omega)
  clear c3
  replace H := Option.bind_eq_some_iff.mp H
  obtain ⟨⟨t361, t362⟩, A60, H⟩ := H
  try dsimp only at H
  have A6 := Aside0.mk A60
  clear A60
  by_cases c7 : t362 = (a1.size : Int)
  ·rw [if_pos c7] at H
   have c7b0 : (t362 == (a1.size : Int)) = true := beq_iff_eq.mpr c7
   have c7b1 : (t362 != (a1.size : Int)) = false := bne_eq_false_iff_eq.mpr c7
   clear c7
   replace H := Option.bind_eq_some_iff.mp H
   obtain ⟨t365, A80, H⟩ := H
   try dsimp only at H
   have A8 := Aside0.mk A80
   clear A80
   by_cases c9 : t365 = true
   ·subst c9
    have H1 : ((spec_l9Text.f k t361).bind fun t366 => (if t366.toList = a1.toList then (some (t361, true)) else (some ((([] : List (S34))), false)))) = some (r1, r2) := by rw [if_pos rfl] at H; exact H
    clear H
    have H := H1
    clear H1
    replace H := Option.bind_eq_some_iff.mp H
    obtain ⟨t366, A100, H⟩ := H
    replace H : (if t366.toList = a1.toList then (some (t361, true)) else (some ((([] : List (S34))), false))) = some (r1, r2) := H
    have A10 := Aside0.mk A100
    clear A100
    by_cases c11 : t366.toList = a1.toList
    ·rw [if_pos c11] at H
     have c11b0 : (t366.toList == a1.toList) = true := beq_iff_eq.mpr c11
     have c11b1 : (t366.toList != a1.toList) = false := bne_eq_false_iff_eq.mpr c11
     clear c11
     simp only [Option.some.injEq, Prod.mk.injEq] at H
     obtain ⟨rfl, rfl⟩ := H
     go_enter Try.func41, Try.ntmps41
     go_wp2_with (first | ((with_reducible refine gate_callee (f := 61) rfl ?_); refine goesL_ (some 14) rfl rfl Try.func61 (by kernel_rfl) rfl #[.string a1, .int .i64 0] rfl (by (try simp only [List.map_toArray, List.map_cons, List.map_nil]); first | done | rfl | (simp only [List.length_drop, List.length_take]; rfl)) ?_; (with_reducible refine (spec_l9Or.calls k a1 0 t361 t362 _ A6.out).mono ?_); rintro e w12 ⟨v363, rfl, ho0, hb⟩; refine ⟨_, rfl, ?_⟩; have n0_ := Aside0.mk (Kd.R_lower ho0 (below_size (by repeat (first | (with_reducible first | exact HB.out | apply below_alloc | apply pw_below_drewN | apply below_drew1) | exact HB.out)))); have n1_ := Aside0.mk (below_step (by repeat (first | (with_reducible first | exact HB.out | apply below_alloc | apply pw_below_drewN | apply below_drew1) | exact HB.out)) hb); clear HB; have HO364 := n0_; have HB := n1_; clear n0_ n1_; (try clear hb); (try clear hb2); (try clear hk); (try clear hi); (try clear ho0); obtain ⟨Ao13, co13, eo13⟩ := Kd.R_slice HO364.out; subst eo13) | (go_at_call 16; (with_reducible refine (spec_TermOk.calls k a0 _ _ t361 true _ ?side1 ?side2 A8.out).mono ?_); (case side1 => repeat (first | exact (Kd.R_reads' HO364.out).2.2 | with_reducible refine Kd.C_drewN ?_ _)); (case side2 => exact (Kd.R_reads' HO364.out).2.1); rintro e w14 ⟨rfl, hb⟩; have n0_ := Aside0.mk (Kd.R_below (by exact HO364.out) hb); have n1_ := Aside0.mk (below_step (by repeat (first | (with_reducible first | exact HB.out | apply below_alloc | apply pw_below_drewN | apply below_drew1) | exact HB.out)) hb); clear HO364; clear HB; have HO364 := n0_; have HB := n1_; clear n0_ n1_; (try clear hb); (try clear hb2); (try clear hk); (try clear hi)) | (go_at_call 53; (with_reducible refine (spec_l9Text.calls k _ _ t361 t366 _ ?side1 ?side2 A10.out).mono ?_); (case side1 => repeat (first | exact (Kd.R_reads' HO364.out).2.2 | with_reducible refine Kd.C_drewN ?_ _)); (case side2 => exact (Kd.R_reads' HO364.out).2.1); rintro e w' ⟨rfl, ⟨nd, rfl⟩⟩))
     go_ret2
     exact ⟨_, by first | rfl | (simp [errW_none, errW_some] <;> rfl) | (simp [*, errW_none, errW_some] <;> rfl), by exact HO364.out, by repeat (first | (with_reducible first | exact HB.out | apply below_alloc | apply pw_below_drewN | apply below_drew1) | exact HB.out)⟩
    ·rw [if_neg c11] at H
     have c11b0 : (t366.toList == a1.toList) = false := beq_eq_false_iff_ne.mpr c11
     have c11b1 : (t366.toList != a1.toList) = true := bne_iff_ne.mpr c11
     obtain ⟨y367, hy367⟩ : ∃ y_ : List (S34), y_ = (([] : List (S34))) := ⟨_, rfl⟩
     replace H : (some (y367, false)) = some (r1, r2) := by first | (rw [hy367]; with_reducible exact H) | (have H2_ := (Option.bind_some _ _).symm.trans H; rw [hy367]; with_reducible exact H2_) | (have H2_ := (Option.bind_some _ _).symm.trans H; with_reducible exact H2_) | with_reducible exact H | (rw [hy367]; exact H) | exact H
     have Ny367 := Aside0.mk hy367
     clear hy367
     simp only [Option.some.injEq, Prod.mk.injEq] at H
     obtain ⟨rfl, rfl⟩ := H
     go_enter Try.func41, Try.ntmps41
     go_wp2_with (first | ((with_reducible refine gate_callee (f := 61) rfl ?_); refine goesL_ (some 14) rfl rfl Try.func61 (by kernel_rfl) rfl #[.string a1, .int .i64 0] rfl (by (try simp only [List.map_toArray, List.map_cons, List.map_nil]); first | done | rfl | (simp only [List.length_drop, List.length_take]; rfl)) ?_; (with_reducible refine (spec_l9Or.calls k a1 0 t361 t362 _ A6.out).mono ?_); rintro e w15 ⟨v363, rfl, ho0, hb⟩; refine ⟨_, rfl, ?_⟩; have n0_ := Aside0.mk (Kd.R_lower ho0 (below_size (by repeat (first | (with_reducible first | exact HB.out | apply below_alloc | apply pw_below_drewN | apply below_drew1) | exact HB.out)))); have n1_ := Aside0.mk (below_step (by repeat (first | (with_reducible first | exact HB.out | apply below_alloc | apply pw_below_drewN | apply below_drew1) | exact HB.out)) hb); clear HB; have HO364 := n0_; have HB := n1_; clear n0_ n1_; (try clear hb); (try clear hb2); (try clear hk); (try clear hi); (try clear ho0); obtain ⟨Ao16, co16, eo16⟩ := Kd.R_slice HO364.out; subst eo16) | (go_at_call 16; (with_reducible refine (spec_TermOk.calls k a0 _ _ t361 true _ ?side1 ?side2 A8.out).mono ?_); (case side1 => repeat (first | exact (Kd.R_reads' HO364.out).2.2 | with_reducible refine Kd.C_drewN ?_ _)); (case side2 => exact (Kd.R_reads' HO364.out).2.1); rintro e w17 ⟨rfl, hb⟩; have n0_ := Aside0.mk (Kd.R_below (by exact HO364.out) hb); have n1_ := Aside0.mk (below_step (by repeat (first | (with_reducible first | exact HB.out | apply below_alloc | apply pw_below_drewN | apply below_drew1) | exact HB.out)) hb); clear HO364; clear HB; have HO364 := n0_; have HB := n1_; clear n0_ n1_; (try clear hb); (try clear hb2); (try clear hk); (try clear hi)) | (go_at_call 53; (with_reducible refine (spec_l9Text.calls k _ _ t361 t366 _ ?side1 ?side2 A10.out).mono ?_); (case side1 => repeat (first | exact (Kd.R_reads' HO364.out).2.2 | with_reducible refine Kd.C_drewN ?_ _)); (case side2 => exact (Kd.R_reads' HO364.out).2.1); rintro e w' ⟨rfl, ⟨nd, rfl⟩⟩) | ((with_reducible refine gate_dst (N := 33) rfl ?_); refine Kd.R_lit k34 _ 34 ?hg (N := 33) ?hd (xs := ([] : List (S34))) (inner := []) (ok := fun _ => True) (okp := fun _ => True) ?hr ?hp (fun _ hk => hk) trivial (Below.refl _ _) (Nat.le_refl _) (by simp) ?_; (case hd => rfl); (case hg => rfl); (case hr => first | (go_simp; done) | (go_simp; rfl)); (case hp => exact (Reps.none _ _)); intro v368 w18 ho19 hb hg_ hnew_; clear hg_ hnew_; (first | rw [← Ny367.out] at ho19 | (simp only [Int.reduceToNat] at ho19; rw [← Ny367.out] at ho19)); have n0_ := Aside0.mk (Kd.R_elder' (by exact HO364.out) (Kd.R_base ho19) hb); have n1_ := Aside0.mk (Kd.R_lower (Kd.R_new' ho19 (Kd.R_lt (by exact HO364.out))) (below_size (by repeat (first | (with_reducible first | exact HB.out | apply below_alloc | apply pw_below_drewN | apply below_drew1) | exact HB.out)))); have n2_ := Aside0.mk (below_step (by repeat (first | (with_reducible first | exact HB.out | apply below_alloc | apply pw_below_drewN | apply below_drew1) | exact HB.out)) hb); clear HO364; clear HB; have HO364 := n0_; have HO369 := n1_; have HB := n2_; clear n0_ n1_ n2_; clear hb ho19))
     go_ret2
     exact ⟨_, by first | rfl | (simp [errW_none, errW_some] <;> rfl) | (simp [*, errW_none, errW_some] <;> rfl), by exact Kd.R_mono HO369.out (fun _ hk => trivial), by repeat (first | (with_reducible first | exact HB.out | apply below_alloc | apply pw_below_drewN | apply below_drew1) | exact HB.out)⟩
   ·replace c9 := Bool.eq_false_iff.mpr c9
    subst c9
    have H1 : (some ((([] : List (S34))), false)) = some (r1, r2) := by rw [if_neg (show ¬ (false = true) by decide)] at H; exact H
    clear H
    have H := H1
    clear H1
    obtain ⟨y370, hy370⟩ : ∃ y_ : List (S34), y_ = (([] : List (S34))) := ⟨_, rfl⟩
    replace H : (some (y370, false)) = some (r1, r2) := by first | (rw [hy370]; with_reducible exact H) | (have H2_ := (Option.bind_some _ _).symm.trans H; rw [hy370]; with_reducible exact H2_) | (have H2_ := (Option.bind_some _ _).symm.trans H; with_reducible exact H2_) | with_reducible exact H | (rw [hy370]; exact H) | exact H
    have Ny370 := Aside0.mk hy370
    clear hy370
    simp only [Option.some.injEq, Prod.mk.injEq] at H
    obtain ⟨rfl, rfl⟩ := H
    go_enter Try.func41, Try.ntmps41
    go_wp2_with (first | ((with_reducible refine gate_callee (f := 61) rfl ?_); refine goesL_ (some 14) rfl rfl Try.func61 (by kernel_rfl) rfl #[.string a1, .int .i64 0] rfl (by (try simp only [List.map_toArray, List.map_cons, List.map_nil]); first | done | rfl | (simp only [List.length_drop, List.length_take]; rfl)) ?_; (with_reducible refine (spec_l9Or.calls k a1 0 t361 t362 _ A6.out).mono ?_); rintro e w20 ⟨v363, rfl, ho0, hb⟩; refine ⟨_, rfl, ?_⟩; have n0_ := Aside0.mk (Kd.R_lower ho0 (below_size (HB.out))); have n1_ := Aside0.mk (below_step (HB.out) hb); clear HB; have HO364 := n0_; have HB := n1_; clear n0_ n1_; (try clear ho0); obtain ⟨Ao21, co21, eo21⟩ := Kd.R_slice HO364.out; subst eo21) | (go_at_call 16; (with_reducible refine (spec_TermOk.calls k a0 _ _ t361 false _ ?side1 ?side2 A8.out).mono ?_); (case side1 => repeat (first | exact (Kd.R_reads' HO364.out).2.2 | with_reducible refine Kd.C_drewN ?_ _)); (case side2 => exact (Kd.R_reads' HO364.out).2.1); rintro e w22 ⟨rfl, hb⟩; have n0_ := Aside0.mk (Kd.R_below (by exact HO364.out) hb); have n1_ := Aside0.mk (below_step (HB.out) hb); clear HO364; clear HB; have HO364 := n0_; have HB := n1_; clear n0_ n1_) | ((with_reducible refine gate_dst (N := 33) rfl ?_); refine Kd.R_lit k34 _ 34 ?hg (N := 33) ?hd (xs := ([] : List (S34))) (inner := []) (ok := fun _ => True) (okp := fun _ => True) ?hr ?hp (fun _ hk => hk) trivial (Below.refl _ _) (Nat.le_refl _) (by simp) ?_; (case hd => rfl); (case hg => rfl); (case hr => first | (go_simp; done) | (go_simp; rfl)); (case hp => exact (Reps.none _ _)); intro v371 w23 ho24 hb hg_ hnew_; clear hg_ hnew_; (first | rw [← Ny370.out] at ho24 | (simp only [Int.reduceToNat] at ho24; rw [← Ny370.out] at ho24)); have n0_ := Aside0.mk (Kd.R_elder' (by exact HO364.out) (Kd.R_base ho24) hb); have n1_ := Aside0.mk (Kd.R_lower (Kd.R_new' ho24 (Kd.R_lt (by exact HO364.out))) (below_size (HB.out))); have n2_ := Aside0.mk (below_step (HB.out) hb); clear HO364; clear HB; have HO364 := n0_; have HO372 := n1_; have HB := n2_; clear n0_ n1_ n2_; clear hb ho24))
    go_ret2
    exact ⟨_, by first | rfl | (simp [errW_none, errW_some] <;> rfl) | (simp [*, errW_none, errW_some] <;> rfl), by exact Kd.R_mono HO372.out (fun _ hk => trivial), HB.out⟩
  ·rw [if_neg c7] at H
   have c7b0 : (t362 == (a1.size : Int)) = false := beq_eq_false_iff_ne.mpr c7
   have c7b1 : (t362 != (a1.size : Int)) = true := bne_iff_ne.mpr c7
   obtain ⟨y373, hy373⟩ : ∃ y_ : List (S34), y_ = (([] : List (S34))) := ⟨_, rfl⟩
   replace H : (some (y373, false)) = some (r1, r2) := by first | (rw [hy373]; with_reducible exact H) | (have H2_ := (Option.bind_some _ _).symm.trans H; rw [hy373]; with_reducible exact H2_) | (have H2_ := (Option.bind_some _ _).symm.trans H; with_reducible exact H2_) | with_reducible exact H | (rw [hy373]; exact H) | exact H
   have Ny373 := Aside0.mk hy373
   clear hy373
   simp only [Option.some.injEq, Prod.mk.injEq] at H
   obtain ⟨rfl, rfl⟩ := H
   go_enter Try.func41, Try.ntmps41
   go_wp2_with (first | ((with_reducible refine gate_callee (f := 61) rfl ?_); refine goesL_ (some 14) rfl rfl Try.func61 (by kernel_rfl) rfl #[.string a1, .int .i64 0] rfl (by (try simp only [List.map_toArray, List.map_cons, List.map_nil]); first | done | rfl | (simp only [List.length_drop, List.length_take]; rfl)) ?_; (with_reducible refine (spec_l9Or.calls k a1 0 t361 t362 _ A6.out).mono ?_); rintro e w25 ⟨v363, rfl, ho0, hb⟩; refine ⟨_, rfl, ?_⟩; have n0_ := Aside0.mk (Kd.R_lower ho0 (below_size (HB.out))); have n1_ := Aside0.mk (below_step (HB.out) hb); clear HB; have HO364 := n0_; have HB := n1_; clear n0_ n1_; (try clear ho0)) | ((with_reducible refine gate_dst (N := 33) rfl ?_); refine Kd.R_lit k34 _ 34 ?hg (N := 33) ?hd (xs := ([] : List (S34))) (inner := []) (ok := fun _ => True) (okp := fun _ => True) ?hr ?hp (fun _ hk => hk) trivial (Below.refl _ _) (Nat.le_refl _) (by simp) ?_; (case hd => rfl); (case hg => rfl); (case hr => first | (go_simp; done) | (go_simp; rfl)); (case hp => exact (Reps.none _ _)); intro v374 w26 ho27 hb hg_ hnew_; clear hg_ hnew_; (first | rw [← Ny373.out] at ho27 | (simp only [Int.reduceToNat] at ho27; rw [← Ny373.out] at ho27)); have n0_ := Aside0.mk (Kd.R_elder' (by exact HO364.out) (Kd.R_base ho27) hb); have n1_ := Aside0.mk (Kd.R_lower (Kd.R_new' ho27 (Kd.R_lt (by exact HO364.out))) (below_size (HB.out))); have n2_ := Aside0.mk (below_step (HB.out) hb); clear HO364; clear HB; have HO364 := n0_; have HO375 := n1_; have HB := n2_; clear n0_ n1_ n2_; clear hb ho27))
   go_ret2
   exact ⟨_, by first | rfl | (simp [errW_none, errW_some] <;> rfl) | (simp [*, errW_none, errW_some] <;> rfl), by exact Kd.R_mono HO375.out (fun _ hk => trivial), HB.out⟩

/-! ### spec_TermText: function 26 -/
def spec_TermText.f (k : Nat) (a0 : Int) (l1 : List (S34)) : Option (ByteArray) := (spec_TermOk.f k a0 l1).bind fun t376 => (if t376 = true then ((spec_l9Text.f k l1).bind fun t377 => (some t377)) else (some (⟨#[]⟩ : ByteArray)))
set_option maxHeartbeats 8000000 in
set_option maxRecDepth 100000 in
theorem spec_TermText.calls (k : Nat) (a0 : Int) (A1 : Option Addr) (c1 : Nat) (l1 : List (S34)) (r : ByteArray) (w : World) (hr1 : Kd.C k34 w A1 l1.length l1) (hc1 : l1.length ≤ c1) (h : spec_TermText.f k a0 l1 = some r) :
  Calls Try.prog 26 #[.int .i64 a0, .slice A1 l1.length c1] w fun e w' => e = .returned (.string r) ∧ Below w.heap.size w w' := by
 have HR1 := Aside0.mk hr1
 have HC1 := Aside0.mk hc1
 clear hr1 hc1
 have HB := Aside0.mk (Below.refl w.heap.size w)
 have H : ((spec_TermOk.f k a0 l1).bind fun t376 => (if t376 = true then ((spec_l9Text.f k l1).bind fun t377 => (some t377)) else (some (⟨#[]⟩ : ByteArray)))) = some r := h
 clear h
 replace H := Option.bind_eq_some_iff.mp H
 obtain ⟨t376, A30, H⟩ := H
 replace H : (if t376 = true then ((spec_l9Text.f k l1).bind fun t377 => (some t377)) else (some (⟨#[]⟩ : ByteArray))) = some r := H
 have A3 := Aside0.mk A30
 clear A30
 by_cases c4 : t376 = true
 ·subst c4
  have H1 : ((spec_l9Text.f k l1).bind fun t377 => (some t377)) = some r := by rw [if_pos rfl] at H; exact H
  clear H
  have H := H1
  clear H1
  replace H := Option.bind_eq_some_iff.mp H
  obtain ⟨t377, A50, H⟩ := H
  replace H : (some t377) = some r := H
  have A5 := Aside0.mk A50
  clear A50
  obtain rfl := Option.some.inj H
  go_enter Try.func26, Try.ntmps26
  go_wp2_with (first | ((with_reducible refine gate_callee (f := 16) rfl ?_); refine goesL_ (some 7) rfl rfl Try.func16 (by kernel_rfl) rfl #[.int .i64 a0, .slice A1 l1.length c1] rfl (by (try simp only [List.map_toArray, List.map_cons, List.map_nil]); first | done | rfl | (simp only [List.length_drop, List.length_take]; rfl)) ?_; (with_reducible refine (spec_TermOk.calls k a0 _ _ l1 true _ ?side1 ?side2 A3.out).mono ?_); (case side1 => repeat (first | exact HR1.out | with_reducible refine Kd.C_drewN ?_ _)); (case side2 => exact HC1.out); rintro e w6 ⟨rfl, hb⟩; refine ⟨_, rfl, ?_⟩; have n0_ := Aside0.mk (below_step (by repeat (first | (with_reducible first | exact HB.out | apply below_alloc | apply pw_below_drewN | apply below_drew1) | exact HB.out)) hb); clear HB; have HB := n0_; clear n0_; (try clear hb); (try clear hb2); (try clear hk); (try clear hi)) | ((with_reducible refine gate_callee (f := 53) rfl ?_); refine goesL_ (some 10) rfl rfl Try.func53 (by kernel_rfl) rfl #[.slice A1 l1.length c1] rfl (by (try simp only [List.map_toArray, List.map_cons, List.map_nil]); first | done | rfl | (simp only [List.length_drop, List.length_take]; rfl)) ?_; (with_reducible refine (spec_l9Text.calls k _ _ l1 t377 _ ?side1 ?side2 A5.out).mono ?_); (case side1 => repeat (first | exact (Kd.C_below HR1.out HB.out) | with_reducible refine Kd.C_drewN ?_ _)); (case side2 => exact HC1.out); rintro e w' ⟨rfl, ⟨nd, rfl⟩⟩; refine ⟨_, rfl, ?_⟩))
  go_ret
  exact ⟨by first | rfl | (simp [errW_none, errW_some] <;> rfl) | (simp [*, errW_none, errW_some] <;> rfl), by repeat (first | (with_reducible first | exact HB.out | apply below_alloc | apply pw_below_drewN | apply below_drew1) | exact HB.out)⟩
 ·replace c4 := Bool.eq_false_iff.mpr c4
  subst c4
  have H1 : (some (⟨#[]⟩ : ByteArray)) = some r := by rw [if_neg (show ¬ (false = true) by decide)] at H; exact H
  clear H
  have H := H1
  clear H1
  obtain rfl := Option.some.inj H
  go_enter Try.func26, Try.ntmps26
  go_wp2_with (first | ((with_reducible refine gate_callee (f := 16) rfl ?_); refine goesL_ (some 7) rfl rfl Try.func16 (by kernel_rfl) rfl #[.int .i64 a0, .slice A1 l1.length c1] rfl (by (try simp only [List.map_toArray, List.map_cons, List.map_nil]); first | done | rfl | (simp only [List.length_drop, List.length_take]; rfl)) ?_; (with_reducible refine (spec_TermOk.calls k a0 _ _ l1 false _ ?side1 ?side2 A3.out).mono ?_); (case side1 => repeat (first | exact HR1.out | with_reducible refine Kd.C_drewN ?_ _)); (case side2 => exact HC1.out); rintro e w7 ⟨rfl, hb⟩; refine ⟨_, rfl, ?_⟩; have n0_ := Aside0.mk (below_step (HB.out) hb); clear HB; have HB := n0_; clear n0_))
  go_ret
  exact ⟨by first | rfl | (simp [errW_none, errW_some] <;> rfl) | (simp [*, errW_none, errW_some] <;> rfl), HB.out⟩

end Go.Proofs.Ytpnloocdeljmhaa.PFnReadTerm
