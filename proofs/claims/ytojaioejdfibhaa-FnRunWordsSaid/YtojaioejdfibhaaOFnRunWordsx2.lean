/- Walks of the functions that the law FnRunWords reaches, written by a program of this session. No condition but those that each states. -/
import Derived.Test.YtojaioejdfibhaaOFnRunWordsx0
import Derived.Test.YtojaioejdfibhaaOFnRunWordsx1
namespace Go.Proofs.Ytojaioejdfibhaa.PFnRunWords
open Go.RowKit Go.Proofs.YtojaioejdfibhaaW.PrintWords Go.Proofs.YtojaioejdfibhaaW.PrintLast Go.Proofs.YtojaioejdfibhaaW.PrintMore
attribute [local go_sem] max2_int min2_int max_two min_two max_three min_three max_four min_four   -- for this text's walks alone
set_option linter.unusedVariables false
set_option linter.unusedSimpArgs false

/-! ### spec_CountRowOk: function 64 -/
def spec_CountRowOk.l0 : Nat → Int → List Int → Int → Option (Bool)
  | 0, _, _, _ => none
  | k + 1, x0, x1, x5 => if x5 < (x1.length : Int) then (if 0 ≤ x5 then ((spec_l1In.f (rd x1 x5) 0 6).bind fun t126 => (if t126 = true then (spec_CountRowOk.l0 k x0 x1 (wrap64 (x5 + 1))) else (some false))) else (none)) else ((spec_l1In.f x0 1 3).bind fun t127 => (if t127 = true then (if (x1.length : Int) = x0 then ((spec_l1Total.f k x1).bind fun t128 => (some (decide (t128 ≤ 6)))) else (some false)) else (some false)))
def spec_CountRowOk.f (k : Nat) (a0 : Int) (l1 : List Int) : Option (Bool) := spec_CountRowOk.l0 k a0 l1 0
set_option maxHeartbeats 8000000 in
set_option maxRecDepth 100000 in
theorem spec_CountRowOk.calls (k : Nat) (a0 : Int) (A1 : Option Addr) (c1 : Nat) (l1 : List Int) (r : Bool) (w : World) (hr1 : Kd.C (Kd.int .i64) w A1 l1.length l1) (hc1 : l1.length ≤ c1) (h : spec_CountRowOk.f k a0 l1 = some r) :
    Calls Try.prog 64 #[.int .i64 a0, .slice A1 l1.length c1] w fun e w' => e = .returned (.bool r) ∧ Drawn0 w w' := by
  have HR1 := Aside0.mk hr1
  have HC1 := Aside0.mk hc1
  clear hr1 hc1
  have H : (spec_CountRowOk.l0 k a0 l1 0) = some r := h
  clear h
  have H' := Aside0.mk H
  clear H
  go_enter Try.func64, Try.ntmps64
  go_wp2
  go_loopg [5] k (fun kq v5 w' => ∃ (x5_1 : Int), v5 = .int .i64 x5_1 ∧ Aside0 (spec_CountRowOk.l0 kq a0 l1 x5_1 = some r) ∧ Aside0 (kq ≤ k) ∧ Drawn0 w w')
  case atStart => exact ⟨(0), (by first | rfl | (simp; done) | (simp [*]; done)), H', ⟨Nat.le_refl _⟩, by repeat (first | exact Drawn0.refl _ | apply Drawn0.step)⟩
  case round =>
    clear H'
    try clear c1
    try clear p2
    obtain ⟨x5_1, rfl, HA, HK1, ⟨m1, rfl⟩⟩ := hrel
    cases gk with
    | zero => exact absurd HA.out (by simp [spec_CountRowOk.l0])
    | succ k1 =>
      have H := HA.out
      clear HA
      simp only [spec_CountRowOk.l0] at H
      by_cases c3 : x5_1 < (l1.length : Int)
      · rw [if_pos c3] at H
        have c3b0 : decide (x5_1 < (l1.length : Int)) = true := decide_eq_true c3
        clear c3
        by_cases c4 : 0 ≤ x5_1
        · rw [if_pos c4] at H
          have c4b0 : decide (0 ≤ x5_1) = true := decide_eq_true c4
          clear c4
          replace H := Option.bind_eq_some_iff.mp H
          obtain ⟨t126, A50, H⟩ := H
          replace H : (if t126 = true then (spec_CountRowOk.l0 k1 a0 l1 (wrap64 (x5_1 + 1))) else (some false)) = some r := H
          have A5 := Aside0.mk A50
          clear A50
          by_cases c6 : t126 = true
          · subst c6
            have H1 : (spec_CountRowOk.l0 k1 a0 l1 (wrap64 (x5_1 + 1))) = some r := by rw [if_pos rfl] at H; exact H
            clear H
            have H := H1
            clear H1
            have H' := Aside0.mk H
            clear H
            have p125 : 0 ≤ (x5_1 : Int) := of_decide_eq_true (by first | (with_reducible assumption) | assumption)
            have q125 : x5_1 < (l1.length : Int) := of_decide_eq_true (by first | (with_reducible assumption) | assumption)
            obtain ⟨ad125, e125, hx125_0⟩ := Kd.at_int HR1.out x5_1 p125 q125
            cases e125
            replace p125 := eq_true p125
            replace q125 := eq_true q125
            go_wp2_with (first | ((with_reducible refine gate_callee (f := 75) rfl ?_); refine goesL_ (some 16) rfl rfl Try.func75 (by kernel_rfl) rfl #[.int .i64 (rd l1 x5_1), .int .i64 0, .int .i64 6] rfl (by (try simp only [List.map_toArray, List.map_cons, List.map_nil]); first | done | rfl | (simp only [List.length_drop, List.length_take]; rfl)) ?_; (with_reducible refine (spec_l1In.calls (rd l1 x5_1) 0 6 true _ A5.out).mono ?_); rintro e w' ⟨rfl, ⟨nd, rfl⟩⟩; refine ⟨_, rfl, ?_⟩))
            go_roundg k1
            case measure => have := HK1.out; omega
            case rel => exact ⟨(wrap64 (x5_1 + 1)), (by first | rfl | (simp; done) | (simp [*]; done)), H', ⟨by have := HK1.out; omega⟩, by repeat (first | exact Drawn0.refl _ | apply Drawn0.step)⟩
          · replace c6 := Bool.eq_false_iff.mpr c6
            subst c6
            have H1 : (some false) = some r := by rw [if_neg (show ¬ (false = true) by decide)] at H; exact H
            clear H
            have H := H1
            clear H1
            obtain rfl := Option.some.inj H
            have p125 : 0 ≤ (x5_1 : Int) := of_decide_eq_true (by first | (with_reducible assumption) | assumption)
            have q125 : x5_1 < (l1.length : Int) := of_decide_eq_true (by first | (with_reducible assumption) | assumption)
            obtain ⟨ad125, e125, hx125_0⟩ := Kd.at_int HR1.out x5_1 p125 q125
            cases e125
            replace p125 := eq_true p125
            replace q125 := eq_true q125
            go_wp2_with (first | ((with_reducible refine gate_callee (f := 75) rfl ?_); refine goesL_ (some 16) rfl rfl Try.func75 (by kernel_rfl) rfl #[.int .i64 (rd l1 x5_1), .int .i64 0, .int .i64 6] rfl (by (try simp only [List.map_toArray, List.map_cons, List.map_nil]); first | done | rfl | (simp only [List.length_drop, List.length_take]; rfl)) ?_; (with_reducible refine (spec_l1In.calls (rd l1 x5_1) 0 6 false _ A5.out).mono ?_); rintro e w' ⟨rfl, ⟨nd, rfl⟩⟩; refine ⟨_, rfl, ?_⟩))
            go_ret
            exact ⟨by first | rfl | (simp; done) | (simp [*]; done), by repeat (first | exact Drawn0.refl _ | apply Drawn0.step)⟩
        · rw [if_neg c4] at H
          exact absurd H (by simp)
      · rw [if_neg c3] at H
        have c3b0 : decide (x5_1 < (l1.length : Int)) = false := decide_eq_false c3
        clear c3
        replace H := Option.bind_eq_some_iff.mp H
        obtain ⟨t127, A70, H⟩ := H
        replace H : (if t127 = true then (if (l1.length : Int) = a0 then ((spec_l1Total.f k1 l1).bind fun t128 => (some (decide (t128 ≤ 6)))) else (some false)) else (some false)) = some r := H
        have A7 := Aside0.mk A70
        clear A70
        by_cases c8 : t127 = true
        · subst c8
          have H1 : (if (l1.length : Int) = a0 then ((spec_l1Total.f k1 l1).bind fun t128 => (some (decide (t128 ≤ 6)))) else (some false)) = some r := by rw [if_pos rfl] at H; exact H
          clear H
          have H := H1
          clear H1
          by_cases c9 : (l1.length : Int) = a0
          · rw [if_pos c9] at H
            have c9b0 : ((l1.length : Int) == a0) = true := beq_iff_eq.mpr c9
            have c9b1 : ((l1.length : Int) != a0) = false := bne_eq_false_iff_eq.mpr c9
            clear c9
            replace H := Option.bind_eq_some_iff.mp H
            obtain ⟨t128, A100, H⟩ := H
            replace H : (some (decide (t128 ≤ 6))) = some r := H
            have A10 := Aside0.mk A100
            clear A100
            obtain rfl := Option.some.inj H
            go_wp2_with (first | ((with_reducible refine gate_callee (f := 75) rfl ?_); refine goesL_ (some 19) rfl rfl Try.func75 (by kernel_rfl) rfl #[.int .i64 a0, .int .i64 1, .int .i64 3] rfl (by (try simp only [List.map_toArray, List.map_cons, List.map_nil]); first | done | rfl | (simp only [List.length_drop, List.length_take]; rfl)) ?_; (with_reducible refine (spec_l1In.calls a0 1 3 true _ A7.out).mono ?_); rintro e w' ⟨rfl, ⟨nd, rfl⟩⟩; refine ⟨_, rfl, ?_⟩) | (go_at_call 87; (with_reducible refine (spec_l1Total.calls k1 _ _ l1 t128 _ ?side1 ?side2 A10.out).mono ?_); (case side1 => repeat (first | exact HR1.out | (with_reducible refine Kd.C_alloc ?_ _) | (with_reducible refine Kd.C_drewN ?_ _) | (with_reducible refine Kd.C_drew ?_))); (case side2 => exact HC1.out); rintro e w' ⟨rfl, ⟨nd, rfl⟩⟩))
            go_ret
            exact ⟨by first | rfl | (simp; done) | (simp [*]; done), by repeat (first | exact Drawn0.refl _ | apply Drawn0.step)⟩
          · rw [if_neg c9] at H
            have c9b0 : ((l1.length : Int) == a0) = false := beq_eq_false_iff_ne.mpr c9
            have c9b1 : ((l1.length : Int) != a0) = true := bne_iff_ne.mpr c9
            obtain rfl := Option.some.inj H
            go_wp2_with (first | ((with_reducible refine gate_callee (f := 75) rfl ?_); refine goesL_ (some 19) rfl rfl Try.func75 (by kernel_rfl) rfl #[.int .i64 a0, .int .i64 1, .int .i64 3] rfl (by (try simp only [List.map_toArray, List.map_cons, List.map_nil]); first | done | rfl | (simp only [List.length_drop, List.length_take]; rfl)) ?_; (with_reducible refine (spec_l1In.calls a0 1 3 true _ A7.out).mono ?_); rintro e w' ⟨rfl, ⟨nd, rfl⟩⟩; refine ⟨_, rfl, ?_⟩))
            go_ret
            exact ⟨by first | rfl | (simp; done) | (simp [*]; done), by repeat (first | exact Drawn0.refl _ | apply Drawn0.step)⟩
        · replace c8 := Bool.eq_false_iff.mpr c8
          subst c8
          have H1 : (some false) = some r := by rw [if_neg (show ¬ (false = true) by decide)] at H; exact H
          clear H
          have H := H1
          clear H1
          obtain rfl := Option.some.inj H
          go_wp2_with (first | ((with_reducible refine gate_callee (f := 75) rfl ?_); refine goesL_ (some 19) rfl rfl Try.func75 (by kernel_rfl) rfl #[.int .i64 a0, .int .i64 1, .int .i64 3] rfl (by (try simp only [List.map_toArray, List.map_cons, List.map_nil]); first | done | rfl | (simp only [List.length_drop, List.length_take]; rfl)) ?_; (with_reducible refine (spec_l1In.calls a0 1 3 false _ A7.out).mono ?_); rintro e w' ⟨rfl, ⟨nd, rfl⟩⟩; refine ⟨_, rfl, ?_⟩))
          go_ret
          exact ⟨by first | rfl | (simp; done) | (simp [*]; done), by repeat (first | exact Drawn0.refl _ | apply Drawn0.step)⟩

/-! ### spec_l7Choose: function 65 -/
mutual
def spec_l7Choose.j0 : Nat → Int → Int → Bool → Option (Int)
  | 0, _, _, _ => none
  | k + 1, x0, x1, x13 => if x13 = true then (some 0) else (spec_l7Choose.l0 k x0 x1 1 1)
def spec_l7Choose.l0 : Nat → Int → Int → Int → Int → Option (Int)
  | 0, _, _, _, _ => none
  | k + 1, x0, x1, x5, x6 => if x6 ≤ x1 then (if x6 = 0 then (none) else (spec_l7Choose.l0 k x0 x1 (wrap64 (Int.tdiv (wrap64 (x5 * (wrap64 ((wrap64 (x0 - x1)) + x6)))) x6)) (wrap64 (x6 + 1)))) else (some x5)
end
def spec_l7Choose.f (k : Nat) (a0 : Int) (a1 : Int) : Option (Int) := if a1 < 0 then (spec_l7Choose.j0 k a0 a1 true) else (spec_l7Choose.j0 k a0 a1 (decide (a1 > a0)))
set_option maxHeartbeats 8000000 in
set_option maxRecDepth 100000 in
theorem spec_l7Choose.calls (k : Nat) (a0 : Int) (a1 : Int) (r : Int) (w : World) (h : spec_l7Choose.f k a0 a1 = some r) :
    Calls Try.prog 65 #[.int .i64 a0, .int .i64 a1] w fun e w' => e = .returned (.int .i64 r) ∧ Drawn0 w w' := by
  have H : (if a1 < 0 then (spec_l7Choose.j0 k a0 a1 true) else (spec_l7Choose.j0 k a0 a1 (decide (a1 > a0)))) = some r := h
  clear h
  have HC3 := Aside0.mk H
  clear H
  go_enter Try.func65, Try.ntmps65
  go_upto_region 1 with (fail)
  go_cut [13] (fun v13 wc => ∃ (kq : Nat) (x13_2 : Bool), v13 = .bool x13_2 ∧ Aside0 (spec_l7Choose.j0 kq a0 a1 x13_2 = some r) ∧ Aside0 (kq ≤ k) ∧ Drawn0 w wc)
  case first =>
    have H := HC3.out
    clear HC3
    by_cases c4 : a1 < 0
    · rw [if_pos c4] at H
      have c4b0 : decide (a1 < 0) = true := decide_eq_true c4
      clear c4
      (first | rw [c4b0] | (simp only [i64_w, i32_w]; rw [c4b0]) | skip)
      have H' := Aside0.mk H
      clear H
      go_wp2
      go_meet
      case rel => exact ⟨_, (true), (by first | rfl | (simp; done) | (simp [*]; done)), H', ⟨by first | omega | exact Nat.le_refl _⟩, by repeat (first | exact Drawn0.refl _ | apply Drawn0.step)⟩
    · rw [if_neg c4] at H
      have c4b0 : decide (a1 < 0) = false := decide_eq_false c4
      clear c4
      (first | rw [c4b0] | (simp only [i64_w, i32_w]; rw [c4b0]) | skip)
      have H' := Aside0.mk H
      clear H
      go_wp2
      go_meet
      case rel => exact ⟨_, (decide (a1 > a0)), (by first | rfl | (simp; done) | (simp [*]; done)), H', ⟨by first | omega | exact Nat.le_refl _⟩, by repeat (first | exact Drawn0.refl _ | apply Drawn0.step)⟩
  case rest =>
    clear HC3
    try clear p2
    try clear c4
    try clear c4b0
    obtain ⟨kq, x13_2, rfl, HA, HJ2, ⟨mc2, rfl⟩⟩ := hcut
    cases kq with
    | zero => exact absurd HA.out (by simp [spec_l7Choose.j0])
    | succ kj2 =>
      have H := HA.out
      clear HA
      simp only [spec_l7Choose.j0] at H
      by_cases c5 : x13_2 = true
      · subst c5
        have H1 : (some 0) = some r := by rw [if_pos rfl] at H; exact H
        clear H
        have H := H1
        clear H1
        obtain rfl := Option.some.inj H
        go_wp2
        go_ret
        exact ⟨by first | rfl | (simp; done) | (simp [*]; done), by repeat (first | exact Drawn0.refl _ | apply Drawn0.step)⟩
      · replace c5 := Bool.eq_false_iff.mpr c5
        subst c5
        have H1 : (spec_l7Choose.l0 kj2 a0 a1 1 1) = some r := by rw [if_neg (show ¬ (false = true) by decide)] at H; exact H
        clear H
        have H := H1
        clear H1
        have H' := Aside0.mk H
        clear H
        go_wp2
        go_loopg [5, 6] kj2 (fun kq v5 v6 w' => ∃ (x5_2 : Int) (x6_2 : Int), v5 = .int .i64 x5_2 ∧ v6 = .int .i64 x6_2 ∧ Aside0 (spec_l7Choose.l0 kq a0 a1 x5_2 x6_2 = some r) ∧ Aside0 (kq ≤ kj2) ∧ Drawn0 w w')
        case atStart => exact ⟨(1), (1), (by first | rfl | (simp; done) | (simp [*]; done)), (by first | rfl | (simp; done) | (simp [*]; done)), H', ⟨Nat.le_refl _⟩, by repeat (first | exact Drawn0.refl _ | apply Drawn0.step)⟩
        case round =>
          clear H'
          try clear c2
          try clear p2
          try clear c4
          try clear c4b0
          try clear c5
          try clear p2
          obtain ⟨x5_2, x6_2, rfl, rfl, HA, HK2, ⟨m2, rfl⟩⟩ := hrel
          cases gk with
          | zero => exact absurd HA.out (by simp [spec_l7Choose.l0])
          | succ k2 =>
            have H := HA.out
            clear HA
            simp only [spec_l7Choose.l0] at H
            by_cases c6 : x6_2 ≤ a1
            · rw [if_pos c6] at H
              have c6b0 : decide (x6_2 ≤ a1) = true := decide_eq_true c6
              clear c6
              by_cases c7 : x6_2 = 0
              · rw [if_pos c7] at H
                exact absurd H (by simp)
              · rw [if_neg c7] at H
                have c7b0 : (x6_2 == 0) = false := beq_eq_false_iff_ne.mpr c7
                have c7b1 : (x6_2 != 0) = true := bne_iff_ne.mpr c7
                have H' := Aside0.mk H
                clear H
                go_wp2
                go_roundg k2
                case measure => have := HJ2.out; have := HK2.out; omega
                case rel => exact ⟨(wrap64 (Int.tdiv (wrap64 (x5_2 * (wrap64 ((wrap64 (a0 - a1)) + x6_2)))) x6_2)), (wrap64 (x6_2 + 1)), (by first | rfl | (simp; done) | (simp [*]; done)), (by first | rfl | (simp; done) | (simp [*]; done)), H', ⟨by have := HJ2.out; have := HK2.out; omega⟩, by repeat (first | exact Drawn0.refl _ | apply Drawn0.step)⟩
            · rw [if_neg c6] at H
              have c6b0 : decide (x6_2 ≤ a1) = false := decide_eq_false c6
              clear c6
              obtain rfl := Option.some.inj H
              go_wp2
              go_ret
              exact ⟨by first | rfl | (simp; done) | (simp [*]; done), by repeat (first | exact Drawn0.refl _ | apply Drawn0.step)⟩

/-! ### spec_RunWords: function 26 -/
mutual
def spec_RunWords.j0 : Nat → Int → Int → Int → Bool → Option (Int)
  | 0, _, _, _, _ => none
  | k + 1, x0, x1, x2, x16 => if x16 = true then (some (-1)) else (if x0 = 0 then (spec_RunWords.j1 k x0 x1 x2 true) else (spec_RunWords.j1 k x0 x1 x2 (x1 == 0)))
def spec_RunWords.j1 : Nat → Int → Int → Int → Bool → Option (Int)
  | 0, _, _, _, _ => none
  | k + 1, x0, x1, x2, x22 => if x22 = true then (if x2 = (mn (wrap64 (x0 + x1)) 1) then (some 1) else (some 0)) else (if x2 > 6 then (some 0) else (if (Int.tmod x2 2) = 0 then ((spec_l7Choose.f k (wrap64 (x0 - 1)) (wrap64 ((wrap64 (Int.tdiv x2 2)) - 1))).bind fun t133 => ((spec_l7Choose.f k (wrap64 (x1 - 1)) (wrap64 ((wrap64 (Int.tdiv x2 2)) - 1))).bind fun t134 => (some (wrap64 ((wrap64 (2 * t133)) * t134))))) else ((spec_l7Choose.f k (wrap64 (x0 - 1)) (wrap64 (Int.tdiv x2 2))).bind fun t135 => ((spec_l7Choose.f k (wrap64 (x1 - 1)) (wrap64 ((wrap64 (Int.tdiv x2 2)) - 1))).bind fun t136 => ((spec_l7Choose.f k (wrap64 (x0 - 1)) (wrap64 ((wrap64 (Int.tdiv x2 2)) - 1))).bind fun t137 => ((spec_l7Choose.f k (wrap64 (x1 - 1)) (wrap64 (Int.tdiv x2 2))).bind fun t138 => (some (wrap64 ((wrap64 (t135 * t136)) + (wrap64 (t137 * t138)))))))))))
end
def spec_RunWords.f (k : Nat) (a0 : Int) (a1 : Int) (a2 : Int) : Option (Int) := (spec_CountRowOk.f k 2 (([a0, a1] : List Int))).bind fun t132 => (if t132 = true then (spec_RunWords.j0 k a0 a1 a2 (decide (a2 < 0))) else (spec_RunWords.j0 k a0 a1 a2 true))
set_option maxHeartbeats 8000000 in
set_option maxRecDepth 100000 in
theorem spec_RunWords.calls (k : Nat) (a0 : Int) (a1 : Int) (a2 : Int) (r : Int) (w : World) (h : spec_RunWords.f k a0 a1 a2 = some r) :
    Calls Try.prog 26 #[.int .i64 a0, .int .i64 a1, .int .i64 a2] w fun e w' => e = .returned (.int .i64 r) ∧ Below w.heap.size w w' := by
  have HB := Aside0.mk (Below.refl w.heap.size w)
  have H : ((spec_CountRowOk.f k 2 (([a0, a1] : List Int))).bind fun t132 => (if t132 = true then (spec_RunWords.j0 k a0 a1 a2 (decide (a2 < 0))) else (spec_RunWords.j0 k a0 a1 a2 true))) = some r := h
  clear h
  have HC4 := Aside0.mk H
  clear H
  go_enter Try.func26, Try.ntmps26
  go_upto_region 1 with (fail)
  go_cut [16] (fun v16 wc => ∃ (kq : Nat) (x16_3 : Bool), v16 = .bool x16_3 ∧ Aside0 (spec_RunWords.j0 kq a0 a1 a2 x16_3 = some r) ∧ Aside0 (kq ≤ k) ∧ Aside0 (Below w.heap.size w wc))
  case first =>
    have H := HC4.out
    clear HC4
    obtain ⟨y129, hy129⟩ : ∃ y_ : List Int, y_ = (([a0, a1] : List Int)) := ⟨_, rfl⟩
    replace H : ((spec_CountRowOk.f k 2 y129).bind fun t132 => (if t132 = true then (spec_RunWords.j0 k a0 a1 a2 (decide (a2 < 0))) else (spec_RunWords.j0 k a0 a1 a2 true))) = some r := by first | (rw [hy129]; with_reducible exact H) | (have H2_ := (Option.bind_some _ _).symm.trans H; rw [hy129]; with_reducible exact H2_) | (have H2_ := (Option.bind_some _ _).symm.trans H; with_reducible exact H2_) | with_reducible exact H | (rw [hy129]; exact H) | exact H
    have Ny129 := Aside0.mk hy129
    clear hy129
    replace H := Option.bind_eq_some_iff.mp H
    obtain ⟨t132, A50, H⟩ := H
    replace H : (if t132 = true then (spec_RunWords.j0 k a0 a1 a2 (decide (a2 < 0))) else (spec_RunWords.j0 k a0 a1 a2 true)) = some r := H
    have A5 := Aside0.mk A50
    clear A50
    by_cases c6 : t132 = true
    · subst c6
      have H1 : (spec_RunWords.j0 k a0 a1 a2 (decide (a2 < 0))) = some r := by rw [if_pos rfl] at H; exact H
      clear H
      have H := H1
      clear H1
      have H' := Aside0.mk H
      clear H
      go_wp2_with (first | ((with_reducible refine gate_dst (N := 10) rfl ?_); refine Kd.R_lit (Kd.int .i64) _ 3 ?hg (N := 10) ?hd (xs := ([a0, a1] : List Int)) (inner := [.int .i64 a0, .int .i64 a1]) (ok := fun _ => True) (okp := fun _ => True) ?hr ?hp (fun _ hk => hk) trivial (Below.refl _ _) (Nat.le_refl _) (by simp) ?_; (case hd => rfl); (case hg => rfl); (case hr => first | (go_simp; done) | (go_simp; rfl)); (case hp => exact (Reps.one (show Kd.M (Kd.int .i64) _ _ _ a0 [.int .i64 a0] from rfl) (Reps.one (show Kd.M (Kd.int .i64) _ _ _ a1 [.int .i64 a1] from rfl) (Reps.none _ _)))); intro v130 w7 ho8 hb hg_ hnew_; clear hg_ hnew_; (first | rw [← Ny129.out] at ho8 | (simp only [Int.reduceToNat] at ho8; rw [← Ny129.out] at ho8)); have n0_ := Aside0.mk (Kd.R_lower ho8 (below_size (by repeat (first | (with_reducible first | exact HB.out | apply below_alloc | apply pw_below_drewN | apply below_drew1) | exact HB.out)))); have n1_ := Aside0.mk (below_step (by repeat (first | (with_reducible first | exact HB.out | apply below_alloc | apply pw_below_drewN | apply below_drew1) | exact HB.out)) hb); clear HB; have HO131 := n0_; have HB := n1_; clear n0_ n1_; clear hb ho8; obtain ⟨Ao9, co9, eo9⟩ := Kd.R_slice HO131.out; subst eo9) | ((with_reducible refine gate_callee (f := 64) rfl ?_); refine goesL_ (some 11) rfl rfl Try.func64 (by kernel_rfl) rfl #[.int .i64 2, .slice Ao9 y129.length co9] rfl (by (try simp only [List.map_toArray, List.map_cons, List.map_nil]); first | done | rfl | (simp only [List.length_drop, List.length_take]; rfl)) ?_; (with_reducible refine (spec_CountRowOk.calls k 2 _ _ y129 true _ ?side1 ?side2 A5.out).mono ?_); (case side1 => repeat (first | exact (Kd.R_reads' HO131.out).2.2 | (with_reducible refine Kd.C_alloc ?_ _) | (with_reducible refine Kd.C_drewN ?_ _) | (with_reducible refine Kd.C_drew ?_))); (case side2 => exact (Kd.R_reads' HO131.out).2.1); rintro e w' ⟨rfl, ⟨nd, rfl⟩⟩; refine ⟨_, rfl, ?_⟩))
      go_meet
      case rel => exact ⟨_, (decide (a2 < 0)), (by first | rfl | (simp; done) | (simp [*]; done)), H', ⟨by first | omega | exact Nat.le_refl _⟩, ⟨by repeat (first | (with_reducible first | exact HB.out | apply below_alloc | apply pw_below_drewN | apply below_drew1) | exact HB.out)⟩⟩
    · replace c6 := Bool.eq_false_iff.mpr c6
      subst c6
      have H1 : (spec_RunWords.j0 k a0 a1 a2 true) = some r := by rw [if_neg (show ¬ (false = true) by decide)] at H; exact H
      clear H
      have H := H1
      clear H1
      have H' := Aside0.mk H
      clear H
      go_wp2_with (first | ((with_reducible refine gate_dst (N := 10) rfl ?_); refine Kd.R_lit (Kd.int .i64) _ 3 ?hg (N := 10) ?hd (xs := ([a0, a1] : List Int)) (inner := [.int .i64 a0, .int .i64 a1]) (ok := fun _ => True) (okp := fun _ => True) ?hr ?hp (fun _ hk => hk) trivial (Below.refl _ _) (Nat.le_refl _) (by simp) ?_; (case hd => rfl); (case hg => rfl); (case hr => first | (go_simp; done) | (go_simp; rfl)); (case hp => exact (Reps.one (show Kd.M (Kd.int .i64) _ _ _ a0 [.int .i64 a0] from rfl) (Reps.one (show Kd.M (Kd.int .i64) _ _ _ a1 [.int .i64 a1] from rfl) (Reps.none _ _)))); intro v130 w10 ho11 hb hg_ hnew_; clear hg_ hnew_; (first | rw [← Ny129.out] at ho11 | (simp only [Int.reduceToNat] at ho11; rw [← Ny129.out] at ho11)); have n0_ := Aside0.mk (Kd.R_lower ho11 (below_size (by repeat (first | (with_reducible first | exact HB.out | apply below_alloc | apply pw_below_drewN | apply below_drew1) | exact HB.out)))); have n1_ := Aside0.mk (below_step (by repeat (first | (with_reducible first | exact HB.out | apply below_alloc | apply pw_below_drewN | apply below_drew1) | exact HB.out)) hb); clear HB; have HO131 := n0_; have HB := n1_; clear n0_ n1_; clear hb ho11; obtain ⟨Ao12, co12, eo12⟩ := Kd.R_slice HO131.out; subst eo12) | ((with_reducible refine gate_callee (f := 64) rfl ?_); refine goesL_ (some 11) rfl rfl Try.func64 (by kernel_rfl) rfl #[.int .i64 2, .slice Ao12 y129.length co12] rfl (by (try simp only [List.map_toArray, List.map_cons, List.map_nil]); first | done | rfl | (simp only [List.length_drop, List.length_take]; rfl)) ?_; (with_reducible refine (spec_CountRowOk.calls k 2 _ _ y129 false _ ?side1 ?side2 A5.out).mono ?_); (case side1 => repeat (first | exact (Kd.R_reads' HO131.out).2.2 | (with_reducible refine Kd.C_alloc ?_ _) | (with_reducible refine Kd.C_drewN ?_ _) | (with_reducible refine Kd.C_drew ?_))); (case side2 => exact (Kd.R_reads' HO131.out).2.1); rintro e w' ⟨rfl, ⟨nd, rfl⟩⟩; refine ⟨_, rfl, ?_⟩))
      go_meet
      case rel => exact ⟨_, (true), (by first | rfl | (simp; done) | (simp [*]; done)), H', ⟨by first | omega | exact Nat.le_refl _⟩, ⟨by repeat (first | (with_reducible first | exact HB.out | apply below_alloc | apply pw_below_drewN | apply below_drew1) | exact HB.out)⟩⟩
  case rest =>
    clear HC4
    try clear c2
    try clear p2
    try clear c6
    obtain ⟨kq, x16_3, rfl, HA, HJ3, HB⟩ := hcut
    cases kq with
    | zero => exact absurd HA.out (by simp [spec_RunWords.j0])
    | succ kj3 =>
      have H := HA.out
      clear HA
      simp only [spec_RunWords.j0] at H
      by_cases c13 : x16_3 = true
      · subst c13
        have H1 : (some (-1)) = some r := by rw [if_pos rfl] at H; exact H
        clear H
        have H := H1
        clear H1
        obtain rfl := Option.some.inj H
        go_wp2
        go_ret
        exact ⟨by first | rfl | (simp [errW_none, errW_some] <;> rfl) | (simp [*, errW_none, errW_some] <;> rfl), by repeat (first | (with_reducible first | exact HB.out | apply below_alloc | apply pw_below_drewN | apply below_drew1) | exact HB.out)⟩
      · replace c13 := Bool.eq_false_iff.mpr c13
        subst c13
        have H1 : (if a0 = 0 then (spec_RunWords.j1 kj3 a0 a1 a2 true) else (spec_RunWords.j1 kj3 a0 a1 a2 (a1 == 0))) = some r := by rw [if_neg (show ¬ (false = true) by decide)] at H; exact H
        clear H
        have H := H1
        clear H1
        have HC14 := Aside0.mk H
        clear H
        go_upto_region 3 with (fail)
        go_cut [22] (fun v22 wc => ∃ (kq : Nat) (x22_13 : Bool), v22 = .bool x22_13 ∧ Aside0 (spec_RunWords.j1 kq a0 a1 a2 x22_13 = some r) ∧ Aside0 (kq ≤ kj3) ∧ Aside0 (Below w.heap.size w wc))
        case first =>
          have H := HC14.out
          clear HC14
          by_cases c15 : a0 = 0
          · rw [if_pos c15] at H
            have c15b0 : (a0 == 0) = true := beq_iff_eq.mpr c15
            have c15b1 : (a0 != 0) = false := bne_eq_false_iff_eq.mpr c15
            clear c15
            (first | rw [c15b0] | (simp only [i64_w, i32_w]; rw [c15b0]) | skip)
            have H' := Aside0.mk H
            clear H
            go_wp2
            go_meet
            case rel => exact ⟨_, (true), (by first | rfl | (simp; done) | (simp [*]; done)), H', ⟨by have := HJ3.out; first | omega | exact Nat.le_refl _⟩, ⟨by repeat (first | (with_reducible first | exact HB.out | apply below_alloc | apply pw_below_drewN | apply below_drew1) | exact HB.out)⟩⟩
          · rw [if_neg c15] at H
            have c15b0 : (a0 == 0) = false := beq_eq_false_iff_ne.mpr c15
            have c15b1 : (a0 != 0) = true := bne_iff_ne.mpr c15
            (first | rw [c15b0] | (simp only [i64_w, i32_w]; rw [c15b0]) | skip)
            have H' := Aside0.mk H
            clear H
            go_wp2
            go_meet
            case rel => exact ⟨_, ((a1 == 0)), (by first | rfl | (simp; done) | (simp [*]; done)), H', ⟨by have := HJ3.out; first | omega | exact Nat.le_refl _⟩, ⟨by repeat (first | (with_reducible first | exact HB.out | apply below_alloc | apply pw_below_drewN | apply below_drew1) | exact HB.out)⟩⟩
        case rest =>
          clear HC14
          try clear c1
          try clear c2
          try clear p2
          try clear c6
          try clear c13
          try clear c15
          try clear c15b0
          try clear c15b1
          try clear p2
          obtain ⟨kq, x22_13, rfl, HA, HJ13, HB⟩ := hcut
          cases kq with
          | zero => exact absurd HA.out (by simp [spec_RunWords.j1])
          | succ kj13 =>
            have H := HA.out
            clear HA
            simp only [spec_RunWords.j1] at H
            by_cases c16 : x22_13 = true
            · subst c16
              have H1 : (if a2 = (mn (wrap64 (a0 + a1)) 1) then (some 1) else (some 0)) = some r := by rw [if_pos rfl] at H; exact H
              clear H
              have H := H1
              clear H1
              obtain ⟨ji17, hji17⟩ : ∃ j_ : Int, (mn (wrap64 (a0 + a1)) 1) = j_ := ⟨_, rfl⟩
              replace H : (if a2 = (ji17) then (some 1) else (some 0)) = some r := by first | (rw [hji17] at H; exact H) | (simp only [hji17] at H ⊢; exact H)
              have hji17_ : (if 1 < (wrap64 (a0 + a1)) then 1 else (wrap64 (a0 + a1))) = ji17 := hji17
              by_cases c18 : a2 = (ji17)
              · rw [if_pos c18] at H
                have c18b0 : (a2 == (ji17)) = true := beq_iff_eq.mpr c18
                have c18b1 : (a2 != (ji17)) = false := bne_eq_false_iff_eq.mpr c18
                clear c18
                obtain rfl := Option.some.inj H
                go_wp2
                go_ret
                exact ⟨by first | rfl | (simp [errW_none, errW_some] <;> rfl) | (simp only [← hji17]; first | rfl | (simp [errW_none, errW_some] <;> rfl)) | (simp [*, errW_none, errW_some] <;> rfl), by repeat (first | (with_reducible first | exact HB.out | apply below_alloc | apply pw_below_drewN | apply below_drew1) | exact HB.out)⟩
              · rw [if_neg c18] at H
                have c18b0 : (a2 == (ji17)) = false := beq_eq_false_iff_ne.mpr c18
                have c18b1 : (a2 != (ji17)) = true := bne_iff_ne.mpr c18
                obtain rfl := Option.some.inj H
                go_wp2
                go_ret
                exact ⟨by first | rfl | (simp [errW_none, errW_some] <;> rfl) | (simp only [← hji17]; first | rfl | (simp [errW_none, errW_some] <;> rfl)) | (simp [*, errW_none, errW_some] <;> rfl), by repeat (first | (with_reducible first | exact HB.out | apply below_alloc | apply pw_below_drewN | apply below_drew1) | exact HB.out)⟩
            · replace c16 := Bool.eq_false_iff.mpr c16
              subst c16
              have H1 : (if a2 > 6 then (some 0) else (if (Int.tmod a2 2) = 0 then ((spec_l7Choose.f kj13 (wrap64 (a0 - 1)) (wrap64 ((wrap64 (Int.tdiv a2 2)) - 1))).bind fun t133 => ((spec_l7Choose.f kj13 (wrap64 (a1 - 1)) (wrap64 ((wrap64 (Int.tdiv a2 2)) - 1))).bind fun t134 => (some (wrap64 ((wrap64 (2 * t133)) * t134))))) else ((spec_l7Choose.f kj13 (wrap64 (a0 - 1)) (wrap64 (Int.tdiv a2 2))).bind fun t135 => ((spec_l7Choose.f kj13 (wrap64 (a1 - 1)) (wrap64 ((wrap64 (Int.tdiv a2 2)) - 1))).bind fun t136 => ((spec_l7Choose.f kj13 (wrap64 (a0 - 1)) (wrap64 ((wrap64 (Int.tdiv a2 2)) - 1))).bind fun t137 => ((spec_l7Choose.f kj13 (wrap64 (a1 - 1)) (wrap64 (Int.tdiv a2 2))).bind fun t138 => (some (wrap64 ((wrap64 (t135 * t136)) + (wrap64 (t137 * t138))))))))))) = some r := by rw [if_neg (show ¬ (false = true) by decide)] at H; exact H
              clear H
              have H := H1
              clear H1
              by_cases c19 : a2 > 6
              · rw [if_pos c19] at H
                have c19b0 : decide (6 < a2) = true := decide_eq_true c19
                clear c19
                obtain rfl := Option.some.inj H
                go_wp2
                go_ret
                exact ⟨by first | rfl | (simp [errW_none, errW_some] <;> rfl) | (simp [*, errW_none, errW_some] <;> rfl), by repeat (first | (with_reducible first | exact HB.out | apply below_alloc | apply pw_below_drewN | apply below_drew1) | exact HB.out)⟩
              · rw [if_neg c19] at H
                have c19b0 : decide (6 < a2) = false := decide_eq_false c19
                clear c19
                by_cases c20 : (Int.tmod a2 2) = 0
                · rw [if_pos c20] at H
                  have c20b0 : ((Int.tmod a2 2) == 0) = true := beq_iff_eq.mpr c20
                  have c20b1 : ((Int.tmod a2 2) != 0) = false := bne_eq_false_iff_eq.mpr c20
                  clear c20
                  replace H := Option.bind_eq_some_iff.mp H
                  obtain ⟨t133, A210, H⟩ := H
                  replace H : ((spec_l7Choose.f kj13 (wrap64 (a1 - 1)) (wrap64 ((wrap64 (Int.tdiv a2 2)) - 1))).bind fun t134 => (some (wrap64 ((wrap64 (2 * t133)) * t134)))) = some r := H
                  have A21 := Aside0.mk A210
                  clear A210
                  replace H := Option.bind_eq_some_iff.mp H
                  obtain ⟨t134, A220, H⟩ := H
                  replace H : (some (wrap64 ((wrap64 (2 * t133)) * t134))) = some r := H
                  have A22 := Aside0.mk A220
                  clear A220
                  obtain rfl := Option.some.inj H
                  go_wp2_with (first | ((with_reducible refine gate_callee (f := 65) rfl ?_); refine goesL_ (some 40) rfl rfl Try.func65 (by kernel_rfl) rfl #[.int .i64 (wrap64 (a0 - 1)), .int .i64 (wrap64 ((wrap64 (Int.tdiv a2 2)) - 1))] rfl (by (try simp only [List.map_toArray, List.map_cons, List.map_nil]); first | done | rfl | (simp only [List.length_drop, List.length_take]; rfl)) ?_; (with_reducible refine (spec_l7Choose.calls kj13 (wrap64 (a0 - 1)) (wrap64 ((wrap64 (Int.tdiv a2 2)) - 1)) t133 _ A21.out).mono ?_); rintro e w' ⟨rfl, ⟨nd, rfl⟩⟩; refine ⟨_, rfl, ?_⟩) | ((with_reducible refine gate_callee (f := 65) rfl ?_); refine goesL_ (some 46) rfl rfl Try.func65 (by kernel_rfl) rfl #[.int .i64 (wrap64 (a1 - 1)), .int .i64 (wrap64 ((wrap64 (Int.tdiv a2 2)) - 1))] rfl (by (try simp only [List.map_toArray, List.map_cons, List.map_nil]); first | done | rfl | (simp only [List.length_drop, List.length_take]; rfl)) ?_; (with_reducible refine (spec_l7Choose.calls kj13 (wrap64 (a1 - 1)) (wrap64 ((wrap64 (Int.tdiv a2 2)) - 1)) t134 _ A22.out).mono ?_); rintro e w' ⟨rfl, ⟨nd, rfl⟩⟩; refine ⟨_, rfl, ?_⟩))
                  go_ret
                  exact ⟨by first | rfl | (simp [errW_none, errW_some] <;> rfl) | (simp [*, errW_none, errW_some] <;> rfl), by repeat (first | (with_reducible first | exact HB.out | apply below_alloc | apply pw_below_drewN | apply below_drew1) | exact HB.out)⟩
                · rw [if_neg c20] at H
                  have c20b0 : ((Int.tmod a2 2) == 0) = false := beq_eq_false_iff_ne.mpr c20
                  have c20b1 : ((Int.tmod a2 2) != 0) = true := bne_iff_ne.mpr c20
                  replace H := Option.bind_eq_some_iff.mp H
                  obtain ⟨t135, A230, H⟩ := H
                  replace H : ((spec_l7Choose.f kj13 (wrap64 (a1 - 1)) (wrap64 ((wrap64 (Int.tdiv a2 2)) - 1))).bind fun t136 => ((spec_l7Choose.f kj13 (wrap64 (a0 - 1)) (wrap64 ((wrap64 (Int.tdiv a2 2)) - 1))).bind fun t137 => ((spec_l7Choose.f kj13 (wrap64 (a1 - 1)) (wrap64 (Int.tdiv a2 2))).bind fun t138 => (some (wrap64 ((wrap64 (t135 * t136)) + (wrap64 (t137 * t138)))))))) = some r := H
                  have A23 := Aside0.mk A230
                  clear A230
                  replace H := Option.bind_eq_some_iff.mp H
                  obtain ⟨t136, A240, H⟩ := H
                  replace H : ((spec_l7Choose.f kj13 (wrap64 (a0 - 1)) (wrap64 ((wrap64 (Int.tdiv a2 2)) - 1))).bind fun t137 => ((spec_l7Choose.f kj13 (wrap64 (a1 - 1)) (wrap64 (Int.tdiv a2 2))).bind fun t138 => (some (wrap64 ((wrap64 (t135 * t136)) + (wrap64 (t137 * t138))))))) = some r := H
                  have A24 := Aside0.mk A240
                  clear A240
                  replace H := Option.bind_eq_some_iff.mp H
                  obtain ⟨t137, A250, H⟩ := H
                  replace H : ((spec_l7Choose.f kj13 (wrap64 (a1 - 1)) (wrap64 (Int.tdiv a2 2))).bind fun t138 => (some (wrap64 ((wrap64 (t135 * t136)) + (wrap64 (t137 * t138)))))) = some r := H
                  have A25 := Aside0.mk A250
                  clear A250
                  replace H := Option.bind_eq_some_iff.mp H
                  obtain ⟨t138, A260, H⟩ := H
                  replace H : (some (wrap64 ((wrap64 (t135 * t136)) + (wrap64 (t137 * t138))))) = some r := H
                  have A26 := Aside0.mk A260
                  clear A260
                  obtain rfl := Option.some.inj H
                  go_wp2_with (first | ((with_reducible refine gate_callee (f := 65) rfl ?_); refine goesL_ (some 51) rfl rfl Try.func65 (by kernel_rfl) rfl #[.int .i64 (wrap64 (a0 - 1)), .int .i64 (wrap64 (Int.tdiv a2 2))] rfl (by (try simp only [List.map_toArray, List.map_cons, List.map_nil]); first | done | rfl | (simp only [List.length_drop, List.length_take]; rfl)) ?_; (with_reducible refine (spec_l7Choose.calls kj13 (wrap64 (a0 - 1)) (wrap64 (Int.tdiv a2 2)) t135 _ A23.out).mono ?_); rintro e w' ⟨rfl, ⟨nd, rfl⟩⟩; refine ⟨_, rfl, ?_⟩) | ((with_reducible refine gate_callee (f := 65) rfl ?_); refine goesL_ (some 56) rfl rfl Try.func65 (by kernel_rfl) rfl #[.int .i64 (wrap64 (a1 - 1)), .int .i64 (wrap64 ((wrap64 (Int.tdiv a2 2)) - 1))] rfl (by (try simp only [List.map_toArray, List.map_cons, List.map_nil]); first | done | rfl | (simp only [List.length_drop, List.length_take]; rfl)) ?_; (with_reducible refine (spec_l7Choose.calls kj13 (wrap64 (a1 - 1)) (wrap64 ((wrap64 (Int.tdiv a2 2)) - 1)) t136 _ A24.out).mono ?_); rintro e w' ⟨rfl, ⟨nd, rfl⟩⟩; refine ⟨_, rfl, ?_⟩) | ((with_reducible refine gate_callee (f := 65) rfl ?_); refine goesL_ (some 62) rfl rfl Try.func65 (by kernel_rfl) rfl #[.int .i64 (wrap64 (a0 - 1)), .int .i64 (wrap64 ((wrap64 (Int.tdiv a2 2)) - 1))] rfl (by (try simp only [List.map_toArray, List.map_cons, List.map_nil]); first | done | rfl | (simp only [List.length_drop, List.length_take]; rfl)) ?_; (with_reducible refine (spec_l7Choose.calls kj13 (wrap64 (a0 - 1)) (wrap64 ((wrap64 (Int.tdiv a2 2)) - 1)) t137 _ A25.out).mono ?_); rintro e w' ⟨rfl, ⟨nd, rfl⟩⟩; refine ⟨_, rfl, ?_⟩) | ((with_reducible refine gate_callee (f := 65) rfl ?_); refine goesL_ (some 66) rfl rfl Try.func65 (by kernel_rfl) rfl #[.int .i64 (wrap64 (a1 - 1)), .int .i64 (wrap64 (Int.tdiv a2 2))] rfl (by (try simp only [List.map_toArray, List.map_cons, List.map_nil]); first | done | rfl | (simp only [List.length_drop, List.length_take]; rfl)) ?_; (with_reducible refine (spec_l7Choose.calls kj13 (wrap64 (a1 - 1)) (wrap64 (Int.tdiv a2 2)) t138 _ A26.out).mono ?_); rintro e w' ⟨rfl, ⟨nd, rfl⟩⟩; refine ⟨_, rfl, ?_⟩))
                  go_ret
                  exact ⟨by first | rfl | (simp [errW_none, errW_some] <;> rfl) | (simp [*, errW_none, errW_some] <;> rfl), by repeat (first | (with_reducible first | exact HB.out | apply below_alloc | apply pw_below_drewN | apply below_drew1) | exact HB.out)⟩

/-! ### impl_CountRowOk: function 66 -/
def impl_CountRowOk.l0 : Nat → Int → List Int → Int → List Int → Int → Int → Option (Bool)
  | 0, _, _, _, _, _, _ => none
  | k + 1, x0, x1, x5, x8, x9, x10 => if x10 < x9 then (if 0 ≤ x10 then (if x10 < (x8.length : Int) then (if (rd x8 x10) < 0 then (some false) else (if (rd x8 x10) > x5 then (some false) else (impl_CountRowOk.l0 k x0 x1 (wrap64 (x5 - (rd x8 x10))) x8 x9 (wrap64 (x10 + 1))))) else (none)) else (none)) else ((impl_coloursOk.f x0).bind fun t140 => (if t140 = true then (some ((x1.length : Int) == x0)) else (some false)))
def impl_CountRowOk.f (k : Nat) (a0 : Int) (l1 : List Int) : Option (Bool) := impl_CountRowOk.l0 k a0 l1 6 l1 (l1.length : Int) 0
set_option maxHeartbeats 8000000 in
set_option maxRecDepth 100000 in
theorem impl_CountRowOk.calls (k : Nat) (a0 : Int) (A1 : Option Addr) (c1 : Nat) (l1 : List Int) (r : Bool) (w : World) (hr1 : Kd.C (Kd.int .i64) w A1 l1.length l1) (hc1 : l1.length ≤ c1) (h : impl_CountRowOk.f k a0 l1 = some r) :
    Calls Try.prog 66 #[.int .i64 a0, .slice A1 l1.length c1] w fun e w' => e = .returned (.bool r) ∧ Drawn0 w w' := by
  have HR1 := Aside0.mk hr1
  have HC1 := Aside0.mk hc1
  clear hr1 hc1
  have H : (impl_CountRowOk.l0 k a0 l1 6 l1 (l1.length : Int) 0) = some r := h
  clear h
  have H' := Aside0.mk H
  clear H
  go_enter Try.func66, Try.ntmps66
  go_wp2
  go_loopg [5, 10] k (fun kq v5 v10 w' => ∃ (x5_1 : Int) (x10_1 : Int), v5 = .int .i64 x5_1 ∧ v10 = .int .i64 x10_1 ∧ Aside0 (impl_CountRowOk.l0 kq a0 l1 x5_1 l1 (l1.length : Int) x10_1 = some r) ∧ Aside0 (kq ≤ k) ∧ Drawn0 w w')
  case atStart => exact ⟨(6), (0), (by first | rfl | (simp; done) | (simp [*]; done)), (by first | rfl | (simp; done) | (simp [*]; done)), H', ⟨Nat.le_refl _⟩, by repeat (first | exact Drawn0.refl _ | apply Drawn0.step)⟩
  case round =>
    clear H'
    try clear c1
    try clear p2
    obtain ⟨x5_1, x10_1, rfl, rfl, HA, HK1, ⟨m1, rfl⟩⟩ := hrel
    cases gk with
    | zero => exact absurd HA.out (by simp [impl_CountRowOk.l0])
    | succ k1 =>
      have H := HA.out
      clear HA
      simp only [impl_CountRowOk.l0] at H
      by_cases c3 : x10_1 < (l1.length : Int)
      · rw [if_pos c3] at H
        have c3b0 : decide (x10_1 < (l1.length : Int)) = true := decide_eq_true c3
        clear c3
        by_cases c4 : 0 ≤ x10_1
        · rw [if_pos c4] at H
          have c4b0 : decide (0 ≤ x10_1) = true := decide_eq_true c4
          clear c4
          by_cases c5 : x10_1 < (l1.length : Int)
          · rw [if_pos c5] at H
            have c5b0 : decide (x10_1 < (l1.length : Int)) = true := decide_eq_true c5
            clear c5
            by_cases c6 : (rd l1 x10_1) < 0
            · rw [if_pos c6] at H
              have c6b0 : decide ((rd l1 x10_1) < 0) = true := decide_eq_true c6
              clear c6
              obtain rfl := Option.some.inj H
              have p139 : 0 ≤ (x10_1 : Int) := of_decide_eq_true (by first | (with_reducible assumption) | assumption)
              have q139 : x10_1 < (l1.length : Int) := of_decide_eq_true (by first | (with_reducible assumption) | assumption)
              obtain ⟨ad139, e139, hx139_0⟩ := Kd.at_int HR1.out x10_1 p139 q139
              cases e139
              replace p139 := eq_true p139
              replace q139 := eq_true q139
              go_wp2
              go_ret
              exact ⟨by first | rfl | (simp; done) | (simp [*]; done), by repeat (first | exact Drawn0.refl _ | apply Drawn0.step)⟩
            · rw [if_neg c6] at H
              have c6b0 : decide ((rd l1 x10_1) < 0) = false := decide_eq_false c6
              clear c6
              by_cases c7 : (rd l1 x10_1) > x5_1
              · rw [if_pos c7] at H
                have c7b0 : decide (x5_1 < (rd l1 x10_1)) = true := decide_eq_true c7
                clear c7
                obtain rfl := Option.some.inj H
                have p139 : 0 ≤ (x10_1 : Int) := of_decide_eq_true (by first | (with_reducible assumption) | assumption)
                have q139 : x10_1 < (l1.length : Int) := of_decide_eq_true (by first | (with_reducible assumption) | assumption)
                obtain ⟨ad139, e139, hx139_0⟩ := Kd.at_int HR1.out x10_1 p139 q139
                cases e139
                replace p139 := eq_true p139
                replace q139 := eq_true q139
                go_wp2
                go_ret
                exact ⟨by first | rfl | (simp; done) | (simp [*]; done), by repeat (first | exact Drawn0.refl _ | apply Drawn0.step)⟩
              · rw [if_neg c7] at H
                have c7b0 : decide (x5_1 < (rd l1 x10_1)) = false := decide_eq_false c7
                clear c7
                have H' := Aside0.mk H
                clear H
                have p139 : 0 ≤ (x10_1 : Int) := of_decide_eq_true (by first | (with_reducible assumption) | assumption)
                have q139 : x10_1 < (l1.length : Int) := of_decide_eq_true (by first | (with_reducible assumption) | assumption)
                obtain ⟨ad139, e139, hx139_0⟩ := Kd.at_int HR1.out x10_1 p139 q139
                cases e139
                replace p139 := eq_true p139
                replace q139 := eq_true q139
                go_wp2
                go_roundg k1
                case measure => have := HK1.out; omega
                case rel => exact ⟨(wrap64 (x5_1 - (rd l1 x10_1))), (wrap64 (x10_1 + 1)), (by first | rfl | (simp; done) | (simp [*]; done)), (by first | rfl | (simp; done) | (simp [*]; done)), H', ⟨by have := HK1.out; omega⟩, by repeat (first | exact Drawn0.refl _ | apply Drawn0.step)⟩
          · rw [if_neg c5] at H
            exact absurd H (by simp)
        · rw [if_neg c4] at H
          exact absurd H (by simp)
      · rw [if_neg c3] at H
        have c3b0 : decide (x10_1 < (l1.length : Int)) = false := decide_eq_false c3
        clear c3
        replace H := Option.bind_eq_some_iff.mp H
        obtain ⟨t140, A80, H⟩ := H
        replace H : (if t140 = true then (some ((l1.length : Int) == a0)) else (some false)) = some r := H
        have A8 := Aside0.mk A80
        clear A80
        by_cases c9 : t140 = true
        · subst c9
          have H1 : (some ((l1.length : Int) == a0)) = some r := by rw [if_pos rfl] at H; exact H
          clear H
          have H := H1
          clear H1
          obtain rfl := Option.some.inj H
          go_wp2_with (first | ((with_reducible refine gate_callee (f := 62) rfl ?_); refine goesL_ (some 26) rfl rfl Try.func62 (by kernel_rfl) rfl #[.int .i64 a0] rfl (by (try simp only [List.map_toArray, List.map_cons, List.map_nil]); first | done | rfl | (simp only [List.length_drop, List.length_take]; rfl)) ?_; (with_reducible refine (impl_coloursOk.calls a0 true _ A8.out).mono ?_); rintro e w' ⟨rfl, ⟨nd, rfl⟩⟩; refine ⟨_, rfl, ?_⟩))
          go_ret
          exact ⟨by first | rfl | (simp; done) | (simp [*]; done), by repeat (first | exact Drawn0.refl _ | apply Drawn0.step)⟩
        · replace c9 := Bool.eq_false_iff.mpr c9
          subst c9
          have H1 : (some false) = some r := by rw [if_neg (show ¬ (false = true) by decide)] at H; exact H
          clear H
          have H := H1
          clear H1
          obtain rfl := Option.some.inj H
          go_wp2_with (first | ((with_reducible refine gate_callee (f := 62) rfl ?_); refine goesL_ (some 26) rfl rfl Try.func62 (by kernel_rfl) rfl #[.int .i64 a0] rfl (by (try simp only [List.map_toArray, List.map_cons, List.map_nil]); first | done | rfl | (simp only [List.length_drop, List.length_take]; rfl)) ?_; (with_reducible refine (impl_coloursOk.calls a0 false _ A8.out).mono ?_); rintro e w' ⟨rfl, ⟨nd, rfl⟩⟩; refine ⟨_, rfl, ?_⟩))
          go_ret
          exact ⟨by first | rfl | (simp; done) | (simp [*]; done), by repeat (first | exact Drawn0.refl _ | apply Drawn0.step)⟩

/-- Nothing but the block nb, and the block ob, has turned. -/
structure But (nb : Nat) (ob : Option Nat) (w w' : World) : Prop where
  os : w'.os = w.os
  tape : w'.tape = w.tape
  output : w'.output = w.output
  size : w.heap.size ≤ w'.heap.size
  block : ∀ k, k < w.heap.size → k ≠ nb → some k ≠ ob → w'.heap[k]? = w.heap[k]?
theorem But.refl (nb : Nat) (ob : Option Nat) (w : World) : But nb ob w w := ⟨rfl, rfl, rfl, Nat.le_refl _, fun _ _ _ _ => rfl⟩
theorem But.trans {nb : Nat} {ob : Option Nat} {a b c : World} (h : But nb ob a b) (k : But nb ob b c) : But nb ob a c :=
  ⟨k.os.trans h.os, k.tape.trans h.tape, k.output.trans h.output, Nat.le_trans h.size k.size, fun i hi h1 h2 => (k.block i (Nat.lt_of_lt_of_le hi h.size) h1 h2).trans (h.block i hi h1 h2)⟩
theorem But.wide {nb : Nat} {ob : Option Nat} {w w' : World} (h : But nb none w w') : But nb ob w w' := ⟨h.os, h.tape, h.output, h.size, fun k hk h1 _ => h.block k hk h1 (by simp)⟩
theorem But.of_below {nb : Nat} {ob : Option Nat} {w w' : World} (h : Below w.heap.size w w') : But nb ob w w' := ⟨h.os, h.tape, h.output, h.size, fun k hk _ _ => h.block k hk⟩
theorem But.below {nb : Nat} {ob : Option Nat} {w w' : World} (h : But nb ob w w') {B : Nat} (h1 : B ≤ nb) (h2 : ∀ k, ob = some k → B ≤ k) (h3 : B ≤ w.heap.size) : Below B w w' :=
  ⟨h.os, h.tape, h.output, h.size, fun k hk => h.block k (Nat.lt_of_lt_of_le hk h3) (by omega) (fun e => by have := h2 k e.symm; omega)⟩
theorem But.narrow {nb : Nat} {ob : Option Nat} {w w1 w' : World} (hw : But nb none w w1) (h : But nb ob w1 w') (h2 : ∀ k, ob = some k → w.heap.size ≤ k) : But nb none w w' :=
  ⟨h.os.trans hw.os, h.tape.trans hw.tape, h.output.trans hw.output, Nat.le_trans hw.size h.size, fun k hk h1 _ => (h.block k (Nat.lt_of_lt_of_le hk hw.size) h1 (fun e => by have := h2 k e.symm; omega)).trans (hw.block k hk h1 (by simp))⟩
theorem But.drewN {nb : Nat} {ob : Option Nat} {w w' : World} (h : But nb ob w w') (n : Nat) : But nb ob w (w'.drewN n) := h.trans (But.of_below (pw_below_drewN (Below.refl _ _) n))
theorem But.set_nb {nb : Nat} {ob : Option Nat} {w w' : World} (h : But nb ob w w') (j : Nat) (v : Value) : But nb ob w (w'.setCell ⟨nb, j, none⟩ v) :=
  h.trans ⟨rfl, rfl, rfl, by simp [World.setCell], fun k _ h1 _ => Below.heap_setCell _ _ _ _ h1⟩
theorem But.set_ob {nb o : Nat} {w w' : World} (h : But nb (some o) w w') (j : Nat) (v : Value) : But nb (some o) w (w'.setCell ⟨o, j, none⟩ v) :=
  h.trans ⟨rfl, rfl, rfl, by simp [World.setCell], fun k _ _ h2 => Below.heap_setCell _ _ _ _ (fun e => h2 (by rw [e]))⟩
/-- A block other than these holds what it held. -/
theorem But.keep {nb : Nat} {ob : Option Nat} {w w' : World} (h : But nb ob w w') {g : Nat} {o : Obj} (hg : w.heap[g]? = some o) (h1 : g ≠ nb) (h2 : some g ≠ ob) : w'.heap[g]? = some o := (h.block g (blk_lt hg) h1 h2).trans hg

/-- The counter: a block of one number. -/
def Cnt (nb : Nat) (s : Int) (w : World) : Prop := w.heap[nb]? = some (.cells #[.int .i64 s] 3 (0, 0))

/-- The told function (ft, with what it captured): at each word it brings the counter from s to T word s; of the elder world W nothing has turned. -/
structure Told (W : World) (nb ft : Nat) (cap : Array Value) (T : List Int → Int → Option Int) : Prop where
  ent : ∀ (args : Array Value) (w : World), (callFunc ft args).run Try.prog w = .ok (.enter ft args) w
  call : ∀ (A : Option Addr) (c : Nat) (u : List Int) (s r : Int) (w : World), But nb none W w → Kd.C (Kd.int .i64) w A u.length u → u.length ≤ c → Cnt nb s w → T u s = some r →
    Calls Try.prog ft (#[.slice A u.length c] ++ cap) w fun e w' => e = .returned (.tuple #[]) ∧ Cnt nb r w' ∧ But nb none w w'

/-- The rounds over the colours: n to come, the next one is c. -/
def wl (g : Int → Int → Option Int) : Nat → Int → Int → Option Int
  | 0, _, s => some s
  | n + 1, c, s => (g c s).bind fun s1 => wl g n (c + 1) s1
/-- All words that begin with pre and have d draws more, over cs colours. -/
def wk (T : List Int → Int → Option Int) (cs : Nat) : Nat → List Int → Int → Option Int
  | 0, pre, s => T pre s
  | d + 1, pre, s => wl (fun c s => wk T cs d (pre ++ [c]) s) cs 0 s

/-- The captured variables of 'try'. -/
structure Env (cs M mb tb wb cb yb ft : Nat) (cap : Array Value) (wv : Value) (nb : Nat) (w : World) : Prop where
  c : w.heap[cb]? = some (.cells #[.int .i64 (cs : Int)] 3 (0, 0))
  m : w.heap[mb]? = some (.cells #[.int .i64 (M : Int)] 3 (0, 0))
  t : w.heap[tb]? = some (.cells #[.func (.func ft) #[] cap] 70 (0, 0))
  v : w.heap[wb]? = some (.cells #[wv] 22 (0, 0))
  y : w.heap[yb]? = some (.cells #[.func (.func 81) #[] #[.pointer (some ⟨mb, 0, none⟩), .pointer (some ⟨tb, 0, none⟩), .pointer (some ⟨wb, 0, none⟩), .pointer (some ⟨cb, 0, none⟩), .pointer (some ⟨yb, 0, none⟩)]] 85 (0, 0))
  nc : cb ≠ nb ∧ some cb ≠ wv.ownBlock
  nm : mb ≠ nb ∧ some mb ≠ wv.ownBlock
  nt : tb ≠ nb ∧ some tb ≠ wv.ownBlock
  nv : wb ≠ nb ∧ some wb ≠ wv.ownBlock
  ny : yb ≠ nb ∧ some yb ≠ wv.ownBlock
theorem Env.keep {cs M mb tb wb cb yb ft nb : Nat} {cap : Array Value} {wv : Value} {w w' : World} (h : Env cs M mb tb wb cb yb ft cap wv nb w) (b : But nb wv.ownBlock w w') : Env cs M mb tb wb cb yb ft cap wv nb w' :=
  ⟨b.keep h.c h.nc.1 h.nc.2, b.keep h.m h.nm.1 h.nm.2, b.keep h.t h.nt.1 h.nt.2, b.keep h.v h.nv.1 h.nv.2, b.keep h.y h.ny.1 h.ny.2, h.nc, h.nm, h.nt, h.nv, h.ny⟩

/-- What a call of 'try' leaves. -/
def After (nb a M : Nat) (wv : Value) (base : Nat) (L : List Int) (r : Int) (w : World) (e : Ending) (w' : World) : Prop :=
  e = .returned (.tuple #[]) ∧ Cnt nb r w' ∧ But nb wv.ownBlock w w' ∧ ∃ L' : List Int, L'.length = M ∧ L'.take a = L.take a ∧ Kd.R (Kd.int .i64) 3 w' base (fun k => k ≠ nb) wv L'
theorem al_new (w : World) (o : Obj) {k : Nat} (hk : k = w.heap.size) : (w.alloc o).heap[k]? = some o := by subst hk; show (w.heap.push o)[_]? = _; simp
theorem al_old {w : World} {o x : Obj} {k : Nat} (h : w.heap[k]? = some x) : (w.alloc o).heap[k]? = some x := (Below.heap_alloc w o k (blk_lt h)).trans h
theorem al_size (w : World) (o : Obj) : (w.alloc o).heap.size = w.heap.size + 1 := by simp
theorem bl_keep {B k : Nat} {w w' : World} {x : Obj} (hb : Below B w w') (h : w.heap[k]? = some x) (hk : k < B) : w'.heap[k]? = some x := (hb.block k hk).trans h
theorem cnt_set {nb : Nat} {s v : Int} {w : World} (h : Cnt nb s w) : Cnt nb v (w.setCell ⟨nb, 0, none⟩ (.int .i64 v)) := one_setCell h
set_option maxHeartbeats 8000000 in
set_option maxRecDepth 100000 in
theorem try_calls {W : World} {nb ft : Nat} {cap : Array Value} {T : List Int → Int → Option Int} (hT : Told W nb ft cap T) {cs M mb tb wb cb yb : Nat} {wv : Value} :
    ∀ (d a : Nat) (L : List Int) (s r : Int) (w : World), a + d = M → L.length = M → M ≤ 100 → cs ≤ 100 → Env cs M mb tb wb cb yb ft cap wv nb w → Kd.R (Kd.int .i64) 3 w W.heap.size (fun k => k ≠ nb) wv L → But nb none W w → Cnt nb s w →
      wk T cs d (L.take a) s = some r →
      Calls Try.prog 81 #[.int .i64 (a : Int), .pointer (some ⟨mb, 0, none⟩), .pointer (some ⟨tb, 0, none⟩), .pointer (some ⟨wb, 0, none⟩), .pointer (some ⟨cb, 0, none⟩), .pointer (some ⟨yb, 0, none⟩)] w (After nb a M wv W.heap.size L r w) := by
  intro d
  induction d with
  | zero =>
    intro a L s r w had hL hM hcs hE hR hB hs h
    obtain rfl : a = M := by omega
    obtain ⟨A, c, rfl, hc, hC⟩ := Kd.R_reads hR
    have HE := Aside0.mk hE
    have HT := Aside0.mk (hT.call A c L s r w hB hC hc hs (by rw [wk] at h; rw [List.take_of_length_le (by omega)] at h; exact h))
    rw [hL] at HT
    have e1 := cell_of_one hE.m
    have e2 := cell_of_one hE.t
    rw [hL] at hE
    have e3 := cell_of_one hE.v
    have hent := hT.ent
    clear hE hC hs h hT hB
    have HR := Aside0.mk hR
    clear hR
    have HL := Aside0.mk hL
    clear hL
    go_enter Try.func81, Try.ntmps81
    go_wp2_with (first | ((with_reducible refine HT.out.mono ?_); rintro e w' ⟨rfl, hs', hb'⟩))
    go_end0
    exact ⟨rfl, hs', hb'.wide, L, HL.out, rfl, Kd.R_step HR.out (fun k hk hl => hb'.block k hl hk (by simp))⟩
  | succ d ih =>
    intro a L s r w had hL hM hcs hE hR hB hs h
    obtain ⟨g, cp, rfl, hg1, hg2, _, hg3⟩ := Kd.R_form hR (by omega)
    have hgn : g ≠ nb := hR.1 g rfl
    have e1 := cell_of_one hE.m
    have e4 := cell_of_one hE.c
    have c1 : ((a : Int) == (M : Int)) = false := beq_eq_false_iff_ne.mpr (by omega)
    have HE := Aside0.mk hE
    have HR := Aside0.mk hR
    have HB := Aside0.mk hB
    have HS := Aside0.mk hs
    have HH := Aside0.mk (show wl (fun c s => wk T cs d (L.take a ++ [c]) s) cs 0 s = some r from h)
    have HT := Aside0.mk hT
    have HL := Aside0.mk hL
    have HG := Aside0.mk hg3
    clear hE hR hB hs h hT hL hg3
    go_enter Try.func81, Try.ntmps81
    go_wp2
    go_loopg [15] cs (fun kq v15 w' => ∃ (c s1 : Int) (L1 : List Int), v15 = .int .i64 c ∧ Aside0 (c + kq = cs ∧ 0 ≤ c) ∧ Aside0 (wl (fun c s => wk T cs d (L.take a ++ [c]) s) kq c s1 = some r) ∧ Aside0 (Cnt nb s1 w') ∧ Aside0 (But nb (some g) w w') ∧ Aside0 (L1.length = M ∧ L1.take a = L.take a) ∧ Aside0 (Kd.R (Kd.int .i64) 3 w' W.heap.size (fun k => k ≠ nb) (.slice (some ⟨g, 0, none⟩) L.length cp) L1))
    case atStart => exact ⟨0, s, L, rfl, ⟨by omega, by omega⟩, HH, HS, ⟨But.refl _ _ _⟩, ⟨HL.out, rfl⟩, HR⟩
    case round =>
      obtain ⟨c, s1, L1, rfl, HC, HA, HS1, HB1, HL1, HR1⟩ := hrel
      have hE1 := HE.out.keep HB1.out
      cases gk with
      | zero =>
        have c2 : decide (c < (cs : Int)) = false := decide_eq_false (by have := HC.out; omega)
        clear hE1 c1 e1 e4
        have hA := Option.some.inj HA.out
        go_wp2
        go_end0
        exact ⟨rfl, by rw [← hA]; exact HS1.out, HB1.out, L1, HL1.out.1, HL1.out.2, HR1.out⟩
      | succ n =>
        have hA := HA.out
        simp only [wl] at hA
        obtain ⟨s2, hA2, hA3⟩ := Option.bind_eq_some_iff.mp hA
        have c2 : decide (c < (cs : Int)) = true := decide_eq_true (by have := HC.out; omega)
        have hLs : ((L1.set a c).take (a + 1)) = L.take a ++ [c] := by
          rw [← HL1.out.2, List.take_add_one, List.take_set_of_le (by omega), List.getElem?_set_self (by have := HL1.out.1; omega)]
          rfl
        have hw : But nb (some g) w (wr.setCell ⟨g, a, none⟩ (.int .i64 c)) := HB1.out.set_ob a _
        have hR2 := Kd.R_putg HR1.out (a : Int) c
        have HI := ih (a + 1) (L1.set a c) s1 s2 (wr.setCell ⟨g, a, none⟩ (.int .i64 c)) (by omega) (by rw [List.length_set]; exact HL1.out.1) hM hcs (HE.out.keep hw) hR2.1 (HB.out.narrow hw (fun k hk => by obtain rfl := Option.some.inj hk; exact hg1)) (by show (World.setCell _ _ _).heap[nb]? = _; rw [Below.heap_setCell _ _ _ _ (fun h => hgn h.symm)]; exact HS1.out) (by rw [hLs]; exact hA2)
        rw [show ((a + 1 : Nat) : Int) = (a : Int) + 1 from rfl] at HI
        have HI := Aside0.mk HI
        have b1 : 0 ≤ c := HC.out.2
        have b2 : c ≤ 100 := by have := HC.out; omega
        have e3 := cell_of_one hE1.v
        have e5 := cell_of_one (HE.out.keep hw).y
        have e6 := Kd.R_celln 0 HR1.out (a : Int) (by omega) (by have := HL.out; omega)
        obtain ⟨e7, e8⟩ := e6
        rw [Int.toNat_natCast] at e7 e8
        have qa : a < M := by omega
        rw [HL.out] at e3
        have HA3 := Aside0.mk hA3
        have HW := Aside0.mk hw
        clear hA2 hA3 hLs hR2 hw hE1 c1 e1 e4 hA HA
        go_wp2_with (first | ((with_reducible refine HI.out.mono ?_); rintro e w' ⟨rfl, hs2, hb2, L2, hL2, ht2, hr2⟩))
        go_roundg n
        case measure => omega
        case rel => exact ⟨c + 1, s2, L2, rfl, ⟨by have := HC.out; omega, by have := HC.out; omega⟩, HA3, ⟨hs2⟩, ⟨HW.out.trans hb2⟩, ⟨hL2, by
          have h1 := congrArg (List.take a) ht2
          rw [List.take_take, List.take_take, Nat.min_eq_left (by omega), List.take_set_of_le (by omega)] at h1
          rw [h1]; exact HL1.out.2⟩, ⟨hr2⟩⟩
set_option maxHeartbeats 8000000 in
set_option maxRecDepth 100000 in
theorem words_calls {W : World} {nb ft : Nat} {cap : Array Value} {T : List Int → Int → Option Int} (hT : Told W nb ft cap T) {cs M : Nat} {s r : Int} {w : World} (hM : M ≤ 100) (hcs : cs ≤ 100)
    (hB : But nb none W w) (hs : Cnt nb s w) (h : wk T cs M [] s = some r) :
    Calls Try.prog 50 #[.int .i64 (cs : Int), .int .i64 (M : Int), .func (.func ft) #[] cap] w fun e w' => e = .returned (.tuple #[]) ∧ Cnt nb r w' ∧ But nb none w w' := by
  have HB := Aside0.mk hB
  have HS := Aside0.mk hs
  have HH := Aside0.mk h
  have HT := Aside0.mk hT
  have HN := Aside0.mk (blk_lt hs)
  clear hB hs h hT
  have hsf := fun (a : Addr) (c : Array Value) (w : World) => run_store Try.prog w a (.func (.func 81) #[] c) .plain rfl
  go_enter Try.func50, Try.ntmps50
  go_wp2_with (first | ((with_reducible refine gate_dst (N := 9) rfl ?_); refine Kd.R_make (Kd.int .i64) _ 3 rfl (N := 9) rfl 22 _ _ rfl (M : Int) rfl rfl Try.underlying22 (.int .i64 0) 8 info3 rfl (by decide) (by omega) 0 (ok := fun k => k ≠ nb) (okp := fun k => k ≠ nb) rfl (fun _ hk => hk) ?hfr (by omega) ?hsz (Below.refl _ _) (Nat.le_refl _) ?_; (case hfr => simp; have := HN.out; omega); (case hsz => omega); intro v1 w1 hR hB2 hg hn; clear hg; obtain ⟨A1, c1, rfl⟩ := Kd.R_slice hR))
  simp only [Int.toNat_natCast, List.length_replicate] at hR hn
  obtain ⟨b, hb1, hb2⟩ := hn
  simp only [al_size] at hb2 hB2 hR
  have z1 := hB2.size
  simp only [al_size] at z1
  have hbn : b ≠ nb := fun e => by have := HN.out; omega
  have hBw : Below w.heap.size w w1 := (below_alloc (below_alloc (below_alloc (Below.refl _ _) _) _) _).trans (hB2.mono (by omega))
  have hn1 := HN.out
  have hb4 : b < w1.heap.size := by
    obtain ⟨inner, ho⟩ := Kd.R_own hR
    exact own_lt ho b hb1
  have ew := (below_alloc (below_alloc hBw (.cells #[.slice A1 M c1] 22)) (.cells #[.func (.func 81) #[] #[.pointer (some ⟨w.heap.size + 1, 0, none⟩), .pointer (some ⟨w.heap.size + 1 + 1, 0, none⟩), .pointer (some ⟨w1.heap.size, 0, none⟩), .pointer (some ⟨w.heap.size, 0, none⟩), .pointer (some ⟨w1.heap.size + 1, 0, none⟩)]] 85))
  refine (try_calls HT.out (d := M) (a := 0) (L := List.replicate M 0) (s := s) (r := r) (cs := cs) (M := M) (wv := .slice A1 M c1) (mb := w.heap.size + 1) (tb := w.heap.size + 1 + 1) (wb := w1.heap.size) (cb := w.heap.size) (yb := w1.heap.size + 1) _ (by omega) (by simp) hM hcs ⟨al_old (al_old (bl_keep hB2 (al_old (al_old (al_new _ _ rfl))) (by omega))), al_old (al_old (bl_keep hB2 (al_old (al_new _ _ (by simp))) (by omega))), al_old (al_old (bl_keep hB2 (al_new _ _ (by simp)) (by omega))), al_old (al_new _ _ rfl), al_new _ _ (by simp), ⟨by omega, ?_⟩, ⟨by omega, ?_⟩, ⟨by omega, ?_⟩, ⟨by omega, ?_⟩, ⟨by omega, ?_⟩⟩ (Kd.R_alloc (Kd.R_alloc (Kd.R_lower hR (by have := HB.out.size; omega)) _) _) (HB.out.trans (But.of_below ew)) ((ew.block nb hn1).trans HS.out) HH.out).mono ?_
  iterate 5 (rw [hb1]; simp; omega)
  rintro e w' ⟨rfl, hs2, hb3, L2, -, -, -⟩
  rw [hb1] at hb3
  have hfin := But.narrow (But.of_below ew) hb3 (fun k hk => by have := Option.some.inj hk; omega)
  go_wp2
  go_end0
  exact ⟨rfl, hs2, hfin⟩

/-! ### impl_sum: function 88 -/
def impl_sum.l0 : Nat → Int → List Int → Int → Int → Option (Int)
  | 0, _, _, _, _ => none
  | k + 1, x3, x6, x7, x8 => if x8 < x7 then (if 0 ≤ x8 then (if x8 < (x6.length : Int) then (impl_sum.l0 k (wrap64 (x3 + (rd x6 x8))) x6 x7 (wrap64 (x8 + 1))) else (none)) else (none)) else (some x3)
def impl_sum.f (k : Nat) (l0 : List Int) : Option (Int) := impl_sum.l0 k 0 l0 (l0.length : Int) 0
set_option maxHeartbeats 8000000 in
set_option maxRecDepth 100000 in
theorem impl_sum.calls (k : Nat) (A0 : Option Addr) (c0 : Nat) (l0 : List Int) (r : Int) (w : World) (hr0 : Kd.C (Kd.int .i64) w A0 l0.length l0) (hc0 : l0.length ≤ c0) (h : impl_sum.f k l0 = some r) :
    Calls Try.prog 88 #[.slice A0 l0.length c0] w fun e w' => e = .returned (.int .i64 r) ∧ Drawn0 w w' := by
  have HR0 := Aside0.mk hr0
  have HC0 := Aside0.mk hc0
  clear hr0 hc0
  have H : (impl_sum.l0 k 0 l0 (l0.length : Int) 0) = some r := h
  clear h
  have H' := Aside0.mk H
  clear H
  go_enter Try.func88, Try.ntmps88
  go_wp2
  go_loopg [3, 8] k (fun kq v3 v8 w' => ∃ (x3_1 : Int) (x8_1 : Int), v3 = .int .i64 x3_1 ∧ v8 = .int .i64 x8_1 ∧ Aside0 (impl_sum.l0 kq x3_1 l0 (l0.length : Int) x8_1 = some r) ∧ Aside0 (kq ≤ k) ∧ Drawn0 w w')
  case atStart => exact ⟨(0), (0), (by first | rfl | (simp; done) | (simp [*]; done)), (by first | rfl | (simp; done) | (simp [*]; done)), H', ⟨Nat.le_refl _⟩, by repeat (first | exact Drawn0.refl _ | apply Drawn0.step)⟩
  case round =>
    clear H'
    obtain ⟨x3_1, x8_1, rfl, rfl, HA, HK1, ⟨m1, rfl⟩⟩ := hrel
    cases gk with
    | zero => exact absurd HA.out (by simp [impl_sum.l0])
    | succ k1 =>
      have H := HA.out
      clear HA
      simp only [impl_sum.l0] at H
      by_cases c2 : x8_1 < (l0.length : Int)
      · rw [if_pos c2] at H
        have c2b0 : decide (x8_1 < (l0.length : Int)) = true := decide_eq_true c2
        clear c2
        by_cases c3 : 0 ≤ x8_1
        · rw [if_pos c3] at H
          have c3b0 : decide (0 ≤ x8_1) = true := decide_eq_true c3
          clear c3
          by_cases c4 : x8_1 < (l0.length : Int)
          · rw [if_pos c4] at H
            have c4b0 : decide (x8_1 < (l0.length : Int)) = true := decide_eq_true c4
            clear c4
            have H' := Aside0.mk H
            clear H
            have p141 : 0 ≤ (x8_1 : Int) := of_decide_eq_true (by first | (with_reducible assumption) | assumption)
            have q141 : x8_1 < (l0.length : Int) := of_decide_eq_true (by first | (with_reducible assumption) | assumption)
            obtain ⟨ad141, e141, hx141_0⟩ := Kd.at_int HR0.out x8_1 p141 q141
            cases e141
            replace p141 := eq_true p141
            replace q141 := eq_true q141
            go_wp2
            go_roundg k1
            case measure => have := HK1.out; omega
            case rel => exact ⟨(wrap64 (x3_1 + (rd l0 x8_1))), (wrap64 (x8_1 + 1)), (by first | rfl | (simp; done) | (simp [*]; done)), (by first | rfl | (simp; done) | (simp [*]; done)), H', ⟨by have := HK1.out; omega⟩, by repeat (first | exact Drawn0.refl _ | apply Drawn0.step)⟩
          · rw [if_neg c4] at H
            exact absurd H (by simp)
        · rw [if_neg c3] at H
          exact absurd H (by simp)
      · rw [if_neg c2] at H
        have c2b0 : decide (x8_1 < (l0.length : Int)) = false := decide_eq_false c2
        clear c2
        obtain rfl := Option.some.inj H
        go_wp2
        go_ret
        exact ⟨by first | rfl | (simp; done) | (simp [*]; done), by repeat (first | exact Drawn0.refl _ | apply Drawn0.step)⟩

end Go.Proofs.Ytojaioejdfibhaa.PFnRunWords
